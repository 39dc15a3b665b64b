/- Parts of a proof. -/
import Derived.WalkKit
import Derived.Test.YtapgojgcmlnbgacProg
import Derived.ProofKit
import Derived.OpenShut
import Derived.SizedLaws
import Derived.DeepKeys
import Derived.ChangeArms
import Derived.Laws.AppendOwnNone
import Derived.Deep.AppendLies
import Derived.Laws.Rows
import Derived.Laws.Tables
import Derived.Laws.CopyRow
set_option linter.unusedSimpArgs false
set_option linter.unusedVariables false
set_option maxRecDepth 100000
set_option maxHeartbeats 16000000
namespace Go.Proofs.Ytapgojgcmlnbgac
open Go.RowKit
theorem wp_gen {P:Program} {c:Code} {Q:Exit→Act→World→Prop} {a:Act} {w:World} (h:∀ w',w'=w→c.wp P Q a w'):c.wp P Q a w:=h w rfl
theorem ret_bool {a b:Bool} (h:a=b):Ending.returned (.bool a)=Ending.returned (.bool b):=by rw [h]
theorem ret_int {k:IntKind} {a b:Int} (h:a=b):Ending.returned (.int k a) = .returned (.int k b):=by rw [h]
theorem ret_tup {k:IntKind} {a b:Int} {c:Bool} (h:a=b):Ending.returned (.tuple #[.int k a, .bool c]) = .returned (.tuple #[.int k b, .bool c]):=by rw [h]
structure Acc where
 seq:Int
 store:Bool
 known:Bool
 at_:Int
 many:Int
 data:Int
 done:Bool
 deriving DecidableEq
instance:Inhabited Acc:=⟨⟨0,false,false,0,0,0,false⟩⟩
abbrev Acc.cells (a:Acc):Array Value:=#[.int .i64 a.seq, .bool a.store, .bool a.known, .int .u32 a.at_, .int .i64 a.many, .int .u32 a.data, .bool a.done]
abbrev Acc.val (a:Acc):Value := .agg a.cells
structure Acc.Wf (a:Acc):Prop where
 at0:0≤a.at_
 at1:a.at_≤4294967295
 data0:0≤a.data
 data1:a.data≤4294967295
 seq0 : -9223372036854775808≤a.seq
 seq1:a.seq≤9223372036854775807
 many0 : -9223372036854775808≤a.many
 many1:a.many≤9223372036854775807
theorem grownBy_trans {a b c:World} {row:Option Nat} (h:a.grownBy b row) (k:b.grownBy c row):a.grownBy c row:=
 ⟨k.os.trans h.os,k.tape.trans h.tape,k.output.trans h.output,Nat.le_trans h.size k.size,fun i hi hne=>(k.block i (Nat.lt_of_lt_of_le hi h.size) hne).trans (h.block i hi hne)⟩
theorem own_value {w:World} {base:Nat} {e:TypeId} {size:Nat} {v:Value} {n:Nat} {xs:List Value} (h:w.ownsRow base e size v n xs):∃ A c,v = .slice A n c:=by
 rcases h.2 with⟨rfl,rfl⟩ | ⟨g,c,cur,hv,_⟩
 ·exact⟨none,0,rfl⟩
 ·exact⟨_,c,hv⟩
theorem sA {α:Type} (l:List α) (i:Nat) (a:α):l.toArray.setIfInBounds i a=(l.set i a).toArray:=List.setIfInBounds_toArray ..
theorem sS {α:Type} (l:List α) (x:α) (i:Nat) (a:α):(x::l).set (i+1) a=x::l.set i a:=List.set_cons_succ
theorem sZ {α:Type} (l:List α) (x a:α):(x::l).set 0 a=a::l:=List.set_cons_zero
theorem _root_.Go.RowKit.Below.at_ {B:Nat} {W w1:World} (hb:Below B W w1) {b o:Nat} {x:Option Value} (h:b<B) (hc:W.cell? ⟨b,o,none⟩=x):w1.cell? ⟨b,o,none⟩=x:=(hb.cell (p:=⟨b,o,none⟩) h).trans hc
theorem bcell {B:Nat} {W w1:World} (hb:Below B W w1):(∀ b o,b<B→w1.cell? ⟨b,o,none⟩=W.cell? ⟨b,o,none⟩)∧(∀ b o,b<B→w1.frozen? ⟨b,o,none⟩=W.frozen? ⟨b,o,none⟩):=
 ⟨fun b o h=>hb.cell (p:=⟨b,o,none⟩) h,fun b o h=>hb.frozen (p:=⟨b,o,none⟩) h⟩
def BlkIs (w:World) (g:Nat) (cs:Array Value):Prop:=∀ i,w.cell? ⟨g,i,none⟩=cs[i]?
theorem BlkIs.below {w w':World} {B g:Nat} {cs:Array Value} (h:BlkIs w g cs) (hb:Below B w w') (hB:g<B):BlkIs w' g cs:=fun i=>(hb.cell (p:=⟨g,i,none⟩) hB).trans (h i)
theorem BlkIs.new (w:World) (cs:Array Value) (t:TypeId):BlkIs (w.alloc (.cells cs t)) w.heap.size cs:=fun i=>World.cell?_alloc_new w _ _ i
theorem BlkIs.alloc {w:World} {g:Nat} {cs:Array Value} (h:BlkIs w g cs) (hg:g<w.heap.size) (o:Obj):BlkIs (w.alloc o) g cs:=fun i=>(World.cell?_alloc_lt w o ⟨g,i,none⟩ hg).trans (h i)
def Blk (w:World) (g:Nat) (t:TypeId) (cs:Array Value):Prop:=w.heap[g]? = some (.cells cs t (0,0))
theorem Blk.lt {w:World} {g:Nat} {t:TypeId} {cs:Array Value} (h:Blk w g t cs):g<w.heap.size:=by
 rcases Nat.lt_or_ge g w.heap.size with h' | h'
 ·exact h'
 ·unfold Blk at h
  rw [Array.getElem?_eq_none h'] at h
  cases h
theorem Blk.cell {w:World} {g:Nat} {t:TypeId} {cs:Array Value} (h:Blk w g t cs) (i:Nat):w.cell? ⟨g,i,none⟩=cs[i]? := by
 unfold Blk at h
 simp [World.cell?,h]
theorem Blk.frozen {w:World} {g:Nat} {t:TypeId} {cs:Array Value} (h:Blk w g t cs) (i:Nat):w.frozen? ⟨g,i,none⟩=false:=by
 unfold Blk at h
 simp [World.frozen?,h]
theorem Blk.new (w:World) (t:TypeId) (cs:Array Value):Blk (w.alloc (.cells cs t)) w.heap.size t cs:=by
 unfold Blk World.alloc
 simp
theorem Blk.set {w:World} {g:Nat} {t:TypeId} {cs:Array Value} (h:Blk w g t cs) (i:Nat) (u:Value):Blk (w.setCell ⟨g,i,none⟩ u) g t (cs.setIfInBounds i u):=by
 unfold Blk at h ⊢
 simp [World.setCell,Array.getElem?_modify,h]
theorem Blk.far {w:World} {g:Nat} {t:TypeId} {cs:Array Value} (h:Blk w g t cs) {p:Addr} (hp:g≠p.block) (u:Value):Blk (w.setCell p u) g t cs:=(Below.heap_setCell w p u g hp).trans h
theorem Blk.alloc {w:World} {g:Nat} {t:TypeId} {cs:Array Value} (h:Blk w g t cs) (o:Obj):Blk (w.alloc o) g t cs:=(Below.heap_alloc w o g h.lt).trans h
theorem Blk.below {w w':World} {g B:Nat} {t:TypeId} {cs:Array Value} (h:Blk w g t cs) (hb:Below B w w') (hB:g<B):Blk w' g t cs:=(hb.block g hB).trans h
theorem Blk.ext {w w':World} {g:Nat} {t:TypeId} {cs:Array Value} (h:Blk w g t cs) (hb:Below w.heap.size w w'):Blk w' g t cs:=h.below hb h.lt
theorem Blk.grown {w w':World} {g:Nat} {t:TypeId} {cs:Array Value} {row:Option Nat} (h:Blk w g t cs) (hb:w.grownBy w' row) (hg:some g≠row):Blk w' g t cs:=(hb.block g h.lt hg).trans h
def IntsAt (w:World) (B:Nat) (k:IntKind) (A:Option Addr) (l:List Int):Prop:=
 l≠[]→∃ b o,A=some ⟨b,o,none⟩∧b<B∧∀ (i:Nat) (v:Int),l[i]? = some v→w.cell? ⟨b,o+i,none⟩=some (.int k v)
theorem IntsAt.below {w w':World} {B:Nat} {k:IntKind} {A:Option Addr} {l:List Int} (h:IntsAt w B k A l) (hb:Below B w w'):IntsAt w' B k A l:=fun hne=>by
 obtain⟨b,o,hA,hB,hc⟩:=h hne
 exact⟨b,o,hA,hB,fun i v hi=>(hb.cell (p:=⟨b,o+i,none⟩) hB).trans (hc i v hi)⟩
theorem IntsAt.mono {w:World} {B B':Nat} {k:IntKind} {A:Option Addr} {l:List Int} (h:IntsAt w B k A l) (hB:B≤B'):IntsAt w B' k A l:=fun hne=>by
 obtain⟨b,o,hA,hb,hc⟩:=h hne
 exact⟨b,o,hA,by omega,hc⟩
theorem IntsAt.at_ {w:World} {B:Nat} {k:IntKind} {A:Option Addr} {l:List Int} (h:IntsAt w B k A l) {n:Nat} (hn:n<l.length) :
  ∃ b o,A=some ⟨b,o,none⟩∧b<B∧∀ i,i<l.length→w.cell? ⟨b,o+i,none⟩=some (.int k (l.getD i 0)):=by
 obtain⟨b,o,hA,hB,hc⟩:=h (by intro e;simp [e] at hn)
 refine⟨b,o,hA,hB,fun i hi=>?_⟩
 have hg:l[i]? = some l[i]:=List.getElem?_eq_getElem hi
 rw [hc i _ hg]
 simp [List.getD,hg]
theorem IntsAt.cells {w:World} {B:Nat} {k:IntKind} {A:Option Addr} {l:List Int} (h:IntsAt w B k A l):∀ ad,A=some ad→∀ j u,(l.map (Value.int k))[j]? = some u→w.cell? (ad.add j)=some u:=by
 intro ad hA j u hu
 have hj:j<l.length:=by have:=(List.getElem?_eq_some_iff.1 hu).1;simpa using this
 obtain⟨b,o,hA',_,hc⟩:=h (by intro e;simp [e] at hj)
 rw [hA] at hA'
 injection hA' with hA'
 subst hA'
 rw [List.getElem?_map] at hu
 obtain⟨x,hx,rfl⟩:=Option.map_eq_some_iff.1 hu
 rw [Addr.add_lit]
 exact hc j x hx
theorem IntsAt.own {w:World} {base:Nat} {e:TypeId} {k:IntKind} {A:Option Addr} {n cap:Nat} {l:List Int} (h:w.ownsRow base e 1 (.slice A n cap) n (l.map (Value.int k))):IntsAt w w.heap.size k A l:=by
 intro hne
 have hln:l.length=n:=by simpa using h.1
 rcases h.2 with⟨_,h0⟩ | ⟨g,c,cur,hv,_,hh,_⟩
 ·subst h0
  exact absurd (List.eq_nil_of_length_eq_zero hln) hne
 ·injection hv with hA _ _
  subst hA
  have hlt:g<w.heap.size:=by
   rcases Nat.lt_or_ge g w.heap.size with h' | h'
   ·exact h'
   ·rw [Array.getElem?_eq_none h'] at hh;cases hh
  refine⟨g,0,rfl,hlt,fun i v hi=>?_⟩
  have:=World.ownsRow.cells h (g:=g) rfl i (.int k v) (by simp [hi])
  rwa [Addr.add_lit] at this
structure AccIs (w:World) (b o:Nat) (a:Acc):Prop where
 c0:w.cell? ⟨b,o,none⟩=some (.int .i64 a.seq)
 c1:w.cell? ⟨b,o+1,none⟩=some (.bool a.store)
 c2:w.cell? ⟨b,o+2,none⟩=some (.bool a.known)
 c3:w.cell? ⟨b,o+3,none⟩=some (.int .u32 a.at_)
 c4:w.cell? ⟨b,o+4,none⟩=some (.int .i64 a.many)
 c5:w.cell? ⟨b,o+5,none⟩=some (.int .u32 a.data)
 c6:w.cell? ⟨b,o+6,none⟩=some (.bool a.done)
theorem AccIs.below {w w':World} {B b o:Nat} {a:Acc} (h:AccIs w b o a) (hb:Below B w w') (hB:b<B):AccIs w' b o a:=
 ⟨(hb.cell (p:=⟨b,o,none⟩) hB).trans h.c0,(hb.cell (p:=⟨b,o+1,none⟩) hB).trans h.c1,(hb.cell (p:=⟨b,o+2,none⟩) hB).trans h.c2,(hb.cell (p:=⟨b,o+3,none⟩) hB).trans h.c3,
  (hb.cell (p:=⟨b,o+4,none⟩) hB).trans h.c4,(hb.cell (p:=⟨b,o+5,none⟩) hB).trans h.c5,(hb.cell (p:=⟨b,o+6,none⟩) hB).trans h.c6⟩
def AccsAt (w:World) (B:Nat) (A:Option Addr) (l:List Acc):Prop:=
 l≠[]→∃ b o,A=some ⟨b,o,none⟩∧b<B∧∀ (k:Nat) (a:Acc),l[k]? = some a→AccIs w b (o+k*7) a
theorem AccsAt.below {w w':World} {B:Nat} {A:Option Addr} {l:List Acc} (h:AccsAt w B A l) (hb:Below B w w'):AccsAt w' B A l:=fun hne=>by
 obtain⟨b,o,hA,hB,hc⟩:=h hne
 exact⟨b,o,hA,hB,fun k a hk=>(hc k a hk).below hb hB⟩
theorem AccsAt.mono {w:World} {B B':Nat} {A:Option Addr} {l:List Acc} (h:AccsAt w B A l) (hB:B≤B'):AccsAt w B' A l:=fun hne=>by
 obtain⟨b,o,hA,hb,hc⟩:=h hne
 exact⟨b,o,hA,by omega,hc⟩
theorem AccsAt.at_ {w:World} {B:Nat} {A:Option Addr} {l:List Acc} (h:AccsAt w B A l) {k:Nat} (hk:k<l.length) :
  ∃ b o a,A=some ⟨b,o,none⟩∧b<B∧l[k]? = some a∧l.drop k=a::l.drop (k+1)∧a∈l∧AccIs w b (o+k*7) a:=by
 obtain⟨b,o,hA,hB,hc⟩:=h (by intro e;simp [e] at hk)
 have hg:l[k]? = some l[k]:=List.getElem?_eq_getElem hk
 exact⟨b,o,l[k],hA,hB,hg,List.drop_eq_getElem_cons hk,List.getElem_mem hk,hc k _ hg⟩
end Go.Proofs.Ytapgojgcmlnbgac
namespace Go.Proofs.Ytapgojgcmlnbgac
def thereB (len:Nat) (at_ many:Int):Bool:=decide (0<many)&&decide (at_%many=0)&&decide (at_+many≤len)
def sizeI (op:Int):Int:=if op=11∨op=14∨op=16 then 1 else if op=12∨op=15∨op=17 then 2 else if op=13∨op=18 then 4 else 0
def loadB (op x0 x1 x2 x3:Int):Int:=
 if op=11 then (if x0<128 then x0 else x0+4294967040)
 else if op=12 then (if x0+256*x1<32768 then x0+256*x1 else x0+256*x1+4294901760)
 else if op=13 then x0+256*x1+65536*x2+16777216*x3
 else if op=14 then x0
 else x0+256*x1
def loadW (m:List Int) (op:Int) (n:Nat):Int:=loadB op (m.getD n 0) (m.getD (n+1) 0) (m.getD (n+2) 0) (m.getD (n+3) 0)
def loadP (m:List Int) (op at_:Int):Int×Bool:=
 if (decide (11≤op)&&decide (op≤15)&&thereB m.length at_ (sizeI op))=true then (loadW m op at_.toNat,true) else (0,false)
def put1 (m:List Int) (n:Nat) (w:Int):List Int:=m.set n (w%256)
def put2 (m:List Int) (n:Nat) (w:Int):List Int:=(put1 m n w).set (n+1) (w / 256%256)
def put4 (m:List Int) (n:Nat) (w:Int):List Int:=((put2 m n w).set (n+2) (w / 65536%256)).set (n+3) (w / 16777216%256)
def Bytes (m:List Int):Prop:=∀ b∈m,0≤b∧b≤255
theorem Bytes.getD {m:List Int} (h:Bytes m) (i:Nat):0≤m.getD i 0∧m.getD i 0≤255:=by
 rw [List.getD]
 cases hi:m[i]? with
 |none=>simp
 |some v=>exact h v (List.mem_of_getElem? hi)
theorem wrap_i8 (n:Int):IntKind.i8.wrap n=(n+128)%256 - 128:=by
 simp [IntKind.wrap,IntKind.bits,IntKind.signed]
 split<;>omega
theorem wrap_i16 (n:Int):IntKind.i16.wrap n=(n+32768)%65536 - 32768:=by
 simp [IntKind.wrap,IntKind.bits,IntKind.signed]
 split<;>omega
theorem u32_or_shift (x b:Int) (k:Nat) (hk:k≤31) (hx0:0≤x) (hx:x<((2 ^ k:Nat):Int)) (hb0:0≤b) (hb:b*((2 ^ k:Nat):Int)<4294967296):bits .or .u32 x (b*((2 ^ k:Nat):Int))=x+b*((2 ^ k:Nat):Int):=by
 obtain⟨a,rfl⟩:=Int.eq_ofNat_of_zero_le hx0
 obtain⟨c,rfl⟩:=Int.eq_ofNat_of_zero_le hb0
 have ha:a<2 ^ k:=Int.ofNat_lt.mp hx
 have hc:c*2 ^ k<4294967296:=Int.ofNat_lt.mp (by rw [Int.natCast_mul];exact hb)
 have hpow:2 ^ k≤2 ^ 31:=Nat.pow_le_pow_right (by omega) hk
 have h:=Nat.two_pow_add_eq_or_of_lt ha c
 have e:((c:Int)*((2 ^ k:Nat):Int))=((c*2 ^ k:Nat):Int):=by rw [Int.natCast_mul]
 rw [e,u32_or_nat a (c*2 ^ k) (by omega) hc,Nat.or_comm,Nat.mul_comm c,←h]
 omega
theorem or8 (x b:Int) (hx0:0≤x) (hx:x<256) (hb0:0≤b) (hb:b≤255):bits .or .u32 x (b*256)=x+256*b:=by
 have:=u32_or_shift x b 8 (by omega) hx0 (by simpa using hx) hb0 (by simp;omega)
 simp at this
 rw [this];omega
theorem or16 (x b:Int) (hx0:0≤x) (hx:x<65536) (hb0:0≤b) (hb:b≤255):bits .or .u32 x (b*65536)=x+65536*b:=by
 have:=u32_or_shift x b 16 (by omega) hx0 (by simpa using hx) hb0 (by simp;omega)
 simp at this
 rw [this];omega
theorem or24 (x b:Int) (hx0:0≤x) (hx:x<16777216) (hb0:0≤b) (hb:b≤255):bits .or .u32 x (b*16777216)=x+16777216*b:=by
 have:=u32_or_shift x b 24 (by omega) hx0 (by simpa using hx) hb0 (by simp;omega)
 simp at this
 rw [this];omega
theorem or0 (b:Int) (hb0:0≤b) (hb:b≤255):bits .or .u32 0 b=b:=by
 have:=u32_or_shift 0 b 0 (by omega) (by omega) (by simp) hb0 (by simp;omega)
 simpa using this
end Go.Proofs.Ytapgojgcmlnbgac
namespace Go.Proofs.Ytapgojgcmlnbgac
open Go.ChangeShapes Go.WideShapes Go.RowKit
section
variable {H:Type} {enc:TypeId×Value→H} {w:World} {base:Nat} {spare:Nat→Bool} {held:Bool}
theorem open_intsAt {P:Program} {t e:TypeId} {k:IntKind} (ht:P.underlying t=some (.slice e)) (he:P.underlying e=some (.int k)) (hc:P.cellsOf e=1) {fuel:Nat} {a:Option Addr} {len cap:Nat} {x:DataW H×List MemPlace}
  (h:DataW.trod enc P w base spare held fuel t [.slice a len cap]=some x) :
  ∃ l:List Int,l.length=len∧(∀ v∈l,(Lit.int k v).wf=true)∧IntsAt w w.heap.size k a l∧(a=none→l=[])∧(x.1 = .nil∧len=0∨∃ es sp,x.1 = .slice es sp∧es.length=len):=by
 rcases open_ints ht he hc h with⟨hcs,hx⟩ | ⟨ad,len',cap',zs,hcs,hb,hl,hm,hz,hx,hcell,hwz⟩
 ·simp at hcs
  obtain⟨rfl,rfl,rfl⟩:=hcs
  exact⟨[],rfl,by simp,fun h=>absurd rfl h,fun _=>rfl, .inl ⟨by rw [hx],rfl⟩⟩
 ·simp at hcs
  obtain⟨rfl,rfl,rfl⟩:=hcs
  have hlz:len≤zs.length:=by rw [hz];split<;>omega
  refine⟨zs.take len,by simp;omega,fun v hv=>hwz v (List.mem_of_mem_take hv),?_,(fun h=>by cases h), .inr ⟨_,_,by rw [hx],by simp [lits];omega⟩⟩
  intro hne
  have h0:0<len:=by
   rcases Nat.eq_zero_or_pos len with h0 | h0
   ·subst h0;simp at hne
   ·exact h0
  obtain⟨b,o,s⟩:=ad
  have hc0:=hcell 0 (by omega)
  have hs:s=none:=by simpa [Addr.add] using World.cell?_spot hc0
  subst hs
  refine⟨b,o,rfl,by simpa [Addr.add] using World.block_lt_of_cell? w _ hc0,fun i v hi=>?_⟩
  have hil:i<len:=by
   have:=(List.getElem?_eq_some_iff.1 hi).1
   simp at this
   omega
  have:=hcell i (by omega)
  rw [Addr.add_lit] at this
  rw [this]
  have hv:zs[i]? = some v:=by rw [←hi,List.getElem?_take,if_pos hil]
  simp [List.getD,hv]
theorem open_bytes {fuel:Nat} {a:Option Addr} {len cap:Nat} {x:DataW H×List MemPlace} (h:DataW.trod enc Try.prog w base spare held fuel 28 [.slice a len cap]=some x) :
  ∃ l:List Int,l.length=len∧Bytes l∧IntsAt w w.heap.size .u8 a l∧(a=none→l=[])∧(x.1 = .nil∧len=0∨∃ es sp,x.1 = .slice es sp∧es.length=len):=by
 obtain⟨l,h1,h2,h3⟩:=open_intsAt Try.underlying28 Try.underlying5 (by kernel_rfl) h
 exact⟨l,h1,fun v hv=>bounds_u8 (h2 v hv),h3⟩
end
theorem sized_len {H:Type} {P:Program} {ts:List TypeId} {ds:List (DataW H)} (h:(DataW.weightsEach P ts ds).all (· ≤ reachBytes)=true) {j:Nat} {t e:TypeId} {d:DataW H} {len nb:Nat} (ht:ts[j]? = some t) (hd:ds[j]? = some d) (hu:P.underlying t=some (.slice e))
  (hb:P.bytesOf e=nb) (hx:d = .nil∧len=0∨∃ es sp,d = .slice es sp∧es.length=len):len*nb≤140737488351232:=by
 rcases hx with⟨_,rfl⟩ | ⟨es,sp,rfl,rfl⟩
 ·omega
 ·have:=sized_slice h ht hd hu
  rw [hb] at this
  have h2:reachBytes=140737488351232:=rfl
  rw [h2] at this
  exact Nat.le_trans (Nat.mul_le_mul_right nb (Nat.le_add_right _ _)) this
end Go.Proofs.Ytapgojgcmlnbgac
namespace Go.Proofs.Ytapgojgcmlnbgac
open Go
def fitV:Option IntKind→Value→Prop
 |none,v=>∃ b,v = .bool b
 |some q,v=>∃ n,v = .int q n∧(Lit.int q n).wf=true
def Fits:List (Option IntKind)→List Value→Prop
 |[],[]=>True
 |k::ks,v::vs=>fitV k v∧Fits ks vs
 |_,_=>False
theorem Fits.length:∀ {ks:List (Option IntKind)} {vs:List Value},Fits ks vs→vs.length=ks.length
 |[],[],_=>rfl
 |_::_,_::_,⟨_,h⟩=>by simp [h.length]
theorem Fits.drop:∀ {ks:List (Option IntKind)} {vs:List Value},Fits ks vs→∀ n,Fits (ks.drop n) (vs.drop n)
 |[],[],_,n=>by simp [Fits]
 |_::_,_::_,h,0=>h
 |_::_,_::_,⟨_,h⟩,n+1=>h.drop n
theorem Fits.take:∀ {ks:List (Option IntKind)} {vs:List Value},Fits ks vs→∀ n,Fits (ks.take n) (vs.take n)
 |[],[],_,n=>by simp [Fits]
 |_::_,_::_,_,0=>by simp [Fits]
 |_::_,_::_,⟨h0,h⟩,n+1=>⟨h0,h.take n⟩
theorem Fits.append:∀ {ks ls:List (Option IntKind)} {vs us:List Value},Fits ks vs→Fits ls us→Fits (ks++ls) (vs++us)
 |[],_,[],_,_,h=>h
 |_::_,_,_::_,_,⟨h0,h⟩,h'=>⟨h0,h.append h'⟩
theorem Fits.mk {ks:List (Option IntKind)}:∀ {vs:List Value},vs.length=ks.length→(∀ (i:Nat) k v,ks[i]? = some k→vs[i]? = some v→fitV k v)→Fits ks vs:=by
 induction ks with
 |nil=>intro vs hl _;cases vs;exact trivial;cases hl
 |cons k ks ih=>
  intro vs hl h
  cases vs with
  |nil=>cases hl
  |cons v vs=>exact⟨h 0 k v rfl rfl,ih (by simpa using hl) (fun i k' v' h1 h2=>h (i+1) k' v' h1 h2)⟩
theorem Fits.get {ks:List (Option IntKind)}:∀ {vs:List Value},Fits ks vs→∀ (i:Nat) k v,ks[i]? = some k→vs[i]? = some v→fitV k v:=by
 induction ks with
 |nil=>intro vs h i k v hk;cases hk
 |cons k ks ih=>
  intro vs h i k' v' hk hv
  cases vs with
  |nil=>cases hv
  |cons v vs=>
   obtain⟨h0,h1⟩:=h
   cases i with
   |zero=>simp at hk hv;subst hk hv;exact h0
   |succ i=>exact ih h1 i k' v' hk hv
theorem Fits.set {ks:List (Option IntKind)} {vs:List Value} (h:Fits ks vs) (i:Nat) (k:Option IntKind) (v:Value) (hk:ks[i]? = some k) (hv:fitV k v):Fits ks (vs.set i v):=
 Fits.mk (by simp [h.length]) fun j k' v' h1 h2=>by
  by_cases hij:i=j
  ·subst hij
   rw [hk] at h1
   cases h1
   have:i<vs.length:=by
    have:=(List.getElem?_eq_some_iff.1 h2).1
    simpa using this
   rw [List.getElem?_set_self this] at h2
   cases h2
   exact hv
  ·rw [List.getElem?_set_ne hij] at h2
   exact h.get j k' v' h1 h2
section
variable (P:Program)
def fitsB:Nat→TypeId→List (Option IntKind)→Bool
 |0,_,_=>false
 |d+1,t,ks=>
  match P.underlying t with
  |some .bool=>ks==[none]
  |some (.int q)=>ks==[some q]
  |some (.array n e)=>ks.length==P.cellsOf t&&(List.range n).all fun i=>fitsB d e ((ks.drop (i*P.cellsOf e)).take (P.cellsOf e))
  |some (.struct fs) => ks.length == P.cellsOf t && fs.all (·.name != "_") && fs.toList.all fun f => fitsB d f.type ((ks.drop f.offset).take (P.cellsOf f.type))
  |_=>false
end
theorem mapM_some {α β:Type} {f:α→Option β}:∀ {l:List α},(∀ x∈l,∃ y,f x=some y)→∃ ys,l.mapM f=some ys
 |[],_=>⟨[],rfl⟩
 |x::l,h=>by
  obtain⟨y,hy⟩:=h x (by simp)
  obtain⟨ys,hys⟩:=mapM_some (l:=l) fun z hz=>h z (by simp [hz])
  exact⟨y::ys,by simp [List.mapM_cons,hy,hys]⟩
theorem keyLits_fits {P:Program}:∀ (d:Nat) (t:TypeId) (ks:List (Option IntKind)) (vs:List Value),fitsB P d t ks=true→Fits ks vs→∃ la,P.keyLits d t vs=some la
 |0,_,_,_,h,_=>by simp [fitsB] at h
 |d+1,t,ks,vs,h,hf=>by
  unfold fitsB at h
  unfold Program.keyLits
  cases hu:P.underlying t with
  |none=>rw [hu] at h;simp at h
  |some kd=>
   rw [hu] at h
   cases kd<;>simp only [Bool.false_eq_true] at h
   case bool=>
    simp at h
    subst h
    match vs,hf with
    |[v],⟨⟨b,hb⟩,_⟩=>subst hb;exact⟨_,rfl⟩
   case int q=>
    simp at h
    subst h
    match vs,hf with
    |[v],⟨⟨n,hn,hw⟩,_⟩=>subst hn;exact⟨[.int q n],by simp [hw]⟩
   case array n e=>
    simp only [Bool.and_eq_true,beq_iff_eq,List.all_eq_true] at h
    have hl:vs.length=P.cellsOf t:=by rw [hf.length,h.1]
    obtain⟨ys,hys⟩:=mapM_some (l:=List.range n) (f:=fun i=>P.keyLits d e ((vs.drop (i*P.cellsOf e)).take (P.cellsOf e))) fun i hi=>keyLits_fits d e _ _ (h.2 i hi) ((hf.drop _).take _)
    refine⟨ys.flatten,?_⟩
    simp only [hl,if_true,hys,Option.map_some]
   case struct fs=>
    simp only [Bool.and_eq_true,beq_iff_eq,List.all_eq_true] at h
    have hl:vs.length=P.cellsOf t:=by rw [hf.length,h.1.1]
    obtain⟨ys,hys⟩:=mapM_some (l:=fs.toList) (f:=fun f=>P.keyLits d f.type ((vs.drop f.offset).take (P.cellsOf f.type))) fun f hi=>keyLits_fits d f.type _ _ (h.2 f hi) ((hf.drop _).take _)
    refine⟨ys.flatten,?_⟩
    have hn:=h.1.2
    simp only [hl,hn,and_self,if_true,hys,Option.map_some]
theorem eql_self {P:Program} {t:TypeId} {cs:Array Value} {m:Nat} {ks:List (Option IntKind)} (w:World) (hk:P.keyTypeAt m t=true) (hm:m≤10000) (hf:(Value.agg cs).formed P t=true) {d:Nat} (hb:fitsB P d t ks=true)
  (h:Fits ks cs.toList):(binOp .eql t (.agg cs) (.agg cs)).run P w = .ok (.bool true) w:=by
 obtain⟨la,hla⟩:=keyLits_fits d t ks cs.toList hb h
 obtain⟨r,hr,hiff⟩:=run_equalIn_deep (P:=P) (10000 - m) m t hk w d d (.agg cs) (.agg cs) la la hf hf hla hla
 rw [run_eql_struct,show 10000=10000 - m+m by omega,hr,hiff.2 rfl]
 rfl
theorem formed_struct {P:Program} {t:TypeId} {cs:Array Value} {fs:Array Field} {n:Nat} (hu:P.underlying t=some (.struct fs)) (hc:P.cellsOf t=n) (hs:cs.size=n):(Value.agg cs).formed P t=true:=by
 simp [Value.formed,hu,hc,hs]
def openB (P:Program):Nat→TypeId→List (Option IntKind)→Bool
 |0,_,_=>false
 |d+1,t,ks=>
  match P.underlying t with
  |some .bool=>ks==[none]
  |some (.int q)=>ks==[some q]
  |some (.array n e)=>ks.length==P.cellsOf t&&P.cellsOf t==n*P.cellsOf e&&(List.range n).all fun i=>openB P d e ((ks.drop (i*P.cellsOf e)).take (P.cellsOf e))
  |some (.struct fs)=>ks.length==P.cellsOf t&&(List.range (P.cellsOf t)).all (fun j=>fs.toList.any fun f=>decide (f.offset≤j)&&decide (j<f.offset+P.cellsOf f.type)) &&
    fs.toList.all fun f=>openB P d f.type ((ks.drop f.offset).take (P.cellsOf f.type))
  |_=>false
section
variable {H:Type} {enc:TypeId×Value→H} {P:Program} {w:World} {base:Nat} {spare:Nat→Bool} {held:Bool}
theorem trod_fits:∀ (d:Nat) (t:TypeId) (ks:List (Option IntKind)) (fuel:Nat) (cs:List Value) (x:DataW H×List MemPlace),openB P d t ks=true→DataW.trod enc P w base spare held fuel t cs=some x→Fits ks cs
 |0,_,_,_,_,_,h,_=>by simp [openB] at h
 |d+1,t,ks,fuel,cs,x,h,ht=>by
  unfold openB at h
  cases hu:P.underlying t with
  |none=>rw [hu] at h;simp at h
  |some kd=>
   rw [hu] at h
   cases kd<;>simp only [Bool.false_eq_true] at h
   case bool=>
    simp at h
    subst h
    obtain⟨b,rfl,_⟩:=DataW.trod_bool hu ht
    exact⟨⟨b,rfl⟩,trivial⟩
   case int q=>
    simp at h
    subst h
    obtain⟨n,rfl,_,hw⟩:=DataW.trod_int hu ht
    exact⟨⟨n,rfl,hw⟩,trivial⟩
   case array n e=>
    simp only [Bool.and_eq_true,beq_iff_eq,List.all_eq_true] at h
    obtain⟨⟨hl,hc⟩,hall⟩:=h
    obtain⟨xs,m,_,_,hcs,hxs,hi⟩:=DataW.trod_array hu ht
    refine Fits.mk (by omega) fun i k v hk hv=>?_
    have hin:i<n*P.cellsOf e:=by have:=(List.getElem?_eq_some_iff.1 hv).1;omega
    have hpos:0<P.cellsOf e:=by
     rcases Nat.eq_zero_or_pos (P.cellsOf e) with h0 | h0
     ·rw [h0] at hin;simp at hin
     ·exact h0
    have hq:i / P.cellsOf e<n:=(Nat.div_lt_iff_lt_mul hpos).2 hin
    have hm:=Nat.mod_lt i hpos
    have hdm:=Nat.div_add_mod' i (P.cellsOf e)
    have hx:=hi (i / P.cellsOf e) hq
    rw [List.getElem?_eq_getElem (by omega)] at hx
    have hf:=trod_fits d e _ m _ _ (hall (i / P.cellsOf e) (List.mem_range.2 hq)) hx
    refine hf.get (i%P.cellsOf e) k v ?_ ?_
    ·rw [List.getElem?_take,if_pos hm,List.getElem?_drop,hdm];exact hk
    ·rw [List.getElem?_take,if_pos hm,List.getElem?_drop,hdm];exact hv
   case struct fs=>
    simp only [Bool.and_eq_true,beq_iff_eq,List.all_eq_true] at h
    obtain⟨⟨hl,hc⟩,hall⟩:=h
    obtain⟨xs,m,_,_,hcs,hxs,hi⟩:=DataW.trod_struct hu ht
    refine Fits.mk (by omega) fun i k v hk hv=>?_
    have hin:i<P.cellsOf t:=by have:=(List.getElem?_eq_some_iff.1 hv).1;omega
    have hcov:=hc i (List.mem_range.2 hin)
    rw [List.any_eq_true] at hcov
    obtain⟨f,hf,hb⟩:=hcov
    simp only [Bool.and_eq_true,decide_eq_true_eq] at hb
    obtain⟨j,hj,hfj⟩:=List.getElem_of_mem hf
    have hj':j<fs.size:=by simpa using hj
    have hfe:fs[j]? = some f:=by
     rw [Array.getElem?_eq_getElem hj']
     simpa using hfj
    have hx:=hi j f hfe
    rw [List.getElem?_eq_getElem (by omega)] at hx
    have hff:=trod_fits d f.type _ m _ _ (hall f hf) hx
    refine hff.get (i - f.offset) k v ?_ ?_
    ·rw [List.getElem?_take,if_pos (by omega),List.getElem?_drop,show f.offset+(i - f.offset)=i by omega];exact hk
    ·rw [List.getElem?_take,if_pos (by omega),List.getElem?_drop,show f.offset+(i - f.offset)=i by omega];exact hv
end
end Go.Proofs.Ytapgojgcmlnbgac
namespace Go.Proofs.Ytapgojgcmlnbgac
open Go Go.RowKit
theorem wp_append_any {P:Program} {w:World} {o:Oper} {a:Act} {K:Act→World→Prop} {Q:Exit→Act→World→Prop} (s x:Operand) (t:TypeId)
  (ho:o.op = .call { callee := .builtin .append,args:=#[s,x],argTypes:=#[t,t] })
  (base:Nat) (e:TypeId) (i:TypeInfo) (z:Value) (size bytes:Nat) (ht:P.underlying t=some (.slice e)) (hi:P.info? e=some i) (hz:i.zero=some z)
  (hsize:i.size=size) (hby:i.bytes=bytes) (hzs:z.cells.size=size) (hsz:0<size)
  (v:Value) (n:Nat) (xs:List Value) (hs:a.eval s=v) (hown:w.ownsRow base e size v n xs)
  (A:Option Addr) (m c:Nat) (news:List Value) (hx:a.eval x = .slice A m c) (hl:news.length=m*size) (hnil:A=none→m=0∧c=0) (hnews:∀ ad,A=some ad→∀ j u,news[j]? = some u→w.cell? (ad.add j)=some u) (h1:∀ u∈news,u.oneCell'=true)
  (h63:n+m≤maxLen) (hbytes:(n+m)*bytes≤140737488355328) (hbase:base≤w.heap.size)
  (h:∀ v' w',w'.ownsRow base e size v' (n+m) (xs++news)→w.grownBy w' v.ownBlock→K (a.put o.dst v') w'):o.wp P a w K Q:=by
 cases A with
 |some ad=>exact wp_append_own w s x t ho base e i z size bytes ht hi hz hsize hby hzs hsz v n xs hs hown ad m c news hx hl (hnews ad rfl) h1 h63 hbytes hbase fun v' w' h2 h3 _=>h v' w' h2 h3
 |none=>
  obtain⟨rfl,rfl⟩:=hnil rfl
  have hnews0:news=[]:=List.eq_nil_of_length_eq_zero (by simpa using hl)
  subst hnews0
  have hrun:=run_append_owned_none (P:=P) (w:=w) base t o.type e i size ht hi v n xs hown
  unfold Oper.wp execOp
  simp only [ho,resolve,invoke,builtin,Sem.run_bind,Sem.run_pure,Result.andThen_ok,List.map_toArray,List.map_cons,List.map_nil,hs,hx,hrun]
  exact h v w (by simpa using hown) ⟨rfl,rfl,rfl,Nat.le_refl _,fun _ _ _=>rfl⟩
theorem wpList_append_any {P:Program} {w:World} {ops:Array Oper} {rest:List Oper} {o:Oper} {a:Act} {Q:Exit→Act→World→Prop} (hgd:o.guard=none) (s x:Operand) (t:TypeId)
  (ho:o.op = .call { callee := .builtin .append,args:=#[s,x],argTypes:=#[t,t] })
  (base:Nat) (e:TypeId) (i:TypeInfo) (z:Value) (size bytes:Nat) (ht:P.underlying t=some (.slice e)) (hi:P.info? e=some i) (hz:i.zero=some z)
  (hsize:i.size=size) (hby:i.bytes=bytes) (hzs:z.cells.size=size) (hsz:0<size)
  (v:Value) (n:Nat) (xs:List Value) (hs:a.eval s=v) (hown:w.ownsRow base e size v n xs)
  (A:Option Addr) (m c:Nat) (news:List Value) (hx:a.eval x = .slice A m c) (hl:news.length=m*size) (hnil:A=none→m=0∧c=0) (hnews:∀ ad,A=some ad→∀ j u,news[j]? = some u→w.cell? (ad.add j)=some u) (h1:∀ u∈news,u.oneCell'=true)
  (h63:n+m≤maxLen) (hbytes:(n+m)*bytes≤140737488355328) (hbase:base≤w.heap.size)
  (h:∀ v' w',w'.ownsRow base e size v' (n+m) (xs++news)→w.grownBy w' v.ownBlock→wpList P ops Q rest (a.put o.dst v') w'):wpList P ops Q (o::rest) a w:=
 wpList_plain hgd fun _ hK=>wp_append_any s x t ho base e i z size bytes ht hi hz hsize hby hzs hsz v n xs hs hown A m c news hx hl hnil hnews h1 h63 hbytes hbase fun v' w' h2 h3=>hK _ _ (h v' w' h2 h3)
theorem lit_one (w:World) (u:Value) (t:TypeId):∀ ad,some (⟨w.heap.size,0,none⟩:Addr)=some ad→∀ j v,[u][j]? = some v→(w.alloc (.cells #[u] t)).cell? (ad.add j)=some v:=by
 intro ad h j v hj
 cases h
 rw [Addr.add_lit,Nat.zero_add]
 rw [World.cell?_alloc_new]
 simpa using hj
theorem own_ints {w:World} {base:Nat} {e:TypeId} {k:IntKind} {v:Value} {n:Nat} {l:List Int} (h:w.ownsRow base e 1 v n (l.map (Value.int k))) :
  ∃ A cap,v = .slice A n cap∧l.length=n∧(A=none→l=[]∧cap=0)∧IntsAt w w.heap.size k A l∧n≤cap∧∀ ad,A=some ad→base≤ad.block:=by
 have hln:l.length=n:=by simpa using h.1
 have h0:=h
 rcases h.2 with⟨rfl,rfl⟩ | ⟨g,c,cur,rfl,hgb,_,hc,_⟩
 ·obtain rfl:=List.eq_nil_of_length_eq_zero hln
  exact⟨none,0,rfl,rfl,fun _=>⟨rfl,rfl⟩,fun h=>absurd rfl h,Nat.le_refl _,fun _ h=>by cases h⟩
 ·exact⟨_,c,rfl,hln,fun h=>(by cases h),IntsAt.own h0,hc,fun ad h=>by cases h;exact hgb⟩
theorem ints_oneCell' {k:IntKind} (l:List Int):∀ u∈l.map (Value.int k),u.oneCell'=true:=by
 intro u hu
 obtain⟨x,_,rfl⟩:=List.mem_map.1 hu
 rfl
theorem own_blk {w:World} {base:Nat} {e:TypeId} {k:IntKind} {v:Value} {n:Nat} {l:List Int} (h:w.ownsRow base e 1 v n (l.map (Value.int k))) (hn:0<n) :
  ∃ g cap cur,v = .slice (some ⟨g,0,none⟩) n cap∧base≤g∧Blk w g e cur∧∀ j,j<n→cur[j]? = some (.int k (l.getD j 0)):=by
 have hln:l.length=n:=by simpa using h.1
 rcases h.2 with⟨_,rfl⟩ | ⟨g,c,cur,rfl,hb,hh,_,_,_,ht⟩
 ·omega
 ·refine⟨g,c,cur,rfl,hb,hh,fun j hj=>?_⟩
  have h1:(cur.toList.take (n*1))[j]? = (l.map (Value.int k))[j]? := by rw [ht]
  rw [List.getElem?_take,if_pos (by omega),List.getElem?_map,List.getElem?_eq_getElem (l:=l) (by omega)] at h1
  simp [List.getD,List.getElem?_eq_getElem (show j<l.length by omega)] at h1 ⊢
  exact h1
theorem IntsAt.setCell {w:World} {B:Nat} {k:IntKind} {A:Option Addr} {l:List Int} (h:IntsAt w B k A l) {p:Addr} (u:Value) (hne:∀ ad,A=some ad→ad.block≠p.block):IntsAt (w.setCell p u) B k A l:=fun hl=>by
 obtain⟨b,o,hA,hB,hc⟩:=h hl
 have hb:=hne _ hA
 refine⟨b,o,hA,hB,fun i v hi=>?_⟩
 have:=Below.heap_setCell w p u b hb
 rw [World.cell?_of_block this]
 exact hc i v hi
theorem IntsAt.grown {w w':World} {B:Nat} {k:IntKind} {A:Option Addr} {l:List Int} {g:Nat} (h:IntsAt w B k A l) (hB:B≤w.heap.size) (hg:w.grownBy w' (some g)) (hne:∀ ad,A=some ad→ad.block≠g):IntsAt w' B k A l:=fun hl=>by
 obtain⟨b,o,hA,hb,hc⟩:=h hl
 have hbg:=hne _ hA
 refine⟨b,o,hA,hb,fun i v hi=>?_⟩
 rw [World.cell?_of_block (hg.block b (Nat.lt_of_lt_of_le hb hB) (by simp;exact hbg))]
 exact hc i v hi
theorem below_grownBy {w w':World} (h:Below w.heap.size w w'):w.grownBy w' none:=⟨h.os,h.tape,h.output,h.size,fun k hk _=>h.block k hk⟩
def splice (cur:Array Value) (o:Nat) (vs:List Value):Array Value:=(cur.toList.take o++vs++cur.toList.drop (o+vs.length)).toArray
theorem splice_size (cur:Array Value) (o:Nat) (vs:List Value) (h:o+vs.length≤cur.size):(splice cur o vs).size=cur.size:=by
 simp [splice];omega
theorem splice_get (cur:Array Value) (o:Nat) (vs:List Value) (h:o+vs.length≤cur.size) (i:Nat):(splice cur o vs)[i]? = if i<o then cur[i]? else if i<o+vs.length then vs[i - o]? else cur[i]? := by
 have ht:(cur.toList.take o).length=o:=by simp;omega
 simp only [splice,List.getElem?_toArray]
 by_cases h1:i<o
 ·rw [if_pos h1,List.getElem?_append_left (by simp;omega),List.getElem?_append_left (by omega),List.getElem?_take,if_pos h1]
  simp
 ·rw [if_neg h1]
  by_cases h2:i<o+vs.length
  ·rw [if_pos h2,List.getElem?_append_left (by simp;omega),List.getElem?_append_right (by omega),ht]
  ·rw [if_neg h2,List.getElem?_append_right (by simp;omega),List.getElem?_drop]
   simp only [List.length_append,ht]
   rw [show o+vs.length+(i - (o+vs.length))=i by omega]
   simp
theorem splice_whole (cur:Array Value) (vs:Array Value) (h:vs.size=cur.size):splice cur 0 vs.toList=vs:=by
 apply Array.ext_getElem?
 intro i
 rw [splice_get cur 0 vs.toList (by simp;omega)]
 simp
 intro hi
 rw [Array.getElem?_eq_none (by omega),Array.getElem?_eq_none (by omega)]
section
variable {P:Program} {ops:Array Oper} {rest:List Oper} {o:Oper} {a:Act} {w:World} {Q:Exit→Act→World→Prop}
theorem run_loadVar_blk (w:World) (g off:Nat) (t ty:TypeId) (cs:Array Value) (n:Nat) (d:TypeDesc) (hg:Blk w g t cs) (hu:P.underlying ty=some d)
  (hd:(match d with | .struct _ | .array _ _=>true | _=>false)=true) (hi:(P.info? ty).map (·.size)=some n) (hn:off+n≤cs.size) :
  (loadVar ty ⟨g,off,none⟩).run P w = .ok (.agg (cs.extract off (off+n))) w:=by
 have hsz:(cs.extract off (off+n)).size=n:=by simp;omega
 have hl:(loadCells ⟨g,off,none⟩ (cs.extract off (off+n)).toList.length).run P w = .ok (cs.extract off (off+n)).toList.toArray w:=
  run_loadCells_list (P:=P) w ⟨g,off,none⟩ (cs.extract off (off+n)).toList (fun j v hv=>by
   have hadd:(⟨g,off,none⟩:Addr).add j=⟨g,off+j,none⟩:=by unfold Addr.add;split<;>simp_all
   rw [hadd,hg.cell]
   rw [Array.getElem?_toList,Array.getElem?_extract] at hv
   split at hv
   ·exact hv
   ·cases hv)
 cases hq:P.info? ty with
 |none=>simp [hq] at hi
 |some i=>
  have hs:i.size=n:=by simpa [hq] using hi
  have hagg:(isAgg ty).run P w = .ok true w:=by
   unfold isAgg
   rw [Sem.run_bind,run_underlying hu w]
   cases d<;>simp_all
  rw [Array.length_toList,Array.toArray_toList,hsz] at hl
  simp [loadVar,Sem.run_bind,hagg,sizeOf,typeInfo,hq,hs,hl]
theorem wp_load_blk {K:Act→World→Prop} (ty:TypeId) (x:Operand) (ho:o.op = .load ty x) (g off:Nat) (hx:a.eval x = .pointer (some ⟨g,off,none⟩)) (t:TypeId) (cs:Array Value) (n:Nat) (d:TypeDesc) (hg:Blk w g t cs)
  (hu:P.underlying ty=some d) (hd:(match d with | .struct _ | .array _ _=>true | _=>false)=true) (hi:(P.info? ty).map (·.size)=some n) (hn:off+n≤cs.size)
  (h:K (a.put o.dst (.agg (cs.extract off (off+n)))) w):o.wp P a w K Q:=by
 unfold Oper.wp execOp
 simp only [ho,hx,Instr.loadAt,Instr.sureAddr,Sem.run_bind,Sem.run_pure,Result.andThen_ok,run_loadVar_blk w g off t ty cs n d hg hu hd hi hn]
 exact h
theorem wpList_load_blk (hgd:o.guard=none) (ty:TypeId) (x:Operand) (ho:o.op = .load ty x) (g off:Nat) (hx:a.eval x = .pointer (some ⟨g,off,none⟩)) (t:TypeId) (cs:Array Value) (n:Nat) (d:TypeDesc) (hg:Blk w g t cs)
  (hu:P.underlying ty=some d) (hd:(match d with | .struct _ | .array _ _=>true | _=>false)=true) (hi:(P.info? ty).map (·.size)=some n) (hn:off+n≤cs.size)
  (h:wpList P ops Q rest (a.put o.dst (.agg (cs.extract off (off+n)))) w):wpList P ops Q (o::rest) a w:=
 wpList_plain hgd fun _ hK=>wp_load_blk ty x ho g off hx t cs n d hg hu hd hi hn (hK _ _ h)
theorem extract_whole (cs:Array Value) (n:Nat) (h:cs.size=n):cs.extract 0 (0+n)=cs:=by
 subst h
 simp
theorem wp_load_all {K:Act→World→Prop} (ty:TypeId) (x:Operand) (ho:o.op = .load ty x) (g:Nat) (hx:a.eval x = .pointer (some ⟨g,0,none⟩)) (t:TypeId) (cs:Array Value) (d:TypeDesc) (hg:Blk w g t cs)
  (hu:P.underlying ty=some d) (hd:(match d with | .struct _ | .array _ _=>true | _=>false)=true) (hi:(P.info? ty).map (·.size)=some cs.size)
  (h:K (a.put o.dst (.agg cs)) w):o.wp P a w K Q:=
 wp_load_blk ty x ho g 0 hx t cs cs.size d hg hu hd hi (by omega) (by rw [extract_whole cs _ rfl];exact h)
theorem wpList_load_all (hgd:o.guard=none) (ty:TypeId) (x:Operand) (ho:o.op = .load ty x) (g:Nat) (hx:a.eval x = .pointer (some ⟨g,0,none⟩)) (t:TypeId) (cs:Array Value) (d:TypeDesc) (hg:Blk w g t cs)
  (hu:P.underlying ty=some d) (hd:(match d with | .struct _ | .array _ _=>true | _=>false)=true) (hi:(P.info? ty).map (·.size)=some cs.size)
  (h:wpList P ops Q rest (a.put o.dst (.agg cs)) w):wpList P ops Q (o::rest) a w:=
 wpList_plain hgd fun _ hK=>wp_load_all ty x ho g hx t cs d hg hu hd hi (hK _ _ h)
theorem run_storeVar_blk (w:World) (g off:Nat) (t ty:TypeId) (old cells:Array Value) (hg:Blk w g t old) (hi:(P.info? ty).map (·.size)=some cells.size)
  (hn:off+cells.size≤old.size) (h1:cells.all (·.oneCell')=true) :
  (storeVar ty ⟨g,off,none⟩ (.agg cells)).run P w = .ok () (w.setRow g (splice old off cells.toList)):=by
 have:=run_storeCells_at P g off t cells.toList 0 old w hg (by simp;omega) (fun v hv=>(Array.all_eq_true_iff_forall_mem.1 h1) v (by simpa using hv))
 cases hq:P.info? ty with
 |none=>simp [hq] at hi
 |some i=>
  have hs:cells.size=i.size:=by simp [hq] at hi;omega
  simpa [storeVar,sizeOf,typeInfo,hq,Value.cells,hs,splice] using this
theorem Blk.setRow {w:World} {g:Nat} {t:TypeId} {old:Array Value} (hg:Blk w g t old) (cs:Array Value):Blk (w.setRow g cs) g t cs:=setRow_heap w g old cs t (0,0) hg
theorem grownBy_setRow (w:World) (g:Nat) (cs:Array Value):w.grownBy (w.setRow g cs) (some g):=
 ⟨rfl,rfl,rfl,by simp,fun i _ hne=>by
  simp only [World.setRow,Array.getElem?_modify]
  rw [if_neg (fun e=>hne (by rw [e]))]⟩
theorem wp_store_blk {K:Act→World→Prop} (ty:TypeId) (x y:Operand) (ho:o.op = .store ty x y) (g off:Nat) (cells:Array Value) (hx:a.eval x = .pointer (some ⟨g,off,none⟩)) (hy:a.eval y = .agg cells)
  (t:TypeId) (old:Array Value) (hg:Blk w g t old) (hi:(P.info? ty).map (·.size)=some cells.size) (hn:off+cells.size≤old.size) (h1:cells.all (·.oneCell')=true)
  (h:∀ w',Blk w' g t (splice old off cells.toList)→w.grownBy w' (some g)→K (a.put o.dst undef) w'):o.wp P a w K Q:=by
 unfold Oper.wp execOp
 simp only [ho,hx,hy,Instr.storeAt,Instr.sureAddr,Sem.run_bind,Sem.run_pure,Result.andThen_ok,run_storeVar_blk w g off t ty old cells hg hi hn h1]
 exact h _ (hg.setRow _) (grownBy_setRow _ _ _)
theorem wpList_store_blk (hgd:o.guard=none) (ty:TypeId) (x y:Operand) (ho:o.op = .store ty x y) (g off:Nat) (cells:Array Value) (hx:a.eval x = .pointer (some ⟨g,off,none⟩)) (hy:a.eval y = .agg cells)
  (t:TypeId) (old:Array Value) (hg:Blk w g t old) (hi:(P.info? ty).map (·.size)=some cells.size) (hn:off+cells.size≤old.size) (h1:cells.all (·.oneCell')=true)
  (h:∀ w',Blk w' g t (splice old off cells.toList)→w.grownBy w' (some g)→wpList P ops Q rest (a.put o.dst undef) w'):wpList P ops Q (o::rest) a w:=
 wpList_plain hgd fun _ hK=>wp_store_blk ty x y ho g off cells hx hy t old hg hi hn h1 fun w' h2 h3=>hK _ _ (h w' h2 h3)
theorem wpList_store_all (hgd:o.guard=none) (ty:TypeId) (x y:Operand) (ho:o.op = .store ty x y) (g:Nat) (cells:Array Value) (hx:a.eval x = .pointer (some ⟨g,0,none⟩)) (hy:a.eval y = .agg cells)
  (t:TypeId) (old:Array Value) (hg:Blk w g t old) (hi:(P.info? ty).map (·.size)=some cells.size) (hn:cells.size=old.size) (h1:cells.all (·.oneCell')=true)
  (h:∀ w',Blk w' g t cells→w.grownBy w' (some g)→wpList P ops Q rest (a.put o.dst undef) w'):wpList P ops Q (o::rest) a w:=
 wpList_store_blk hgd ty x y ho g 0 cells hx hy t old hg hi (by omega) h1 fun w' h2 h3=>h w' (by rwa [splice_whole _ _ hn] at h2) h3
end
theorem wpList_build_to {P:Program} {ops:Array Oper} {rest:List Oper} {o:Oper} {a:Act} {w:World} {Q:Exit→Act→World→Prop} (hg:o.guard=none) (t:TypeId) (parts:Array (Nat×Operand)) (ho:o.op = .build t parts) (vals:List (Nat×Value))
  (hv:(parts.map fun(i,x)=>(i,a.eval x)).toList=vals) (cs:Array Value) (hf:P.built t vals=some cs)
  (h:wpList P ops Q rest (a.put o.dst (.agg cs)) w):wpList P ops Q (o::rest) a w:=
 wpList_build hg t parts ho (by rw [hv,hf];rfl) (by rw [hv,hf];exact h)
theorem results_blk {P:Program} {fn:Func} {p:Tmp} {ty:TypeId} (h:fn.results=#[.cell p ty]) (tmps:Array Value) (w:World) (g:Nat) (t:TypeId) (cs:Array Value) (d:TypeDesc)
  (hp:tmps.getD p undef = .pointer (some ⟨g,0,none⟩)) (hg:Blk w g t cs) (hu:P.underlying ty=some d) (hd:(match d with | .struct _ | .array _ _=>true | _=>false)=true) (hi:(P.info? ty).map (·.size)=some cs.size) :
  (results fn tmps).run P w = .ok (.agg cs) w:=results_cell_row h tmps w g t cs (0,0) d hp hg hu hd hi
theorem below_grown {B:Nat} {w0 w w':World} {g:Nat} (hb:Below B w0 w) (hg:w.grownBy w' (some g)) (hw:B≤w.heap.size) (hB:B≤g):Below B w0 w':=hb.grown hg hw (fun k hk=>by cases hk;exact hB)
theorem Blk.farAt {w:World} {g:Nat} {t:TypeId} {cs:Array Value} (h:Blk w g t cs) {b off:Nat} (hp:g≠b) (u:Value):Blk (w.setCell ⟨b,off,none⟩ u) g t cs:=h.far hp u
theorem below_set {B:Nat} {w0 w:World} {b off:Nat} {u:Value} (hB:B≤b) (hb:Below B w0 w):Below B w0 (w.setCell ⟨b,off,none⟩ u):=hb.setCell hB u
theorem Blk.newAt (w:World) (t:TypeId) (cs:Array Value) {g:Nat} (hg:g=w.heap.size):Blk (w.alloc (.cells cs t)) g t cs:=by subst hg;exact Blk.new w t cs
end Go.Proofs.Ytapgojgcmlnbgac
namespace Go.Proofs.Ytapgojgcmlnbgac
open Go
structure Ins where
 op:Int
 rd:Int
 rs1:Int
 rs2:Int
 imm:Int
 deriving DecidableEq
instance:Inhabited Ins:=⟨⟨0,0,0,0,0⟩⟩
def cutI (w:Int) (f t:Nat):Int:=w / 2 ^ f%2 ^ (t+1 - f)
def sgnI (n:Int) (b:Nat):Int:=if n<2 ^ (b - 1) then n else n - 2 ^ b
structure Kind where
 form:Int
 low:Int
 middle:Int
 upper:Int
 deriving DecidableEq
def kindP (op:Int):Option Kind:=
 if op=1 then some ⟨0,55,0,0⟩
 else if op=2 then some ⟨0,23,0,0⟩
 else if op=3 then some ⟨1,111,0,0⟩
 else if op=4 then some ⟨2,103,0,0⟩
 else if op=5 then some ⟨4,99,0,0⟩
 else if op=6 then some ⟨4,99,1,0⟩
 else if op=7 then some ⟨4,99,4,0⟩
 else if op=8 then some ⟨4,99,5,0⟩
 else if op=9 then some ⟨4,99,6,0⟩
 else if op=10 then some ⟨4,99,7,0⟩
 else if op=11 then some ⟨2,3,0,0⟩
 else if op=12 then some ⟨2,3,1,0⟩
 else if op=13 then some ⟨2,3,2,0⟩
 else if op=14 then some ⟨2,3,4,0⟩
 else if op=15 then some ⟨2,3,5,0⟩
 else if op=16 then some ⟨5,35,0,0⟩
 else if op=17 then some ⟨5,35,1,0⟩
 else if op=18 then some ⟨5,35,2,0⟩
 else if op=19 then some ⟨2,19,0,0⟩
 else if op=20 then some ⟨2,19,2,0⟩
 else if op=21 then some ⟨2,19,3,0⟩
 else if op=22 then some ⟨2,19,4,0⟩
 else if op=23 then some ⟨2,19,6,0⟩
 else if op=24 then some ⟨2,19,7,0⟩
 else if op=25 then some ⟨3,19,1,0⟩
 else if op=26 then some ⟨3,19,5,0⟩
 else if op=27 then some ⟨3,19,5,32⟩
 else if op=28 then some ⟨6,51,0,0⟩
 else if op=29 then some ⟨6,51,0,32⟩
 else if op=30 then some ⟨6,51,1,0⟩
 else if op=31 then some ⟨6,51,2,0⟩
 else if op=32 then some ⟨6,51,3,0⟩
 else if op=33 then some ⟨6,51,4,0⟩
 else if op=34 then some ⟨6,51,5,0⟩
 else if op=35 then some ⟨6,51,5,32⟩
 else if op=36 then some ⟨6,51,6,0⟩
 else if op=37 then some ⟨6,51,7,0⟩
 else if op=38 then some ⟨6,51,0,1⟩
 else if op=39 then some ⟨6,51,1,1⟩
 else if op=40 then some ⟨6,51,2,1⟩
 else if op=41 then some ⟨6,51,3,1⟩
 else if op=42 then some ⟨6,51,4,1⟩
 else if op=43 then some ⟨6,51,5,1⟩
 else if op=44 then some ⟨6,51,6,1⟩
 else if op=45 then some ⟨6,51,7,1⟩
 else if op=46 then some ⟨2,15,0,0⟩
 else if op=47 then some ⟨7,115,0,0⟩
 else if op=48 then some ⟨7,115,0,1⟩
 else none
def tellsB (k:Kind) (w:Int):Bool:=
 if cutI w 0 6=k.low then
  if k.form=0∨k.form=1 then true
  else if k.form=7 then decide (w=k.low+k.upper*1048576)
  else if k.form=3∨k.form=6 then decide (cutI w 12 14=k.middle∧cutI w 25 31=k.upper)
  else decide (cutI w 12 14=k.middle)
 else false
def readP (op form w:Int):Ins:=
 let rd:=cutI w 7 11
 let rs1:=cutI w 15 19
 let rs2:=cutI w 20 24
 if form=0 then ⟨op,rd,0,0,sgnI (w - cutI w 0 11) 32⟩
 else if form=1 then ⟨op,rd,0,0,sgnI (cutI w 31 31*1048576+cutI w 12 19*4096+cutI w 20 20*2048+cutI w 21 30*2) 21⟩
 else if form=2 then ⟨op,rd,rs1,0,sgnI (cutI w 20 31) 12⟩
 else if form=3 then ⟨op,rd,rs1,0,cutI w 20 24⟩
 else if form=4 then ⟨op,0,rs1,rs2,sgnI (cutI w 31 31*4096+cutI w 7 7*2048+cutI w 25 30*32+cutI w 8 11*2) 13⟩
 else if form=5 then ⟨op,0,rs1,rs2,sgnI (cutI w 25 31*32+cutI w 7 11) 12⟩
 else if form=7 then ⟨op,0,0,0,0⟩
 else ⟨op,rd,rs1,rs2,0⟩
def findP (w:Int):Nat→Int→Option Ins
 |0,_=>none
 |n+1,op=>
  match kindP op with
  |some k=>if tellsB k w=true then some (readP op k.form w) else findP w n (op+1)
  |none=>findP w n (op+1)
def decP (w:Int):Option Ins:=findP w 48 1
def tellsK (k:Kind) (low mid up w:Int):Bool:=
 if low=k.low then
  if k.form=0∨k.form=1 then true
  else if k.form=7 then decide (w=k.low+k.upper*1048576)
  else if k.form=3∨k.form=6 then decide (mid=k.middle∧up=k.upper)
  else decide (mid=k.middle)
 else false
theorem tellsB_eq (k:Kind) (w:Int):tellsB k w=tellsK k (cutI w 0 6) (cutI w 12 14) (cutI w 25 31) w:=rfl
def findK (low mid up w:Int):List (Int×Kind)→Int×Int
 |[]=>(-1,7)
 |(op,k)::l=>if tellsK k low mid up w=true then (op,k.form) else findK low mid up w l
def kinds:Nat→Int→List (Int×Kind)
 |0,_=>[]
 |n+1,op=>match kindP op with
  |some k=>(op,k)::kinds n (op+1)
  |none=>kinds n (op+1)
theorem findP_eq (w:Int):∀ (n:Nat) (op:Int),1≤op→findP w n op=let p:=findK (cutI w 0 6) (cutI w 12 14) (cutI w 25 31) w (kinds n op);if p.1<0 then none else some (readP p.1 p.2 w)
 |0,_,_=>rfl
 |n+1,op,h=>by
  unfold findP kinds
  cases hk:kindP op with
  |none=>simpa using findP_eq w n (op+1) (by omega)
  |some k=>
   simp only [hk]
   unfold findK
   rw [tellsB_eq]
   by_cases ht:tellsK k (cutI w 0 6) (cutI w 12 14) (cutI w 25 31) w=true
   ·rw [if_pos ht,if_pos ht]
    simp only
    rw [if_neg (by omega)]
   ·rw [if_neg ht,if_neg ht]
    exact findP_eq w n (op+1) (by omega)
def kindsL:List (Int×Kind):=[(1,⟨0,55,0,0⟩),(2,⟨0,23,0,0⟩),(3,⟨1,111,0,0⟩),(4,⟨2,103,0,0⟩),
 (5,⟨4,99,0,0⟩),(6,⟨4,99,1,0⟩),(7,⟨4,99,4,0⟩),(8,⟨4,99,5,0⟩),(9,⟨4,99,6,0⟩),(10,⟨4,99,7,0⟩),
 (11,⟨2,3,0,0⟩),(12,⟨2,3,1,0⟩),(13,⟨2,3,2,0⟩),(14,⟨2,3,4,0⟩),(15,⟨2,3,5,0⟩),(16,⟨5,35,0,0⟩),(17,⟨5,35,1,0⟩),(18,⟨5,35,2,0⟩),
 (19,⟨2,19,0,0⟩),(20,⟨2,19,2,0⟩),(21,⟨2,19,3,0⟩),(22,⟨2,19,4,0⟩),(23,⟨2,19,6,0⟩),(24,⟨2,19,7,0⟩),(25,⟨3,19,1,0⟩),(26,⟨3,19,5,0⟩),(27,⟨3,19,5,32⟩),
 (28,⟨6,51,0,0⟩),(29,⟨6,51,0,32⟩),(30,⟨6,51,1,0⟩),(31,⟨6,51,2,0⟩),(32,⟨6,51,3,0⟩),(33,⟨6,51,4,0⟩),(34,⟨6,51,5,0⟩),(35,⟨6,51,5,32⟩),(36,⟨6,51,6,0⟩),(37,⟨6,51,7,0⟩),
 (38,⟨6,51,0,1⟩),(39,⟨6,51,1,1⟩),(40,⟨6,51,2,1⟩),(41,⟨6,51,3,1⟩),(42,⟨6,51,4,1⟩),(43,⟨6,51,5,1⟩),(44,⟨6,51,6,1⟩),(45,⟨6,51,7,1⟩),
 (46,⟨2,15,0,0⟩),(47,⟨7,115,0,0⟩),(48,⟨7,115,0,1⟩)]
theorem kinds_eq:kinds 48 1=kindsL:=by decide +kernel
theorem cut_lt (w:Int) (f t:Nat):0≤cutI w f t∧cutI w f t<2 ^ (t+1 - f):=by
 unfold cutI
 have h:(0:Int)<2 ^ (t+1 - f):=Int.pow_pos (by omega)
 exact⟨Int.emod_nonneg _ (by omega),Int.emod_lt_of_pos _ h⟩
def IsP (i:Ins):Bool:=
 if 1≤i.op∧i.op≤48∧0≤i.rd∧i.rd≤31∧0≤i.rs1∧i.rs1≤31∧0≤i.rs2∧i.rs2≤31 then
  if i.op≤2 then decide (i.rs1=0∧i.rs2=0∧i.imm%4096=0)
  else if i.op=3 then decide (i.rs1=0∧i.rs2=0∧(-1048576≤i.imm∧i.imm≤1048574)∧i.imm%2=0)
  else if i.op=4∨(11≤i.op∧i.op≤15)∨(19≤i.op∧i.op≤24)∨i.op=46 then decide (i.rs2=0∧(-2048≤i.imm∧i.imm≤2047))
  else if 5≤i.op∧i.op≤10 then decide (i.rd=0∧(-4096≤i.imm∧i.imm≤4094)∧i.imm%2=0)
  else if 16≤i.op∧i.op≤18 then decide (i.rd=0∧(-2048≤i.imm∧i.imm≤2047))
  else if 25≤i.op∧i.op≤27 then decide (i.rs2=0∧(0≤i.imm∧i.imm≤31))
  else if 28≤i.op∧i.op≤45 then decide (i.imm=0)
  else decide (i.rd=0∧i.rs1=0∧i.rs2=0∧i.imm=0)
 else false
def formOf (op:Int):Int:=
 if op≤2 then 0 else if op=3 then 1
 else if op=4∨(11≤op∧op≤15)∨(19≤op∧op≤24)∨op=46 then 2
 else if 5≤op∧op≤10 then 4 else if 16≤op∧op≤18 then 5 else if 25≤op∧op≤27 then 3 else if 28≤op∧op≤45 then 6 else 7
def okOp (p:Int×Int):Bool:=decide (p.1<0) || (decide (1≤p.1∧p.1≤48)&&decide (p.2=formOf p.1))
theorem find_ok (low mid up w:Int):∀ l:List (Int×Kind),(∀ q∈l,okOp (q.1,q.2.form)=true)→okOp (findK low mid up w l)=true
 |[],_=>rfl
 |(op,k)::l,h=>by
  unfold findK
  split
  ·exact h (op,k) (by simp)
  ·exact find_ok low mid up w l fun q hq=>h q (by simp [hq])
theorem kindsL_ok:∀ q∈kindsL,okOp (q.1,q.2.form)=true:=by decide +kernel
theorem readP0 (op w:Int):readP op 0 w=⟨op,cutI w 7 11,0,0,sgnI (w - cutI w 0 11) 32⟩:=rfl
theorem readP1 (op w:Int):readP op 1 w=⟨op,cutI w 7 11,0,0,sgnI (cutI w 31 31*1048576+cutI w 12 19*4096+cutI w 20 20*2048+cutI w 21 30*2) 21⟩:=rfl
theorem readP2 (op w:Int):readP op 2 w=⟨op,cutI w 7 11,cutI w 15 19,0,sgnI (cutI w 20 31) 12⟩:=rfl
theorem readP3 (op w:Int):readP op 3 w=⟨op,cutI w 7 11,cutI w 15 19,0,cutI w 20 24⟩:=rfl
theorem readP4 (op w:Int):readP op 4 w=⟨op,0,cutI w 15 19,cutI w 20 24,sgnI (cutI w 31 31*4096+cutI w 7 7*2048+cutI w 25 30*32+cutI w 8 11*2) 13⟩:=rfl
theorem readP5 (op w:Int):readP op 5 w=⟨op,0,cutI w 15 19,cutI w 20 24,sgnI (cutI w 25 31*32+cutI w 7 11) 12⟩:=rfl
theorem readP6 (op w:Int):readP op 6 w=⟨op,cutI w 7 11,cutI w 15 19,cutI w 20 24,0⟩:=rfl
theorem readP7 (op w:Int):readP op 7 w=⟨op,0,0,0,0⟩:=rfl
theorem cut_hi (w:Int) (f t:Nat) (n:Int) (h:(2:Int) ^ (t+1 - f)=n):0≤cutI w f t∧cutI w f t<n:=by
 rw [←h]
 exact cut_lt w f t
theorem dec_is {w:Int} {i:Ins} (h:decP w=some i):IsP i=true:=by
 unfold decP at h
 rw [findP_eq w 48 1 (by omega),kinds_eq] at h
 have hk:=find_ok (cutI w 0 6) (cutI w 12 14) (cutI w 25 31) w kindsL kindsL_ok
 generalize findK (cutI w 0 6) (cutI w 12 14) (cutI w 25 31) w kindsL=p at h hk
 obtain⟨op,form⟩:=p
 simp only at h
 by_cases hop:op<0
 ·rw [if_pos hop] at h
  cases h
 rw [if_neg hop] at h
 have hfo:(1≤op∧op≤48)∧form=formOf op:=by
  unfold okOp at hk
  simp only [Bool.or_eq_true,Bool.and_eq_true,decide_eq_true_eq] at hk
  omega
 clear hk
 obtain⟨⟨o1,o2⟩,rfl⟩:=hfo
 obtain rfl:readP op (formOf op) w=i:=by injection h
 clear h
 have hrd:=cut_hi w 7 11 32 (by decide)
 have hr1:=cut_hi w 15 19 32 (by decide)
 have hr2:=cut_hi w 20 24 32 (by decide)
 have h31:=cut_hi w 31 31 2 (by decide)
 have h1219:=cut_hi w 12 19 256 (by decide)
 have h20:=cut_hi w 20 20 2 (by decide)
 have h2130:=cut_hi w 21 30 1024 (by decide)
 have h2031:=cut_hi w 20 31 4096 (by decide)
 have h7:=cut_hi w 7 7 2 (by decide)
 have h2530:=cut_hi w 25 30 64 (by decide)
 have h811:=cut_hi w 8 11 16 (by decide)
 have h2531:=cut_hi w 25 31 128 (by decide)
 have h011:cutI w 0 11=w%4096:=by unfold cutI;simp
 have e31:(2:Int) ^ 31=2147483648:=by decide
 have e32:(2:Int) ^ 32=4294967296:=by decide
 have e20:(2:Int) ^ 20=1048576:=by decide
 have e21:(2:Int) ^ 21=2097152:=by decide
 have e11:(2:Int) ^ 11=2048:=by decide
 have e12:(2:Int) ^ 12=4096:=by decide
 have e13:(2:Int) ^ 13=8192:=by decide
 unfold formOf
 by_cases c:op≤2
 ·rw [if_pos c,readP0]
  unfold IsP
  dsimp only
  rw [if_pos (by omega),if_pos c,decide_eq_true_eq]
  unfold sgnI
  simp only [e31,e32]
  refine⟨trivial,trivial,?_⟩
  split<;>omega
 rw [if_neg c]
 by_cases c1:op=3
 ·rw [if_pos c1,readP1]
  unfold IsP
  dsimp only
  rw [if_pos (by omega),if_neg c,if_pos c1,decide_eq_true_eq]
  unfold sgnI
  simp only [e20,e21]
  refine⟨trivial,trivial,?_⟩
  split<;>omega
 rw [if_neg c1]
 by_cases c2:op=4∨(11≤op∧op≤15)∨(19≤op∧op≤24)∨op=46
 ·rw [if_pos c2,readP2]
  unfold IsP
  dsimp only
  rw [if_pos (by omega),if_neg c,if_neg c1,if_pos c2,decide_eq_true_eq]
  unfold sgnI
  simp only [e11,e12]
  refine⟨trivial,?_⟩
  split<;>omega
 rw [if_neg c2]
 by_cases c3:5≤op∧op≤10
 ·rw [if_pos c3,readP4]
  unfold IsP
  dsimp only
  rw [if_pos (by omega),if_neg c,if_neg c1,if_neg c2,if_pos c3,decide_eq_true_eq]
  unfold sgnI
  simp only [e12,e13]
  refine⟨trivial,?_⟩
  split<;>omega
 rw [if_neg c3]
 by_cases c4:16≤op∧op≤18
 ·rw [if_pos c4,readP5]
  unfold IsP
  dsimp only
  rw [if_pos (by omega),if_neg c,if_neg c1,if_neg c2,if_neg c3,if_pos c4,decide_eq_true_eq]
  unfold sgnI
  simp only [e11,e12]
  refine⟨trivial,?_⟩
  split<;>omega
 rw [if_neg c4]
 by_cases c5:25≤op∧op≤27
 ·rw [if_pos c5,readP3]
  unfold IsP
  dsimp only
  rw [if_pos (by omega),if_neg c,if_neg c1,if_neg c2,if_neg c3,if_neg c4,if_pos c5,decide_eq_true_eq]
  exact⟨rfl,by omega⟩
 rw [if_neg c5]
 by_cases c6:28≤op∧op≤45
 ·rw [if_pos c6,readP6]
  unfold IsP
  dsimp only
  rw [if_pos (by omega),if_neg c,if_neg c1,if_neg c2,if_neg c3,if_neg c4,if_neg c5,if_pos c6]
  rfl
 rw [if_neg c6,readP7]
 unfold IsP
 dsimp only
 rw [if_pos (by omega),if_neg c,if_neg c1,if_neg c2,if_neg c3,if_neg c4,if_neg c5,if_neg c6]
 rfl
theorem cut_eq (w:Int) (f t:Nat) (a b:Int) (ha:(2:Int) ^ f=a) (hb:(2:Int) ^ (t+1 - f)=b):cutI w f t=w / a%b:=by unfold cutI;rw [ha,hb]
def kindOkB (op:Int):Bool:=
 match kindP op with
 |some k=>decide (0≤k.low∧k.low<128∧0≤k.middle∧k.middle<8∧0≤k.upper∧k.upper<128∧k.form=formOf op∧(k.form=7→k.low=115∧k.upper≤1))
 |none=>false
theorem kindOk_all:∀ n:Nat,n<48→kindOkB ((n:Int)+1)=true:=by decide +kernel
theorem kind_ok (op:Int) (h0:1≤op) (h1:op≤48):∃ k,kindP op=some k∧0≤k.low∧k.low<128∧0≤k.middle∧k.middle<8∧0≤k.upper∧k.upper<128∧k.form=formOf op∧(k.form=7→k.low=115∧k.upper≤1):=by
 have h:=kindOk_all (op - 1).toNat (by omega)
 rw [show(((op - 1).toNat:Int)+1)=op by omega] at h
 unfold kindOkB at h
 cases hk:kindP op with
 |none=>rw [hk] at h;cases h
 |some k=>rw [hk] at h;exact⟨k,rfl,of_decide_eq_true h⟩
theorem is_op {i:Ins} (h:IsP i=true):(1≤i.op∧i.op≤48)∧(0≤i.rd∧i.rd≤31)∧(0≤i.rs1∧i.rs1≤31)∧0≤i.rs2∧i.rs2≤31:=by
 unfold IsP at h
 split at h
 ·omega
 ·cases h
end Go.Proofs.Ytapgojgcmlnbgac
