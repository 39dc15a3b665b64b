/- Parts of a proof. -/
import Derived.Test.YtapgojgcmlnbgaaGreatDoorK06
import Derived.Deep.RegionHeld3
import Derived.Test.YtapgojgcmlnbgaaGreatDoorK05
set_option linter.unusedSimpArgs false
set_option linter.unusedVariables false
set_option maxRecDepth 100000
set_option maxHeartbeats 16000000
namespace Go.Proofs.YtapgojgcmlnbgaaGreatDoor
open Go Go.RowKit
theorem Sc (c:UInt8) (s:List UInt8):∃ k r,Au c s=k::r:=by
 cases h:Au c s with
 |nil=>exact absurd h (Jp c s)
 |cons k r=>exact⟨k,r,rfl⟩
theorem Dn (c:UInt8) (s:List UInt8):(Au c s).length≤s.length+1:=by rw [K0];exact Nat.succ_le_succ List.count_le_length
def B8 (t:TypeId) (w:World) (g:Nat) (x:Plr×List UInt8) (e:Ending) (w':World):Prop:=
 Below g w w'∧e = .returned (sV x.2)∧∃ vM vC,Ej t w' g x.1 vM vC
theorem Ai0 {B:Nat} (A:Option Addr) (ws:List (List UInt8)) (cap:Nat) (w:World) (V:F5 B w) (hB:B≤w.heap.size) (hl:ws.length≤4294967296) (hs:∀ x∈ws,x.length≤4294967296) (hA:Jr w w.heap.size A ws) (hn:Db ws=none) :
  Calls Tryz.prog 27 #[.slice A ws.length cap] w fun e w'=>e = .returned (.tuple #[.slice none 0 0, .bool false])∧Below w.heap.size w w':=by
 refine(R8 A ws cap w V hB hl hs hA).mono ?_
 rintro e w' ⟨hb,⟨_,rfl⟩ | ⟨l,v,h,_⟩⟩
 ·exact⟨rfl,hb⟩
 ·rw [hn] at h;cases h
theorem I2 {B:Nat} (A:Option Addr) (ws:List (List UInt8)) (cap:Nat) (l:List Int) (w:World) (V:F5 B w) (hB:B≤w.heap.size) (hl:ws.length≤4294967296) (hs:∀ x∈ws,x.length≤4294967296) (hA:Jr w w.heap.size A ws) (hn:Db ws=some l) :
  Calls Tryz.prog 27 #[.slice A ws.length cap] w fun e w'=>∃ A' cap',e = .returned (.tuple #[.slice A' l.length cap', .bool true])∧w'.ownsRow w.heap.size 27 1 (.slice A' l.length cap') l.length (l.map (.int .u32))∧Below w.heap.size w w':=by
 refine(R8 A ws cap w V hB hl hs hA).mono ?_
 rintro e w' ⟨hb,⟨h,_⟩ | ⟨l',v,h,rfl,ho⟩⟩
 ·rw [hn] at h;cases h
 ·rw [hn] at h
  injection h with h
  subst h
  obtain⟨A',c',rfl⟩:=Aq ho
  exact⟨A',c',rfl,ho,hb⟩
theorem Afu {w:World} {t:TypeId} {k0:List UInt8} {ws:List (List UInt8)}:Jr (w.alloc (.cells ((k0::ws).map sV).toArray t)) (w.alloc (.cells ((k0::ws).map sV).toArray t)).heap.size (some ⟨w.heap.size,1,none⟩) ws:=fun _=>⟨w.heap.size,1,rfl,by simp,fun i v hi=>by rw [World.cell?_alloc_new];simp [Nat.add_comm 1 i,hi]⟩
theorem Fe {B:Nat} {k0:List UInt8} {ws:List (List UInt8)} {w:World} (V:F5 B w) (hB:B≤w.heap.size) (hl:ws.length≤4294967296) (hs:∀ x∈ws,x.length≤4294967296) {t:TypeId} {Q:Ending→World→Prop}
  (h:∀ A cap,Jr (w.alloc (.cells ((k0::ws).map sV).toArray t)) (w.alloc (.cells ((k0::ws).map sV).toArray t)).heap.size A ws→Calls Tryz.prog 27 #[.slice A ws.length cap] (w.alloc (.cells ((k0::ws).map sV).toArray t)) Q) (A:Option Addr) (n cap:Nat) (hA:n=ws.length) (hAA:A=some ⟨w.heap.size,1,none⟩∨ws=[]) :
  Calls Tryz.prog 27 #[.slice A n cap] (w.alloc (.cells ((k0::ws).map sV).toArray t)) Q:=by
 subst hA
 refine h A cap ?_
 rcases hAA with rfl | rfl
 ·exact Afu
 ·exact fun h=>absurd rfl h
theorem Aio {B:Nat} (g:Nat) (p:Plr) (vM vC:Value) (s k0:List UInt8) (ws:List (List UInt8)) (w:World) (V:F5 B w) (hB:B≤g) (hP:Ej 59 w g p vM vC) (hl:s.length≤2000000) (hws:Au 32 s=k0::ws) (hn:Db ws=none) :
  Calls Tryz.prog 16 #[.pointer (some ⟨g,0,none⟩),sV s] w (B8 59 w g (p,I3)):=by
 obtain⟨Post,hPost⟩:∃ P,P=B8 59 w g (p,I3):=⟨_,rfl⟩
 rw [←hPost]
 have HPO:=Lib.hid hPost
 have zg:=hP.box.lt
 have CS:=Ex 32 s w V (by omega)
 have hlw:=Dn 32 s
 rw [hws] at CS hlw
 have hs:∀ x∈ws,x.length≤4294967296:=fun x hx=>by have:=B0 32 s x (by rw [hws];exact List.mem_cons_of_mem _ hx);omega
 simp only [List.length_cons] at hlw
 have CN:=Lib.hid (fun A n cap hA hAA=>Fe (k0:=k0) (ws:=ws) (t:=9) V (by omega) (by omega) hs (fun A cap hst=>Ai0 A ws cap _ (V.ext ((Below.refl B w).alloc (by omega) _)) (by simp;omega) (by omega) hs hst hn) A n cap hA hAA)
 have CSH:=Lib.hid CS
 have HPP:=Lib.hid hP
 clear CS hPost hP hs hn hws
 have hb1:Below w.heap.size w (w.alloc (.cells ((k0::ws).map sV).toArray 9)):=(Below.refl _ _).alloc (Nat.le_refl _) _
 have HB1:=Lib.hid hb1
 clear hb1
 go_enter Tryz.func16,Tryz.ntmps16
 rcases ws with _ | ⟨x,ws⟩
 all_goals (
  go_wp2_with(first
   |(go_at_call 15;(with_reducible refine CSH.out.mono ?_);rintro e w2 ⟨rfl,rfl⟩)
   |(go_at_call 27;go_loud (refine(CN.out _ _ _ rfl (by first | exact Or.inl rfl | exact Or.inr rfl | exact Or.inr trivial)).mono ?_;rintro e w3 ⟨rfl,hb3⟩)))
  rw [HPO.out]
  have hb9:=HB1.out.trans (hb3.mono HB1.out.size)
  exact⟨hb9.mono (Nat.le_of_lt zg),rfl,_,_,HPP.out.ext hb9⟩)
theorem Xv:Em Ra where
 hart:=⟨rfl,fun x hx=>(by have:=List.eq_of_mem_replicate hx;omega),by decide,by decide⟩
 state:=rfl
 cause:=rfl
 may:=by decide
 mem:=fun b hb=>(by cases hb)
 room:=by decide
 cho:=fun x hx=>(by cases hx)
 many:=by decide
theorem Wr {s:List UInt8} {D:List (List UInt8)} {z:List UInt8} (h:Au 10 s=D++[z]):Me s=(if z=[] then D else D++[z]).take 40:=by
 unfold Me
 rw [h,List.getLastD_concat,List.dropLast_concat]
theorem Wx (c:UInt8) (s:List UInt8):∃ D z,Au c s=D++[z]:=⟨_,_,(List.dropLast_concat_getLast (Jp c s)).symm⟩
theorem S3:Tryz.prog.built 26 [(0, .int .i64 8),(1, .int .i64 64),(2, .int .i64 2)]=some #[.int .i64 8, .int .i64 64, .int .i64 2]:=by kernel_rfl
theorem Vy:Tryz.prog.built 59 [(2, .agg #[.int .i64 8, .int .i64 64, .int .i64 2])]=some (B9 Ra (.slice none 0 0) (.slice none 0 0)):=by kernel_rfl
def Aa1 (M R:Plr→Int→List Com×Ap×Int):Prop:=∀ (p:Plr) (s:List UInt8),Em p→s.length≤2000000→Em (H7 M R Gt Hy p s).1∧(H7 M R Gt Hy p s).2.length≤21002000
def Vq (f:FuncId) (t:TypeId) (M R:Plr→Int→List Com×Ap×Int):Prop:=
 ∀ (B g:Nat) (p:Plr) (vM vC:Value) (s:List UInt8) (w:World),F5 B w→B≤g→Em p→Ej t w g p vM vC→s.length≤2000000→Calls Tryz.prog f #[.pointer (some ⟨g,0,none⟩),sV s] w (B8 t w g (H7 M R Gt Hy p s))
theorem Nc (M R:Plr→Int→List Com×Ap×Int) (p:Plr) (s:List UInt8) (r:List (List UInt8)):H8 M R Gt Hy p (s::r)=(H7 M R Gt Hy p s).2++10::H8 M R Gt Hy (H7 M R Gt Hy p s).1 r:=rfl
theorem Uw {α:Type} {D E:List α} {n k:Nat} {x:α} (h:(D.take n)[k]? = some x):(D++E)[k]? = some x:=by
 rw [List.getElem?_take] at h
 split at h
 ·rw [List.getElem?_append_left (List.getElem?_eq_some_iff.1 h).1];exact h
 ·cases h
theorem Ai4 {M R:Plr→Int→List Com×Ap×Int} (HO:Aa1 M R) (HC:Vq 16 59 M R) {B:Nat} (s:List UInt8) (w:World) (V:F5 B w) (hB:B≤w.heap.size) (hl:s.length≤2000000) :
  Calls Tryz.prog 7 #[sV s] w fun e w'=>e = .returned (sV (Ov M R Gt Hy s))∧Below w.heap.size w w':=by
 obtain⟨D,z,hDz⟩:=Wx 10 s
 obtain⟨X,hX⟩:∃ X,Ov M R Gt Hy s=X:=⟨_,rfl⟩
 rw [hX]
 unfold Ov at hX
 rw [Wr hDz] at hX
 have CS:=Ex 10 s w V (by omega)
 have hlong:=Dn 10 s
 have hpart:=B0 10 s
 rw [hDz] at CS hlong hpart
 have hbk:Blk (w.alloc (.cells ((D++[z]).map sV).toArray 9)) w.heap.size 9 ((D++[z]).map sV).toArray:=Blk.new w _ _
 have hb1:Below w.heap.size w (w.alloc (.cells ((D++[z]).map sV).toArray 9)):=(Below.refl _ _).alloc (Nat.le_refl _) _
 have hlen:(D++[z]).length=D.length+1:=by simp
 rw [hlen] at CS hlong
 generalize hw1:w.alloc (.cells ((D++[z]).map sV).toArray 9)=w1 at CS hbk hb1
 have hz1:w1.heap.size=w.heap.size+1:=by rw [←hw1];simp
 clear hw1 hlen
 have c0:w1.cell? ⟨w.heap.size,D.length,none⟩=some (sV z):=by rw [hbk.cell];simp
 have HS:=Lib.hid (fun x (hx:x∈D++[z])=>Nat.le_trans (hpart x hx) hl)
 have HX:=Lib.hid hX
 have HBK:=Lib.hid hbk
 have CSH:=Lib.hid CS
 have HHO:=Lib.hid HO
 have HHC:=Lib.hid HC
 clear hX hbk CS hpart hDz HO HC
 have d1:((D.length+1:Nat):Int) - 1=(D.length:Int):=by omega
 go_enter Tryz.func7,Tryz.ntmps7
 by_cases hz:z=[]
 ·have e0:(z==[])=true:=by simp [hz]
  rw [if_pos hz] at HX
  clear hz
  go_upto_region 4 with(go_at_call 15;(with_reducible refine CSH.out.mono ?_);rintro e w2 ⟨rfl,rfl⟩)
  go_upto_region 5 with(first
   |(refine Ao rfl 26 _ rfl [(0, .int .i64 8),(1, .int .i64 64),(2, .int .i64 2)] rfl _ S3 ?_)
   |(refine Ao rfl 59 _ rfl [(2, .agg #[.int .i64 8, .int .i64 64, .int .i64 2])] rfl _ Vy ?_))
  try go_simp
  refine A4 fun W4 hq=>?_
  have hB4:Blk W4 (w.heap.size+1) 59 (B9 Ra (.slice none 0 0) (.slice none 0 0)):=by
   rw [hq]
   have:=Blk.new w2 59 (B9 Ra (.slice none 0 0) (.slice none 0 0))
   rw [hz1] at this
   exact this
  have hb4:Below w2.heap.size w2 W4:=by rw [hq];exact(Below.refl _ _).alloc (Nat.le_refl _) _
  clear hq
  obtain⟨K,hK⟩:∃ K,K=(D).take 40:=⟨_,rfl⟩
  obtain⟨m,hm⟩:∃ m,m=K.length:=⟨_,rfl⟩
  have hmL:m=min 40 (D.length):=by rw [hm,hK,List.length_take]<;>simp
  have hmin:min ((D.length:Int)) 40=(m:Int):=by omega
  have hm0:(0:Int)≤m:=by omega
  have hm1:(m:Int)≤(D.length:Int)+1:=by omega
  have hm40:m≤40:=by omega
  have HK:=Lib.hid (fun(k:Nat) (x:List UInt8) (h:K[k]? = some x)=>(by rw [hK] at h;have:=Uw (E:=[z]) h;first | exact this | (rw [List.append_nil] at this;exact this):(D++[z])[k]? = some x))
  rw [←hK] at HX
  have HP4:Hid (Ej 59 W4 (w.heap.size+1) Ra (.slice none 0 0) (.slice none 0 0)):=Lib.hid ⟨hB4,World.ownsRow_nil _ _ _ _,World.ownsRow_nil _ _ _ _⟩
  have HB4:=Lib.hid hb4
  clear hB4 hb4 hK hmL c0 e0 d1 CSH
  go_wp2_with(fail)
  subst hm
  go_loopw [5,31] (fun v5 v31 wr=>∃ (k:Nat) (out:List UInt8) (p:Plr) (vM vC:Value),v5=sV out∧v31 = .int .i64 k∧k≤K.length∧out.length≤k*21002001∧Below w2.heap.size w2 wr∧Hid (Ej 59 wr (w.heap.size+1) p vM vC∧Em p∧out++H8 M R Gt Hy p (K.drop k)=X)) (fun _ v _=>K.length - (intOf v).toNat)
  case atStart=>exact⟨0,[],Ra,_,_,rfl,rfl,Nat.zero_le _,Nat.zero_le _,HB4.out,Lib.hid ⟨HP4.out,Xv,HX.out⟩⟩
  case round=>
   clear HP4 HB4 HX hmin
   obtain⟨k,out,p,vM,vC,rfl,rfl,hk,hol,hb,HR⟩:=hrel
   have hbz:=hb.size
   by_cases hlt:k<K.length
   ·obtain⟨x,hx⟩:∃ x,K[k]? = some x:=⟨K[k],by simp [hlt]⟩
    have hDx:=HK.out k x hx
    have hck:wr.cell? ⟨w.heap.size,k,none⟩=some (sV x):=by rw [(HBK.out.ext hb).cell];simp only [List.getElem?_toArray,List.getElem?_map,hDx];rfl
    have hxl:=HS.out x (List.mem_of_getElem? hDx)
    have hd:K.drop k=x::K.drop (k+1):=by rw [List.drop_eq_getElem_cons hlt];congr 1;exact Option.some.inj ((List.getElem?_eq_getElem hlt).symm.trans hx)
    have hq:=HHO.out p x HR.out.2.1 hxl
    have CL:=HHC.out B (w.heap.size+1) p vM vC x wr (V.ext ((hb1.trans (hb.mono hb1.size)).mono hB)) (by omega) HR.out.2.1 HR.out.1 hxl
    have hs:=HR.out.2.2
    rw [hd,Nc] at hs
    generalize H7 M R Gt Hy p x=Y at CL hq hs
    obtain⟨p2,ans⟩:=Y
    unfold B8 at CL
    dsimp only at CL hq hs
    obtain⟨hq1,hq2⟩:=hq
    have HQ:=Lib.hid (And.intro hq1 hs)
    have CLH:=Lib.hid CL
    have hlen1:ans.length+1≤9223372036854775807:=by omega
    have hlen2:out.length+(ans.length+1)≤9223372036854775807:=by omega
    have hcat:=Kq
    have hcat2:∀ a:List UInt8,Value.string (⟨a.toArray⟩++⟨#[10]⟩)=sV (a++[10]):=fun a=>Kq a [10]
    clear CL hq1 hs hd hx hDx
    go_wp2_with(go_at_call 16;(with_reducible refine CLH.out.mono ?_);rintro e w5 ⟨hb5,rfl,vM5,vC5,hP5⟩)
    go_roundw
    case rel=>exact⟨k+1,out++(ans++[10]),p2,vM5,vC5,by simp,by go_num,by omega,by simp;omega,hb.trans (hb5.mono (by omega)),Lib.hid ⟨hP5,HQ.out.1,by rw [←HQ.out.2];simp⟩⟩
    case measure=>simp [intOf];omega
   ·obtain rfl:k=K.length:=by omega
    have e1:decide ((K.length:Int)<K.length)=false:=by simp
    have hs:=HR.out.2.2
    rw [List.drop_length] at hs
    have hs:out=X:=by rw [←hs];simp [H8]
    have HQ:=Lib.hid hs
    clear hs
    go_wp2_with(fail)
    go_ret
    exact⟨by rw [HQ.out];rfl,hb1.trans (hb.mono hb1.size)⟩
 ·have e0:(z==[])=false:=by simp [hz]
  rw [if_neg hz] at HX
  clear hz
  go_upto_region 4 with(go_at_call 15;(with_reducible refine CSH.out.mono ?_);rintro e w2 ⟨rfl,rfl⟩)
  go_upto_region 5 with(first
   |(refine Ao rfl 26 _ rfl [(0, .int .i64 8),(1, .int .i64 64),(2, .int .i64 2)] rfl _ S3 ?_)
   |(refine Ao rfl 59 _ rfl [(2, .agg #[.int .i64 8, .int .i64 64, .int .i64 2])] rfl _ Vy ?_))
  try go_simp
  refine A4 fun W4 hq=>?_
  have hB4:Blk W4 (w.heap.size+1) 59 (B9 Ra (.slice none 0 0) (.slice none 0 0)):=by
   rw [hq]
   have:=Blk.new w2 59 (B9 Ra (.slice none 0 0) (.slice none 0 0))
   rw [hz1] at this
   exact this
  have hb4:Below w2.heap.size w2 W4:=by rw [hq];exact(Below.refl _ _).alloc (Nat.le_refl _) _
  clear hq
  obtain⟨K,hK⟩:∃ K,K=(D++[z]).take 40:=⟨_,rfl⟩
  obtain⟨m,hm⟩:∃ m,m=K.length:=⟨_,rfl⟩
  have hmL:m=min 40 (D.length+1):=by rw [hm,hK,List.length_take]<;>simp
  have hmin:min ((D.length:Int)+1) 40=(m:Int):=by omega
  have hm0:(0:Int)≤m:=by omega
  have hm1:(m:Int)≤(D.length:Int)+1:=by omega
  have hm40:m≤40:=by omega
  have HK:=Lib.hid (fun(k:Nat) (x:List UInt8) (h:K[k]? = some x)=>(by rw [hK] at h;have:=Uw (E:=[]) h;first | exact this | (rw [List.append_nil] at this;exact this):(D++[z])[k]? = some x))
  rw [←hK] at HX
  have HP4:Hid (Ej 59 W4 (w.heap.size+1) Ra (.slice none 0 0) (.slice none 0 0)):=Lib.hid ⟨hB4,World.ownsRow_nil _ _ _ _,World.ownsRow_nil _ _ _ _⟩
  have HB4:=Lib.hid hb4
  clear hB4 hb4 hK hmL c0 e0 d1 CSH
  go_wp2_with(fail)
  subst hm
  go_loopw [5,31] (fun v5 v31 wr=>∃ (k:Nat) (out:List UInt8) (p:Plr) (vM vC:Value),v5=sV out∧v31 = .int .i64 k∧k≤K.length∧out.length≤k*21002001∧Below w2.heap.size w2 wr∧Hid (Ej 59 wr (w.heap.size+1) p vM vC∧Em p∧out++H8 M R Gt Hy p (K.drop k)=X)) (fun _ v _=>K.length - (intOf v).toNat)
  case atStart=>exact⟨0,[],Ra,_,_,rfl,rfl,Nat.zero_le _,Nat.zero_le _,HB4.out,Lib.hid ⟨HP4.out,Xv,HX.out⟩⟩
  case round=>
   clear HP4 HB4 HX hmin
   obtain⟨k,out,p,vM,vC,rfl,rfl,hk,hol,hb,HR⟩:=hrel
   have hbz:=hb.size
   by_cases hlt:k<K.length
   ·obtain⟨x,hx⟩:∃ x,K[k]? = some x:=⟨K[k],by simp [hlt]⟩
    have hDx:=HK.out k x hx
    have hck:wr.cell? ⟨w.heap.size,k,none⟩=some (sV x):=by rw [(HBK.out.ext hb).cell];simp only [List.getElem?_toArray,List.getElem?_map,hDx];rfl
    have hxl:=HS.out x (List.mem_of_getElem? hDx)
    have hd:K.drop k=x::K.drop (k+1):=by rw [List.drop_eq_getElem_cons hlt];congr 1;exact Option.some.inj ((List.getElem?_eq_getElem hlt).symm.trans hx)
    have hq:=HHO.out p x HR.out.2.1 hxl
    have CL:=HHC.out B (w.heap.size+1) p vM vC x wr (V.ext ((hb1.trans (hb.mono hb1.size)).mono hB)) (by omega) HR.out.2.1 HR.out.1 hxl
    have hs:=HR.out.2.2
    rw [hd,Nc] at hs
    generalize H7 M R Gt Hy p x=Y at CL hq hs
    obtain⟨p2,ans⟩:=Y
    unfold B8 at CL
    dsimp only at CL hq hs
    obtain⟨hq1,hq2⟩:=hq
    have HQ:=Lib.hid (And.intro hq1 hs)
    have CLH:=Lib.hid CL
    have hlen1:ans.length+1≤9223372036854775807:=by omega
    have hlen2:out.length+(ans.length+1)≤9223372036854775807:=by omega
    have hcat:=Kq
    have hcat2:∀ a:List UInt8,Value.string (⟨a.toArray⟩++⟨#[10]⟩)=sV (a++[10]):=fun a=>Kq a [10]
    clear CL hq1 hs hd hx hDx
    go_wp2_with(go_at_call 16;(with_reducible refine CLH.out.mono ?_);rintro e w5 ⟨hb5,rfl,vM5,vC5,hP5⟩)
    go_roundw
    case rel=>exact⟨k+1,out++(ans++[10]),p2,vM5,vC5,by simp,by go_num,by omega,by simp;omega,hb.trans (hb5.mono (by omega)),Lib.hid ⟨hP5,HQ.out.1,by rw [←HQ.out.2];simp⟩⟩
    case measure=>simp [intOf];omega
   ·obtain rfl:k=K.length:=by omega
    have e1:decide ((K.length:Int)<K.length)=false:=by simp
    have hs:=HR.out.2.2
    rw [List.drop_length] at hs
    have hs:out=X:=by rw [←hs];simp [H8]
    have HQ:=Lib.hid hs
    clear hs
    go_wp2_with(fail)
    go_ret
    exact⟨by rw [HQ.out];rfl,hb1.trans (hb.mono hb1.size)⟩
theorem G0 {w:World} {base base':Nat} {e:TypeId} {size:Nat} {v:Value} {n:Nat} {xs:List Value} (h:w.ownsRow base e size v n xs) (hb:base'≤base):w.ownsRow base' e size v n xs:=
 ⟨h.1,h.2.imp id fun⟨g,cap,cur,e,l,r⟩=>⟨g,cap,cur,e,Nat.le_trans hb l,r⟩⟩
theorem Ag3 {B:Nat} (g:Nat) (p:Plr) (vM vC:Value) (s k0:List UInt8) (ws:List (List UInt8)) (l:List Int) (w:World) (V:F5 B w) (hB:B≤g) (hP:Ej 59 w g p vM vC) (hl:s.length≤2000000) (hws:Au 32 s=k0::ws) (hn:Db ws=some l)
  (hk:(k0≠Iu∧k0≠pcB∧k0≠Mz∧k0≠Jv∧k0≠Gg∧k0≠G8∧k0≠Pe∧k0≠J8)∨((k0=pcB∨k0=G8∨k0=Pe∨k0=J8)∧l.length≠1)∨(k0=Mz∧l.length≠2)∨(k0=Jv∧l.length≠3)) :
  Calls Tryz.prog 16 #[.pointer (some ⟨g,0,none⟩),sV s] w (B8 59 w g (p,I3)):=by
 obtain⟨Post,hPost⟩:∃ P,P=B8 59 w g (p,I3):=⟨_,rfl⟩
 rw [←hPost]
 have HPO:=Lib.hid hPost
 have zg:=hP.box.lt
 have CS:=Ex 32 s w V (by omega)
 have hlw:=Dn 32 s
 rw [hws] at CS hlw
 have hs:∀ x∈ws,x.length≤4294967296:=fun x hx=>by have:=B0 32 s x (by rw [hws];exact List.mem_cons_of_mem _ hx);omega
 simp only [List.length_cons] at hlw
 have hnl:=Dg hn
 have hnw:=D7 hn
 have hll:l.length≤2000001:=by omega
 have CN:=Lib.hid (fun A n cap hA hAA=>Fe (k0:=k0) (ws:=ws) (t:=9) V (by omega) (by omega) hs (fun A cap hst=>I2 A ws cap l _ (V.ext ((Below.refl B w).alloc (by omega) _)) (by simp;omega) (by omega) hs hst hn) A n cap hA hAA)
 have CSH:=Lib.hid CS
 have HPP:=Lib.hid hP
 have HNW:=Lib.hid hnw
 have hb1:Below w.heap.size w (w.alloc (.cells ((k0::ws).map sV).toArray 9)):=(Below.refl _ _).alloc (Nat.le_refl _) _
 have hbk:=Blk.new w 9 ((k0::ws).map sV).toArray
 have HB1:=Lib.hid (And.intro hb1 hbk)
 clear CS hPost hP hs hn hws hb1 hbk hnl hlw hnw
 go_enter Tryz.func16,Tryz.ntmps16
 rcases ws with _ | ⟨y,ws⟩
 all_goals
  go_upto_region 6 with(first
   |(go_at_call 15;(with_reducible refine CSH.out.mono ?_);rintro e w2 ⟨rfl,rfl⟩)
   |(go_at_call 27;(refine(CN.out _ _ _ rfl (by first | exact Or.inl rfl | exact Or.inr rfl | exact Or.inr trivial)).mono ?_);rintro e w3 ⟨A',cap',rfl,hown,hb3⟩))
  try go_simp
  have hb9:=HB1.out.1.trans (hb3.mono HB1.out.1.size)
  have c0:w3.cell? ⟨w.heap.size,0,none⟩=some (sV k0):=(HB1.out.2.ext hb3).cell 0
  have HROW:=Lib.hid (G0 hown (base':=g+1) (by simp;omega))
  have HP3:=Lib.hid (HPP.out.ext hb9)
  have HB9:=Lib.hid (hb9.mono (Nat.le_of_lt zg))
  have z9:=hb9.size
  clear hown hb3 hb9 CN CSH HPP HB1
 all_goals
  clear z9 zg HNW HROW hll
  rcases hk with⟨h1,h2,h3,h4,h5,h6,h7,h8⟩ | ⟨rfl | rfl | rfl | rfl,hn1⟩ | ⟨rfl,hn2⟩ | ⟨rfl,hn3⟩
  ·have e1:(k0==[119,111,114,100,115])=false:=by simpa [Iu] using h1
   have e2:(k0==[112,99])=false:=by simpa [pcB] using h2
   have e3:(k0==[115,101,116])=false:=by simpa [Mz] using h3
   have e4:(k0==[99,111,114,101])=false:=by simpa [Jv] using h4
   have e5:(k0==[99,104,111,111,115,101])=false:=by simpa [Gg] using h5
   have e6:(k0==[109,111,100,101,108])=false:=by simpa [G8] using h6
   have e7:(k0==[114,117,110])=false:=by simpa [Pe] using h7
   have e8:(k0==[119,104,97,116])=false:=by simpa [J8] using h8
   clear h1 h2 h3 h4 h5 h6 h7 h8
   go_wp2_with(fail)
   rw [HPO.out]
   exact⟨HB9.out,rfl,_,_,HP3.out⟩
  ·have e1:((l.length:Int)==1)=false:=by simp;omega
   go_wp2_with(fail)
   rw [HPO.out]
   exact⟨HB9.out,rfl,_,_,HP3.out⟩
  ·have e1:((l.length:Int)==1)=false:=by simp;omega
   go_wp2_with(fail)
   rw [HPO.out]
   exact⟨HB9.out,rfl,_,_,HP3.out⟩
  ·have e1:((l.length:Int)==1)=false:=by simp;omega
   go_wp2_with(fail)
   rw [HPO.out]
   exact⟨HB9.out,rfl,_,_,HP3.out⟩
  ·have e1:((l.length:Int)==1)=false:=by simp;omega
   go_wp2_with(fail)
   rw [HPO.out]
   exact⟨HB9.out,rfl,_,_,HP3.out⟩
  ·have e1:((l.length:Int)==2)=false:=by simp;omega
   go_wp2_with(fail)
   rw [HPO.out]
   exact⟨HB9.out,rfl,_,_,HP3.out⟩
  ·have e1:((l.length:Int)==3)=false:=by simp;omega
   go_wp2_with(fail)
   rw [HPO.out]
   exact⟨HB9.out,rfl,_,_,HP3.out⟩
theorem Ab4 {B:Nat} (g:Nat) (p:Plr) (vM vC:Value) (s:List UInt8) (ws:List (List UInt8)) (l:List Int) (w:World) (V:F5 B w) (hB:B≤g) (hp:Em p) (hP:Ej 59 w g p vM vC) (hl:s.length≤2000000) (hws:Au 32 s=Iu::ws) (hn:Db ws=some l) :
  Calls Tryz.prog 16 #[.pointer (some ⟨g,0,none⟩),sV s] w (B8 59 w g (if 4096<p.mem.length+4*l.length then (p,I3) else ({ p with mem:=p.mem++l.flatMap Cq },D9 okB [((p.mem++l.flatMap Cq).length:Nat)]))):=by
 obtain⟨R,hR⟩:∃ R,R=(if 4096<p.mem.length+4*l.length then (p,I3) else ({ p with mem:=p.mem++l.flatMap Cq },D9 okB [((p.mem++l.flatMap Cq).length:Nat)])):=⟨_,rfl⟩
 rw [←hR]
 have HR:=Lib.hid hR
 clear hR
 obtain⟨k0,hk0⟩:∃ k0,k0=Iu:=⟨_,rfl⟩
 rw [←hk0] at hws
 have HK0:=Lib.hid hk0
 clear hk0
 obtain⟨Post,hPost⟩:∃ P,P=B8 59 w g R:=⟨_,rfl⟩
 rw [←hPost]
 have HPO:=Lib.hid hPost
 have zg:=hP.box.lt
 have CS:=Ex 32 s w V (by omega)
 have hlw:=Dn 32 s
 rw [hws] at CS hlw
 have hs:∀ x∈ws,x.length≤4294967296:=fun x hx=>by have:=B0 32 s x (by rw [hws];exact List.mem_cons_of_mem _ hx);omega
 simp only [List.length_cons] at hlw
 have hnl:=Dg hn
 have hnw:=D7 hn
 have hll:l.length≤2000001:=by omega
 have CN:=Lib.hid (fun A n cap hA hAA=>Fe (k0:=k0) (ws:=ws) (t:=9) V (by omega) (by omega) hs (fun A cap hst=>I2 A ws cap l _ (V.ext ((Below.refl B w).alloc (by omega) _)) (by simp;omega) (by omega) hs hst hn) A n cap hA hAA)
 have CSH:=Lib.hid CS
 have HPP:=Lib.hid hP
 have HNW:=Lib.hid hnw
 have hb1:Below w.heap.size w (w.alloc (.cells ((k0::ws).map sV).toArray 9)):=(Below.refl _ _).alloc (Nat.le_refl _) _
 have hbk:=Blk.new w 9 ((k0::ws).map sV).toArray
 have HB1:=Lib.hid (And.intro hb1 hbk)
 clear CS hPost hP hs hn hws hb1 hbk hnl hlw hnw
 go_enter Tryz.func16,Tryz.ntmps16
 rcases ws with _ | ⟨y,ws⟩
 all_goals
  go_upto_region 6 with(first
   |(go_at_call 15;(with_reducible refine CSH.out.mono ?_);rintro e w2 ⟨rfl,rfl⟩)
   |(go_at_call 27;(refine(CN.out _ _ _ rfl (by first | exact Or.inl rfl | exact Or.inr rfl | exact Or.inr trivial)).mono ?_);rintro e w3 ⟨A',cap',rfl,hown,hb3⟩))
  try go_simp
  have hb9:=HB1.out.1.trans (hb3.mono HB1.out.1.size)
  have c0:w3.cell? ⟨w.heap.size,0,none⟩=some (sV k0):=(HB1.out.2.ext hb3).cell 0
  have HROW:=Lib.hid (G0 hown (base':=g+1) (by simp;omega))
  have HP3:=Lib.hid (HPP.out.ext hb9)
  have HB9:=Lib.hid (hb9.mono (Nat.le_of_lt zg))
  have z9:=hb9.size
  clear hown hb3 hb9 CN CSH HPP HB1
 all_goals
  have hk0:=HK0.out
  subst hk0
  have CW:Hid (∀ (v:Value) (_:w3.ownsRow (g+1) 27 1 v l.length (l.map (.int .u32))),Calls Tryz.prog 28 #[.pointer (some ⟨g,0,none⟩),v] w3 (B8 59 w3 g R)):=Lib.hid (fun v ho=>(Af4 g p vM vC v l w3 (V.ext (HB9.out.mono hB)) hB hp HP3.out (by omega) HNW.out ho).mono (by
   rintro e w4 ⟨hb4,⟨q1,rfl,q3⟩ | ⟨q1,rfl,v9,q3⟩⟩
   ·rw [HR.out,if_pos q1];exact⟨hb4,rfl,_,_,q3⟩
   ·rw [HR.out,if_neg q1];exact⟨hb4,rfl,_,_,q3⟩))
  unfold B8 at CW
  go_wp2_with(go_at_call 28;(refine(CW.out _ HROW.out).mono ?_);rintro e w4 ⟨hb4,rfl,q3⟩)
  rw [HPO.out]
  exact⟨HB9.out.trans hb4,rfl,q3⟩
theorem Zq {B:Nat} (g:Nat) (p:Plr) (vM vC:Value) (s:List UInt8) (ws:List (List UInt8)) (l:List Int) (w:World) (V:F5 B w) (hB:B≤g) (hp:Em p) (hP:Ej 59 w g p vM vC) (hl:s.length≤2000000) (hws:Au 32 s=Gg::ws) (hn:Db ws=some l) :
  Calls Tryz.prog 16 #[.pointer (some ⟨g,0,none⟩),sV s] w (B8 59 w g ({ p with choices:=l },D9 okB [(l.length:Nat)])):=by
 obtain⟨k0,hk0⟩:∃ k0,k0=Gg:=⟨_,rfl⟩
 rw [←hk0] at hws
 have HK0:=Lib.hid hk0
 clear hk0
 obtain⟨R,hR⟩:∃ R,R=({ p with choices:=l },D9 okB [(l.length:Nat)]):=⟨_,rfl⟩
 rw [←hR]
 have HR:=Lib.hid hR
 clear hR
 obtain⟨Post,hPost⟩:∃ P,P=B8 59 w g R:=⟨_,rfl⟩
 rw [←hPost]
 have HPO:=Lib.hid hPost
 have zg:=hP.box.lt
 have CS:=Ex 32 s w V (by omega)
 have hlw:=Dn 32 s
 rw [hws] at CS hlw
 have hs:∀ x∈ws,x.length≤4294967296:=fun x hx=>by have:=B0 32 s x (by rw [hws];exact List.mem_cons_of_mem _ hx);omega
 simp only [List.length_cons] at hlw
 have hnl:=Dg hn
 have hnw:=D7 hn
 have hll:l.length≤2000001:=by omega
 have CN:=Lib.hid (fun A n cap hA hAA=>Fe (k0:=k0) (ws:=ws) (t:=9) V (by omega) (by omega) hs (fun A cap hst=>I2 A ws cap l _ (V.ext ((Below.refl B w).alloc (by omega) _)) (by simp;omega) (by omega) hs hst hn) A n cap hA hAA)
 have CSH:=Lib.hid CS
 have HPP:=Lib.hid hP
 have HNW:=Lib.hid hnw
 have hb1:Below w.heap.size w (w.alloc (.cells ((k0::ws).map sV).toArray 9)):=(Below.refl _ _).alloc (Nat.le_refl _) _
 have hbk:=Blk.new w 9 ((k0::ws).map sV).toArray
 have HB1:=Lib.hid (And.intro hb1 hbk)
 clear CS hPost hP hs hn hws hb1 hbk hnl hlw hnw
 go_enter Tryz.func16,Tryz.ntmps16
 rcases ws with _ | ⟨y,ws⟩
 all_goals
  go_upto_region 6 with(first
   |(go_at_call 15;(with_reducible refine CSH.out.mono ?_);rintro e w2 ⟨rfl,rfl⟩)
   |(go_at_call 27;(refine(CN.out _ _ _ rfl (by first | exact Or.inl rfl | exact Or.inr rfl | exact Or.inr trivial)).mono ?_);rintro e w3 ⟨A',cap',rfl,hown,hb3⟩))
  try go_simp
  have hb9:=HB1.out.1.trans (hb3.mono HB1.out.1.size)
  have c0:w3.cell? ⟨w.heap.size,0,none⟩=some (sV k0):=(HB1.out.2.ext hb3).cell 0
  have HROW:=Lib.hid (G0 hown (base':=g+1) (by simp;omega))
  have HP3:=Lib.hid (HPP.out.ext hb9)
  have HB9:=Lib.hid (hb9.mono (Nat.le_of_lt zg))
  have z9:=hb9.size
  clear hown hb3 hb9 CN CSH HPP HB1
 all_goals
  have hk0:=HK0.out
  subst hk0
  have CW:=Lib.hid (fun(v:Value) (ho:w3.ownsRow (g+1) 27 1 v l.length (l.map (.int .u32)))=>Abc g p vM vC v l w3 (V.ext (HB9.out.mono hB)) hB hp HP3.out (by omega) HNW.out ho)
  go_wp2_with(go_at_call 30;(refine(CW.out _ HROW.out).mono ?_);rintro e w4 ⟨hb4,rfl,v9,q3⟩)
  rw [HPO.out,HR.out]
  exact⟨HB9.out.trans hb4,rfl,_,_,q3⟩
theorem Afc {B:Nat} (g:Nat) (p:Plr) (vM vC:Value) (s:List UInt8) (ws:List (List UInt8)) (a b c:Int) (w:World) (V:F5 B w) (hB:B≤g) (hp:Em p) (hP:Ej 59 w g p vM vC) (hl:s.length≤2000000) (hws:Au 32 s=Jv::ws) (hn:Db ws=some [a,b,c]) :
  Calls Tryz.prog 16 #[.pointer (some ⟨g,0,none⟩),sV s] w (B8 59 w g (if Hy a b c=true then ({ p with window:=a,phys:=b,wide:=c },okB) else (p,I3))):=by
 obtain⟨k0,hk0⟩:∃ k0,k0=Jv:=⟨_,rfl⟩
 rw [←hk0] at hws
 have HK0:=Lib.hid hk0
 clear hk0
 obtain⟨R,hR⟩:∃ R,R=(if Hy a b c=true then ({ p with window:=a,phys:=b,wide:=c },okB) else (p,I3)):=⟨_,rfl⟩
 rw [←hR]
 have HR:=Lib.hid hR
 clear hR
 obtain⟨l,hl9⟩:∃ l,l=[a,b,c]:=⟨_,rfl⟩
 rw [←hl9] at hn
 have HL9:=Lib.hid hl9
 clear hl9
 obtain⟨Post,hPost⟩:∃ P,P=B8 59 w g R:=⟨_,rfl⟩
 rw [←hPost]
 have HPO:=Lib.hid hPost
 have zg:=hP.box.lt
 have CS:=Ex 32 s w V (by omega)
 have hlw:=Dn 32 s
 rw [hws] at CS hlw
 have hs:∀ x∈ws,x.length≤4294967296:=fun x hx=>by have:=B0 32 s x (by rw [hws];exact List.mem_cons_of_mem _ hx);omega
 simp only [List.length_cons] at hlw
 have hnl:=Dg hn
 have hnw:=D7 hn
 have hll:l.length≤2000001:=by omega
 have CN:=Lib.hid (fun A n cap hA hAA=>Fe (k0:=k0) (ws:=ws) (t:=9) V (by omega) (by omega) hs (fun A cap hst=>I2 A ws cap l _ (V.ext ((Below.refl B w).alloc (by omega) _)) (by simp;omega) (by omega) hs hst hn) A n cap hA hAA)
 have CSH:=Lib.hid CS
 have HPP:=Lib.hid hP
 have HNW:=Lib.hid hnw
 have hb1:Below w.heap.size w (w.alloc (.cells ((k0::ws).map sV).toArray 9)):=(Below.refl _ _).alloc (Nat.le_refl _) _
 have hbk:=Blk.new w 9 ((k0::ws).map sV).toArray
 have HB1:=Lib.hid (And.intro hb1 hbk)
 clear CS hPost hP hs hn hws hb1 hbk hnl hlw hnw
 go_enter Tryz.func16,Tryz.ntmps16
 rcases ws with _ | ⟨y,ws⟩
 all_goals
  go_upto_region 6 with(first
   |(go_at_call 15;(with_reducible refine CSH.out.mono ?_);rintro e w2 ⟨rfl,rfl⟩)
   |(go_at_call 27;(refine(CN.out _ _ _ rfl (by first | exact Or.inl rfl | exact Or.inr rfl | exact Or.inr trivial)).mono ?_);rintro e w3 ⟨A',cap',rfl,hown,hb3⟩))
  try go_simp
  have hb9:=HB1.out.1.trans (hb3.mono HB1.out.1.size)
  have c0:w3.cell? ⟨w.heap.size,0,none⟩=some (sV k0):=(HB1.out.2.ext hb3).cell 0
  have HROW:=Lib.hid (G0 hown (base':=g+1) (by simp;omega))
  have HP3:=Lib.hid (HPP.out.ext hb9)
  have HB9:=Lib.hid (hb9.mono (Nat.le_of_lt zg))
  have z9:=hb9.size
  clear hown hb3 hb9 CN CSH HPP HB1
 all_goals
  have hk0:=HK0.out
  have hl9:=HL9.out
  subst hk0 hl9
  have CW:Hid (∀ (v:Value) (_:w3.ownsRow (g+1) 27 1 v 3 ([a,b,c].map (.int .u32))),Calls Tryz.prog 29 #[.pointer (some ⟨g,0,none⟩),v] w3 (B8 59 w3 g R)):=Lib.hid (fun v ho=>(Afq g p vM vC v a b c w3 hp HP3.out (HNW.out a (by simp)) (HNW.out b (by simp)) (HNW.out c (by simp)) ho).mono (by
   rintro e w4 ⟨hb4,⟨q1,rfl,q3⟩ | ⟨q1,rfl,q3⟩⟩
   ·rw [HR.out,q1];exact⟨hb4,rfl,_,_,q3⟩
   ·rw [HR.out,q1];exact⟨hb4,rfl,_,_,q3⟩))
  unfold B8 at CW
  go_wp2_with(go_at_call 29;(refine(CW.out _ HROW.out).mono ?_);rintro e w4 ⟨hb4,rfl,q3⟩)
  rw [HPO.out]
  exact⟨HB9.out.trans hb4,rfl,q3⟩
theorem Afd {B:Nat} (g:Nat) (p:Plr) (vM vC:Value) (s:List UInt8) (ws:List (List UInt8)) (x:Int) (w:World) (V:F5 B w) (hB:B≤g) (hp:Em p) (hP:Ej 59 w g p vM vC) (hl:s.length≤2000000) (hws:Au 32 s=J8::ws) (hn:Db ws=some [x]) :
  Calls Tryz.prog 16 #[.pointer (some ⟨g,0,none⟩),sV s] w (B8 59 w g (p,Mt Gt x)):=by
 obtain⟨k0,hk0⟩:∃ k0,k0=J8:=⟨_,rfl⟩
 rw [←hk0] at hws
 have HK0:=Lib.hid hk0
 clear hk0
 obtain⟨l,hl9⟩:∃ l,l=[x]:=⟨_,rfl⟩
 rw [←hl9] at hn
 have HL9:=Lib.hid hl9
 clear hl9
 obtain⟨Post,hPost⟩:∃ P,P=B8 59 w g (p,Mt Gt x):=⟨_,rfl⟩
 rw [←hPost]
 have HPO:=Lib.hid hPost
 have zg:=hP.box.lt
 have CS:=Ex 32 s w V (by omega)
 have hlw:=Dn 32 s
 rw [hws] at CS hlw
 have hs:∀ x∈ws,x.length≤4294967296:=fun x hx=>by have:=B0 32 s x (by rw [hws];exact List.mem_cons_of_mem _ hx);omega
 simp only [List.length_cons] at hlw
 have hnl:=Dg hn
 have hnw:=D7 hn
 have hll:l.length≤2000001:=by omega
 have CN:=Lib.hid (fun A n cap hA hAA=>Fe (k0:=k0) (ws:=ws) (t:=9) V (by omega) (by omega) hs (fun A cap hst=>I2 A ws cap l _ (V.ext ((Below.refl B w).alloc (by omega) _)) (by simp;omega) (by omega) hs hst hn) A n cap hA hAA)
 have CSH:=Lib.hid CS
 have HPP:=Lib.hid hP
 have HNW:=Lib.hid hnw
 have hb1:Below w.heap.size w (w.alloc (.cells ((k0::ws).map sV).toArray 9)):=(Below.refl _ _).alloc (Nat.le_refl _) _
 have hbk:=Blk.new w 9 ((k0::ws).map sV).toArray
 have HB1:=Lib.hid (And.intro hb1 hbk)
 clear CS hPost hP hs hn hws hb1 hbk hnl hlw hnw
 go_enter Tryz.func16,Tryz.ntmps16
 rcases ws with _ | ⟨y,ws⟩
 all_goals
  go_upto_region 6 with(first
   |(go_at_call 15;(with_reducible refine CSH.out.mono ?_);rintro e w2 ⟨rfl,rfl⟩)
   |(go_at_call 27;(refine(CN.out _ _ _ rfl (by first | exact Or.inl rfl | exact Or.inr rfl | exact Or.inr trivial)).mono ?_);rintro e w3 ⟨A',cap',rfl,hown,hb3⟩))
  try go_simp
  have hb9:=HB1.out.1.trans (hb3.mono HB1.out.1.size)
  have c0:w3.cell? ⟨w.heap.size,0,none⟩=some (sV k0):=(HB1.out.2.ext hb3).cell 0
  have HROW:=Lib.hid (G0 hown (base':=g+1) (by simp;omega))
  have HP3:=Lib.hid (HPP.out.ext hb9)
  have HB9:=Lib.hid (hb9.mono (Nat.le_of_lt zg))
  have z9:=hb9.size
  clear hown hb3 hb9 CN CSH HPP HB1
 all_goals
  have hk0:=HK0.out
  have hl9:=HL9.out
  subst hk0 hl9
  obtain⟨kb,o,rfl,hkB,hcell⟩:=(As.own HROW.out) (by simp)
  have cx:w3.cell? ⟨kb,o,none⟩=some (.int .u32 x):=hcell 0 x rfl
  have hx:=HNW.out x (by simp)
  have CW:=Lib.hid (Ah3 x w3 (V.ext (HB9.out.mono hB)) (by omega) hx.1 hx.2)
  clear hcell
  go_wp2_with(go_at_call 32;(with_reducible refine CW.out.mono ?_);rintro e w4 ⟨rfl,hb4⟩)
  rw [HPO.out]
  exact⟨HB9.out.trans (hb4.mono (by omega)),rfl,_,_,HP3.out.ext hb4⟩
theorem Aip {B:Nat} (g:Nat) (p:Plr) (vM vC:Value) (s:List UInt8) (ws:List (List UInt8)) (x:Int) (w:World) (V:F5 B w) (hB:B≤g) (hp:Em p) (hP:Ej 59 w g p vM vC) (hl:s.length≤2000000) (hws:Au 32 s=pcB::ws) (hn:Db ws=some [x]) :
  Calls Tryz.prog 16 #[.pointer (some ⟨g,0,none⟩),sV s] w (B8 59 w g ({ p with hart:={ p.hart with pc:=x } },okB)):=by
 obtain⟨k0,hk0⟩:∃ k0,k0=pcB:=⟨_,rfl⟩
 rw [←hk0] at hws
 have HK0:=Lib.hid hk0
 clear hk0
 obtain⟨R,hR⟩:∃ R,R=({ p with hart:={ p.hart with pc:=x } },okB):=⟨_,rfl⟩
 rw [←hR]
 have HR:=Lib.hid hR
 clear hR
 obtain⟨l,hl9⟩:∃ l,l=[x]:=⟨_,rfl⟩
 rw [←hl9] at hn
 have HL9:=Lib.hid hl9
 clear hl9
 have hh:=hp.hart.len
 obtain⟨Post,hPost⟩:∃ P,P=B8 59 w g R:=⟨_,rfl⟩
 rw [←hPost]
 have HPO:=Lib.hid hPost
 have zg:=hP.box.lt
 have CS:=Ex 32 s w V (by omega)
 have hlw:=Dn 32 s
 rw [hws] at CS hlw
 have hs:∀ x∈ws,x.length≤4294967296:=fun x hx=>by have:=B0 32 s x (by rw [hws];exact List.mem_cons_of_mem _ hx);omega
 simp only [List.length_cons] at hlw
 have hnl:=Dg hn
 have hnw:=D7 hn
 have hll:l.length≤2000001:=by omega
 have CN:=Lib.hid (fun A n cap hA hAA=>Fe (k0:=k0) (ws:=ws) (t:=9) V (by omega) (by omega) hs (fun A cap hst=>I2 A ws cap l _ (V.ext ((Below.refl B w).alloc (by omega) _)) (by simp;omega) (by omega) hs hst hn) A n cap hA hAA)
 have CSH:=Lib.hid CS
 have HPP:=Lib.hid hP
 have HNW:=Lib.hid hnw
 have hb1:Below w.heap.size w (w.alloc (.cells ((k0::ws).map sV).toArray 9)):=(Below.refl _ _).alloc (Nat.le_refl _) _
 have hbk:=Blk.new w 9 ((k0::ws).map sV).toArray
 have HB1:=Lib.hid (And.intro hb1 hbk)
 clear CS hPost hP hs hn hws hb1 hbk hnl hlw hnw
 go_enter Tryz.func16,Tryz.ntmps16
 rcases ws with _ | ⟨y,ws⟩
 all_goals
  go_upto_region 6 with(first
   |(go_at_call 15;(with_reducible refine CSH.out.mono ?_);rintro e w2 ⟨rfl,rfl⟩)
   |(go_at_call 27;(refine(CN.out _ _ _ rfl (by first | exact Or.inl rfl | exact Or.inr rfl | exact Or.inr trivial)).mono ?_);rintro e w3 ⟨A',cap',rfl,hown,hb3⟩))
  try go_simp
  have hb9:=HB1.out.1.trans (hb3.mono HB1.out.1.size)
  have c0:w3.cell? ⟨w.heap.size,0,none⟩=some (sV k0):=(HB1.out.2.ext hb3).cell 0
  have HROW:=Lib.hid (G0 hown (base':=g+1) (by simp;omega))
  have HP3:=Lib.hid (HPP.out.ext hb9)
  have HB9:=Lib.hid (hb9.mono (Nat.le_of_lt zg))
  have z9:=hb9.size
  clear hown hb3 hb9 CN CSH HPP HB1
 all_goals
  have hk0:=HK0.out
  have hl9:=HL9.out
  subst hk0 hl9
  obtain⟨kb,o,rfl,hkB,hcell⟩:=(As.own HROW.out) (by simp)
  have cx:w3.cell? ⟨kb,o,none⟩=some (.int .u32 x):=hcell 0 x rfl
  have c32:w3.cell? ⟨g,32,none⟩=some (.int .u32 p.hart.pc):=((HP3.out.box.cell 32).trans (Z2 hh _ _ (by omega))).trans (Ap.cells_pc hh).1
  have f32:=HP3.out.box.frozen 32
  clear hcell
  go_wp2_with(fail)
  rw [HPO.out,HR.out]
  have hx8:=HP3.out.box.set 32 (.int .u32 x)
  rw [Z4 hh _ _ (by omega) _ (Aj8 hh x)] at hx8
  exact⟨HB9.out.setCell (p:=⟨g,32,none⟩) (Nat.le_refl g) _,rfl,_,_,hx8,ownsRow_setCell_below HP3.out.mem (a:=⟨g,32,none⟩) (Nat.lt_succ_self g) _,ownsRow_setCell_below HP3.out.cho (a:=⟨g,32,none⟩) (Nat.lt_succ_self g) _⟩
theorem Ab3 {B:Nat} (g:Nat) (p:Plr) (vM vC:Value) (s:List UInt8) (ws:List (List UInt8)) (a b:Int) (w:World) (V:F5 B w) (hB:B≤g) (hP:Ej 59 w g p vM vC) (hl:s.length≤2000000) (hws:Au 32 s=Mz::ws) (hn:Db ws=some [a,b]) (hab:¬ (1≤a∧a≤31)) :
  Calls Tryz.prog 16 #[.pointer (some ⟨g,0,none⟩),sV s] w (B8 59 w g (p,I3)):=by
 obtain⟨k0,hk0⟩:∃ k0,k0=Mz:=⟨_,rfl⟩
 rw [←hk0] at hws
 have HK0:=Lib.hid hk0
 have HAB:=Lib.hid hab
 clear hk0 hab
 obtain⟨l,hl9⟩:∃ l,l=[a,b]:=⟨_,rfl⟩
 rw [←hl9] at hn
 have HL9:=Lib.hid hl9
 clear hl9
 obtain⟨Post,hPost⟩:∃ P,P=B8 59 w g (p,I3):=⟨_,rfl⟩
 rw [←hPost]
 have HPO:=Lib.hid hPost
 have zg:=hP.box.lt
 have CS:=Ex 32 s w V (by omega)
 have hlw:=Dn 32 s
 rw [hws] at CS hlw
 have hs:∀ x∈ws,x.length≤4294967296:=fun x hx=>by have:=B0 32 s x (by rw [hws];exact List.mem_cons_of_mem _ hx);omega
 simp only [List.length_cons] at hlw
 have hnl:=Dg hn
 have hnw:=D7 hn
 have hll:l.length≤2000001:=by omega
 have CN:=Lib.hid (fun A n cap hA hAA=>Fe (k0:=k0) (ws:=ws) (t:=9) V (by omega) (by omega) hs (fun A cap hst=>I2 A ws cap l _ (V.ext ((Below.refl B w).alloc (by omega) _)) (by simp;omega) (by omega) hs hst hn) A n cap hA hAA)
 have CSH:=Lib.hid CS
 have HPP:=Lib.hid hP
 have HNW:=Lib.hid hnw
 have hb1:Below w.heap.size w (w.alloc (.cells ((k0::ws).map sV).toArray 9)):=(Below.refl _ _).alloc (Nat.le_refl _) _
 have hbk:=Blk.new w 9 ((k0::ws).map sV).toArray
 have HB1:=Lib.hid (And.intro hb1 hbk)
 clear CS hPost hP hs hn hws hb1 hbk hnl hlw hnw
 go_enter Tryz.func16,Tryz.ntmps16
 rcases ws with _ | ⟨y,ws⟩
 all_goals
  go_upto_region 6 with(first
   |(go_at_call 15;(with_reducible refine CSH.out.mono ?_);rintro e w2 ⟨rfl,rfl⟩)
   |(go_at_call 27;(refine(CN.out _ _ _ rfl (by first | exact Or.inl rfl | exact Or.inr rfl | exact Or.inr trivial)).mono ?_);rintro e w3 ⟨A',cap',rfl,hown,hb3⟩))
  try go_simp
  have hb9:=HB1.out.1.trans (hb3.mono HB1.out.1.size)
  have c0:w3.cell? ⟨w.heap.size,0,none⟩=some (sV k0):=(HB1.out.2.ext hb3).cell 0
  have HROW:=Lib.hid (G0 hown (base':=g+1) (by simp;omega))
  have HP3:=Lib.hid (HPP.out.ext hb9)
  have HB9:=Lib.hid (hb9.mono (Nat.le_of_lt zg))
  have z9:=hb9.size
  clear hown hb3 hb9 CN CSH HPP HB1
 all_goals
  have hk0:=HK0.out
  have hl9:=HL9.out
  subst hk0 hl9
  obtain⟨kb,o,rfl,hkB,hcell⟩:=(As.own HROW.out) (by simp)
  have cx:w3.cell? ⟨kb,o,none⟩=some (.int .u32 a):=hcell 0 a rfl
  clear hcell zg z9
  by_cases h1:1≤a
  ·have t1:decide (1≤a)=true:=decide_eq_true h1
   have t2:decide (a≤31)=false:=decide_eq_false (fun h=>HAB.out ⟨h1,h⟩)
   clear h1
   go_wp2_with(fail)
   rw [HPO.out]
   exact⟨HB9.out,rfl,_,_,HP3.out⟩
  ·have t1:decide (1≤a)=false:=decide_eq_false h1
   clear h1
   go_wp2_with(fail)
   rw [HPO.out]
   exact⟨HB9.out,rfl,_,_,HP3.out⟩
theorem Ag5 {B:Nat} (g:Nat) (p:Plr) (vM vC:Value) (s:List UInt8) (ws:List (List UInt8)) (a b:Int) (w:World) (V:F5 B w) (hB:B≤g) (hp:Em p) (hP:Ej 59 w g p vM vC) (hl:s.length≤2000000) (hws:Au 32 s=Mz::ws) (hn:Db ws=some [a,b]) (ha:1≤a) (ha2:a≤31) :
  Calls Tryz.prog 16 #[.pointer (some ⟨g,0,none⟩),sV s] w (B8 59 w g ({ p with hart:={ p.hart with regs:=p.hart.regs.set a.toNat b } },okB)):=by
 obtain⟨R,hR⟩:∃ R,R=(({ p with hart:={ p.hart with regs:=p.hart.regs.set a.toNat b } }:Plr),okB):=⟨_,rfl⟩
 rw [←hR]
 have HR:=Lib.hid hR
 clear hR
 obtain⟨r,rfl⟩:=Int.eq_ofNat_of_zero_le (show 0≤a by omega)
 obtain⟨k0,hk0⟩:∃ k0,k0=Mz:=⟨_,rfl⟩
 rw [←hk0] at hws
 have HK0:=Lib.hid hk0
 clear hk0
 obtain⟨l,hl9⟩:∃ l,l=[(r:Int),b]:=⟨_,rfl⟩
 rw [←hl9] at hn
 have HL9:=Lib.hid hl9
 clear hl9
 have hh:=hp.hart.len
 obtain⟨Post,hPost⟩:∃ P,P=B8 59 w g R:=⟨_,rfl⟩
 rw [←hPost]
 have HPO:=Lib.hid hPost
 have zg:=hP.box.lt
 have CS:=Ex 32 s w V (by omega)
 have hlw:=Dn 32 s
 rw [hws] at CS hlw
 have hs:∀ x∈ws,x.length≤4294967296:=fun x hx=>by have:=B0 32 s x (by rw [hws];exact List.mem_cons_of_mem _ hx);omega
 simp only [List.length_cons] at hlw
 have hnl:=Dg hn
 have hnw:=D7 hn
 have hll:l.length≤2000001:=by omega
 have CN:=Lib.hid (fun A n cap hA hAA=>Fe (k0:=k0) (ws:=ws) (t:=9) V (by omega) (by omega) hs (fun A cap hst=>I2 A ws cap l _ (V.ext ((Below.refl B w).alloc (by omega) _)) (by simp;omega) (by omega) hs hst hn) A n cap hA hAA)
 have CSH:=Lib.hid CS
 have HPP:=Lib.hid hP
 have HNW:=Lib.hid hnw
 have hb1:Below w.heap.size w (w.alloc (.cells ((k0::ws).map sV).toArray 9)):=(Below.refl _ _).alloc (Nat.le_refl _) _
 have hbk:=Blk.new w 9 ((k0::ws).map sV).toArray
 have HB1:=Lib.hid (And.intro hb1 hbk)
 clear CS hPost hP hs hn hws hb1 hbk hnl hlw hnw
 go_enter Tryz.func16,Tryz.ntmps16
 rcases ws with _ | ⟨y,ws⟩
 all_goals
  go_upto_region 6 with(first
   |(go_at_call 15;(with_reducible refine CSH.out.mono ?_);rintro e w2 ⟨rfl,rfl⟩)
   |(go_at_call 27;(refine(CN.out _ _ _ rfl (by first | exact Or.inl rfl | exact Or.inr rfl | exact Or.inr trivial)).mono ?_);rintro e w3 ⟨A',cap',rfl,hown,hb3⟩))
  try go_simp
  have hb9:=HB1.out.1.trans (hb3.mono HB1.out.1.size)
  have c0:w3.cell? ⟨w.heap.size,0,none⟩=some (sV k0):=(HB1.out.2.ext hb3).cell 0
  have HROW:=Lib.hid (G0 hown (base':=g+1) (by simp;omega))
  have HP3:=Lib.hid (HPP.out.ext hb9)
  have HB9:=Lib.hid (hb9.mono (Nat.le_of_lt zg))
  have z9:=hb9.size
  clear hown hb3 hb9 CN CSH HPP HB1
 all_goals
  have hk0:=HK0.out
  have hl9:=HL9.out
  subst hk0 hl9
  have HNE:=Lib.hid (fun kb (h:g<kb) o=>(by intro e;injection e with e;omega:(⟨g,r,none⟩:Addr)≠⟨kb,o,none⟩))
  have hrow:=HROW.out
  obtain⟨kb,o,rfl,hkB,hcell⟩:=(As.own hrow) (by simp)
  have hgk:g<kb:=by
   rcases hrow.2 with⟨h,_⟩ | ⟨g2,c2,cur2,h,h3,_⟩
   ·cases h
   ·injection h with h;injection h with h;injection h with h;omega
  have cx:w3.cell? ⟨kb,o,none⟩=some (.int .u32 r):=hcell 0 r rfl
  have cy:w3.cell? ⟨kb,o+1,none⟩=some (.int .u32 b):=hcell 1 b rfl
  have cr:w3.cell? ⟨g,r,none⟩=some (.int .u32 (p.hart.regs.getD r 0)):=((HP3.out.box.cell r).trans (Z2 hh _ _ (by omega))).trans (Ap.cells_reg (by omega))
  have fr:=HP3.out.box.frozen r
  have t1:decide (1≤(r:Int))=true:=decide_eq_true ha
  have t2:decide ((r:Int)≤31)=true:=decide_eq_true ha2
  have hr32:(r:Int)<32:=by omega
  have hrn:((r:Int)).toNat=r:=by simp
  have HE:=Lib.hid (HNE.out kb hgk)
  clear hcell hrow z9
  go_upto_region 12 with(fail)
  try go_simp
  go_region_held3 (fun w'=>w'.cell? ⟨kb,o,none⟩=some (.int .u32 r)∧w'.cell? ⟨kb,o+1,none⟩=some (.int .u32 b))
   (first
    |exact⟨cx,cy⟩
    |exact⟨(World.cell?_setCell_other _ _ _ _ (HE.out o)).trans cx,(World.cell?_setCell_other _ _ _ _ (HE.out (o+1))).trans cy⟩)
   ((first | fail))
  clear cx cy cr fr
  go_wp2_with(fail)
  rw [HPO.out,HR.out]
  have hx8:=HP3.out.box.set r (.int .u32 b)
  rw [Z4 hh _ _ (by omega) _ (Alo (by omega) b)] at hx8
  have hfin:Ej 59 (w3.setCell ⟨g,r,none⟩ (.int .u32 b)).drew g { p with hart:={ p.hart with regs:=p.hart.regs.set ((r:Int)).toNat b } } vM vC:=by
   rw [hrn]
   exact⟨hx8,ownsRow_setCell_below HP3.out.mem (a:=⟨g,r,none⟩) (Nat.lt_succ_self g) _,ownsRow_setCell_below HP3.out.cho (a:=⟨g,r,none⟩) (Nat.lt_succ_self g) _⟩
  exact⟨(HB9.out.setCell (p:=⟨g,r,none⟩) (Nat.le_refl g) _).drew,rfl,_,_,hfin⟩
end Go.Proofs.YtapgojgcmlnbgaaGreatDoor
namespace Go.Proofs.YtapgojgcmlnbgaaGreatDoor
open Go
def Ha (seq p:Int) (a:Acc):Bool:=a.store&&a.known&&decide (a.seq<seq)&&hasB a p
theorem Kf (seq p:Int):∀ (l:List Acc) (b:Option Acc),l.foldl (Cs seq p) b=(l.filter (Ha seq p)).foldl (Cs seq p) b
 |[],_=>rfl
 |a::l,b=>by
  rw [List.foldl_cons,Kf seq p l]
  rcases hr:Ha seq p a with _ | _
  ·rw [List.filter_cons_of_neg (by simp [hr])]
   have:Cs seq p b a=b:=by
    unfold Cs
    unfold Ha at hr
    rw [if_neg]
    rw [hr]
    simp
   rw [this]
  ·rw [List.filter_cons_of_pos hr]
   rfl
theorem Ro {l l':List Acc} {seq p:Int} (m:List Int) (h:l.filter (Ha seq p)=l'.filter (Ha seq p)):Dh l m seq p=Dh l' m seq p:=by
 unfold Dh
 rw [Kf seq p l,Kf seq p l',h]
theorem Vw (seq p:Int):∀ (l:List Acc) (b:Acc),(∀ a∈l,Ha seq p a=true)→(b::l).Pairwise (fun a c=>a.seq≤c.seq)→l.foldl (Cs seq p) (some b)=some ((b::l).getLast (by simp))
 |[],b,_,_=>rfl
 |a::l,b,h,hs=>by
  rw [List.foldl_cons]
  have hr:=h a (by simp)
  have hle:b.seq≤a.seq:=(List.pairwise_cons.1 hs).1 a (by simp)
  have:Cs seq p (some b) a=some a:=by
   unfold Cs
   unfold Ha at hr
   rw [if_pos]
   rw [hr]
   simp [Lf,hle]
  rw [this,Vw seq p l a (fun x hx=>h x (by simp [hx])) (List.pairwise_cons.1 hs).2]
  rfl
theorem Ad5 {l:List Acc} {seq p:Int} (hs:l.Pairwise (fun a c=>a.seq≤c.seq)):l.foldl (Cs seq p) none=(l.filter (Ha seq p)).getLast? := by
 rw [Kf]
 have hs':=hs.sublist (List.filter_sublist (p:=Ha seq p) (l:=l))
 have ha:∀ a∈l.filter (Ha seq p),Ha seq p a=true:=fun a ha=>(List.mem_filter.1 ha).2
 generalize l.filter (Ha seq p)=k at hs' ha
 cases k with
 |nil=>rfl
 |cons a k=>
  rw [List.foldl_cons]
  have hr:=ha a (by simp)
  have:Cs seq p none a=some a:=by
   unfold Cs
   unfold Ha at hr
   rw [if_pos]
   rw [hr]
   simp [Lf]
  rw [this,Vw seq p k a (fun x hx=>ha x (by simp [hx])) hs']
  rw [List.getLast?_eq_some_getLast (by simp)]
theorem S4 {l:List Acc} {seq p:Int} (m:List Int) (hs:l.Pairwise (fun a c=>a.seq≤c.seq)):Dh l m seq p=byteOf m p (l.filter (Ha seq p)).getLast? := by
 unfold Dh
 rw [Ad5 hs]
theorem Fb (m:List Int) (i j:Nat) (x:Int):(m.set i x).getD j 0=if i=j∧i<m.length then x else m.getD j 0:=by
 simp only [List.getD]
 by_cases h:i=j
 ·subst h
  by_cases h2:i<m.length
  ·rw [List.getElem?_set_self h2,if_pos ⟨rfl,h2⟩];rfl
  ·rw [if_neg (by omega),List.getElem?_eq_none (by simp;omega),List.getElem?_eq_none (by omega)]
 ·rw [List.getElem?_set_ne h,if_neg (by omega)]
theorem Afl (m:List Int) (many:Int) (n:Nat) (d:Int) (hm:many=0∨many=1∨many=2∨many=4) (hf:(n:Int)+many≤m.length) (j:Nat) :
  (Vm m many n d).getD j 0=if n≤j∧(j:Int)<n+many then d / ((2 ^ (8*(j - n)):Nat):Int)%256 else m.getD j 0:=by
 have e8:((2 ^ (8*1):Nat):Int)=256:=by decide
 have e16:((2 ^ (8*2):Nat):Int)=65536:=by decide
 have e24:((2 ^ (8*3):Nat):Int)=16777216:=by decide
 have e0:((2 ^ (8*0):Nat):Int)=1:=by decide
 rcases hm with rfl | rfl | rfl | rfl
 ·rw [if_neg (by omega)];rfl
 ·show(Xx m n d).getD j 0=_
  unfold Xx
  rw [Fb]
  by_cases h:n=j
  ·subst h
   rw [if_pos (by omega),if_pos (by omega),Nat.sub_self,e0,Int.ediv_one]
  ·rw [if_neg (by omega),if_neg (by omega)]
 ·show(Z8 m n d).getD j 0=_
  unfold Z8 Xx
  simp only [Fb,List.length_set]
  by_cases h:n=j
  ·subst h
   rw [if_neg (by omega),if_pos (by omega),if_pos (by omega),Nat.sub_self,e0,Int.ediv_one]
  ·by_cases h1:n+1=j
   ·subst h1
    rw [if_pos (by omega),if_pos (by omega),show n+1 - n=1 by omega,e8]
   ·rw [if_neg (by omega),if_neg (by omega),if_neg (by omega)]
 ·show(Acd m n d).getD j 0=_
  unfold Acd Z8 Xx
  simp only [Fb,List.length_set]
  by_cases h:n=j
  ·subst h
   rw [if_neg (by omega),if_neg (by omega),if_neg (by omega),if_pos (by omega),if_pos (by omega),Nat.sub_self,e0,Int.ediv_one]
  ·by_cases h1:n+1=j
   ·subst h1
    rw [if_neg (by omega),if_neg (by omega),if_pos (by omega),if_pos (by omega),show n+1 - n=1 by omega,e8]
   ·by_cases h2:n+2=j
    ·subst h2
     rw [if_neg (by omega),if_pos (by omega),if_pos (by omega),show n+2 - n=2 by omega,e16]
    ·by_cases h3:n+3=j
     ·subst h3
      rw [if_pos (by omega),if_pos (by omega),show n+3 - n=3 by omega,e24]
     ·rw [if_neg (by omega),if_neg (by omega),if_neg (by omega),if_neg (by omega),if_neg (by omega)]
theorem W8 {a:Acc} {r:List Acc} {m:List Int} {seq p:Int} (hs:(a::r).Pairwise (fun a c=>a.seq≤c.seq)) (ha:a.store=true) (hk:a.known=true) (hseq:a.seq<seq)
  (hm:a.many=0∨a.many=1∨a.many=2∨a.many=4) (h0:0≤a.at_) (hf:a.at_+a.many≤m.length) (hl:m.length≤4096) (hp:0≤p) :
  Dh r (Vm m a.many a.at_.toNat a.data) seq p=Dh (a::r) m seq p:=by
 rw [S4 _ hs,S4 _ (List.pairwise_cons.1 hs).2]
 have hmi:Gy a.many=a.many:=by unfold Gy;omega
 have hg:=Afl m a.many a.at_.toNat a.data hm (by omega) p.toNat
 rcases hr:Ha seq p a with _ | _
 ·rw [List.filter_cons_of_neg (by simp [hr])]
  cases hL:(r.filter (Ha seq p)).getLast? with
  |some b=>rfl
  |none=>
   show(Vm m a.many a.at_.toNat a.data).getD p.toNat 0=m.getD p.toNat 0
   rw [hg,if_neg]
   intro hin
   unfold Ha hasB at hr
   rw [ha,hk,hmi,decide_eq_true hseq,decide_eq_true (show a.at_≤p by omega),decide_eq_true (show p<a.at_+a.many by omega),decide_eq_true (show p<4294967296 by omega)] at hr
   cases hr
 ·rw [List.filter_cons_of_pos hr]
  unfold Ha hasB at hr
  rw [hmi] at hr
  simp only [Bool.and_eq_true,decide_eq_true_eq] at hr
  cases hk':r.filter (Ha seq p) with
  |nil=>
   show(Vm m a.many a.at_.toNat a.data).getD p.toNat 0=Q4 a p
   rw [hg,if_pos (by omega)]
   unfold Q4
   rw [show p.toNat - a.at_.toNat=(p - a.at_).toNat by omega]
  |cons b k=>
   rw [List.getLast?_cons_cons]
   rw [List.getLast?_eq_some_getLast (by simp)]
   rfl
theorem Pf {l l':List Acc} {m m':List Int} {seq p many:Int} (hm:m.length=m'.length) (h:∀ q,p≤q→q<p+4→(many=1→q<p+1)→(many=2→q<p+2)→Dh l m seq q=Dh l' m' seq q) :
  (Ea l m seq p many).1=(Ea l' m' seq p many).1∧(Ea l m seq p many).2.1=(Ea l' m' seq p many).2.1:=by
 have hok:Gr m p many=Gr m' p many:=by unfold Gr;rw [hm]
 unfold Ea
 rw [hok]
 split
 ·rename_i hs
  refine⟨?_,rfl⟩
  show Pg l m seq p many=Pg l' m' seq p many
  unfold Pg
  by_cases h1:many=1
  ·rw [if_pos h1,if_pos h1,h p (by omega) (by omega) (by omega) (by omega)]
  rw [if_neg h1,if_neg h1]
  by_cases h2:many=2
  ·rw [if_pos h2,if_pos h2,h p (by omega) (by omega) (by omega) (by omega),h (p+1) (by omega) (by omega) (by omega) (by omega)]
  rw [if_neg h2,if_neg h2,h p (by omega) (by omega) (by omega) (by omega),h (p+1) (by omega) (by omega) (by omega) (by omega),h (p+2) (by omega) (by omega) (by omega) (by omega),h (p+3) (by omega) (by omega) (by omega) (by omega)]
 ·exact⟨rfl,rfl⟩
def Dm (N:Ax) (u:Uop):Ax:=if 0<u.dest then ⟨N.phys,N.regs.set u.ins.rd.toNat u.dest,N.free.tail⟩ else N
structure NOk (N:Ax) (u:Uop):Prop where
 src:u.cause=0→u.a=N.regs.getD u.ins.rs1.toNat 0∧u.b=N.regs.getD u.ins.rs2.toNat 0
 dst:0<u.dest→(Bf u.ins=true∧u.cause=0)∧(1≤u.ins.rd∧u.ins.rd≤31)∧N.free=u.dest::N.free.tail∧u.old=N.regs.getD u.ins.rd.toNat 0
 nodst:u.dest≤0→u.dest=0∧¬ (Bf u.ins=true∧u.cause=0)
def Bp:Ax→List Uop→Ax→Prop
 |N,[],M=>N=M
 |N,u::us,M=>NOk N u∧Bp (Dm N u) us M
theorem Bp.append {M:Ax}:∀ {L R:List Uop} {N:Ax},Bp N (L++R) M↔∃ K,Bp N L K∧Bp K R M
 |[],R,N=>⟨fun h=>⟨N,rfl,h⟩,fun⟨K,h1,h2⟩=>by cases h1;exact h2⟩
 |u::L,R,N=>by
  show NOk N u∧Bp (Dm N u) (L++R) M↔_
  rw [Bp.append]
  constructor
  ·rintro⟨h,K,h1,h2⟩;exact⟨K,⟨h,h1⟩,h2⟩
  ·rintro⟨K,⟨h,h1⟩,h2⟩;exact⟨h,K,h1,h2⟩
structure Dq (N:Ax):Prop where
 len:N.regs.length=32
 may:N.may=true
 zero:N.regs.getD 0 0=0
theorem Dq.nodup {N:Ax} (h:Dq N):(∀ p∈N.all,0≤p∧p<N.phys)∧N.all.Nodup:=((J0 _ _).1 h.may).1
theorem Dq.phys {N:Ax} (h:Dq N):33≤N.phys∧N.phys≤96:=((J0 _ _).1 h.may).2
theorem Dq.reg_mem {N:Ax} (h:Dq N) {i:Nat} (hi:i<32):N.regs.getD i 0∈N.regs:=by
 have:i<N.regs.length:=by rw [h.len];exact hi
 simp [List.getD,List.getElem?_eq_getElem this]
theorem Dq.reg_range {N:Ax} (h:Dq N) {i:Nat} (hi:i<32):0≤N.regs.getD i 0∧N.regs.getD i 0<96:=by
 have h1:=h.nodup.1 _ (List.mem_append_left _ (h.reg_mem hi))
 have h2:=h.phys
 omega
theorem Dq.free_pos {N:Ax} (h:Dq N) {p:Int} (hp:p∈N.free):0<p∧p<96:=by
 have h1:=h.nodup.1 p (List.mem_append_right _ hp)
 have h2:=h.phys
 have h3:p≠0:=by
  intro e
  subst e
  have hz:=h.reg_mem (i:=0) (by omega)
  rw [h.zero] at hz
  have:=List.nodup_append.1 h.nodup.2
  exact this.2.2 0 hz 0 hp rfl
 omega
theorem Dq.disjoint {N:Ax} (h:Dq N) {p:Int} (hr:p∈N.regs) (hf:p∈N.free):False:=
 (List.nodup_append.1 h.nodup.2).2.2 p hr p hf rfl
theorem Dq.next {N:Ax} (h:Dq N) {u:Uop} (hu:NOk N u):Dq (Dm N u):=by
 unfold Dm
 split
 ·rename_i hd
  obtain⟨_,⟨r1,r2⟩,hf,_⟩:=hu.dst hd
  refine⟨by simp [h.len],?_,?_⟩
  ·have hm:=h.may
   unfold Ax.may Ax.all at hm ⊢
   rw [hf] at hm
   exact(T5 (by rw [h.len];omega) hm).1
  ·show(N.regs.set _ _).getD 0 0=0
   rw [Fb,if_neg (by omega)]
   exact h.zero
 ·exact h
theorem Af0 {N:Ax} (h:Dq N) {u:Uop} (hu:NOk N u) (hd:0<u.dest):Ms (Dm N u) u.ins.rd u.old=some N:=by
 obtain⟨_,⟨r1,r2⟩,hf,ho⟩:=hu.dst hd
 have hn:=h.next hu
 unfold Dm at hn ⊢
 rw [if_pos hd] at hn ⊢
 have hl:u.ins.rd.toNat<N.regs.length:=by rw [h.len];omega
 have hm:=h.may
 unfold Ax.may Ax.all at hm
 rw [hf] at hm
 obtain⟨m1,m2,m3⟩:=T5 hl hm
 have hot:Gv ⟨N.phys,N.regs.set u.ins.rd.toNat u.dest,N.free.tail⟩ u.old=true:=by
  unfold Gv
  rw [hn.may,ho]
  simp only [Ax.all,Bool.true_and,Bool.and_eq_true,decide_eq_true_eq,Bool.not_eq_true']
  exact⟨m2,decide_eq_false m3⟩
 unfold Ms
 rw [if_pos ⟨hot,r1,r2⟩]
 congr 1
 obtain⟨phys,regs,free⟩:=N
 simp only at hf ho hl ⊢
 rw [Fb,if_pos ⟨rfl,hl⟩,←hf]
 congr 1
 rw [List.set_set,ho]
 have:regs.getD u.ins.rd.toNat 0=regs[u.ins.rd.toNat]:=by simp [List.getD,List.getElem?_eq_getElem hl]
 rw [this,List.set_getElem_self]
theorem Bp.good {M:Ax}:∀ {L:List Uop} {N:Ax},Bp N L M→Dq N→Dq M
 |[],_,h,hg=>by cases h;exact hg
 |_::_,_,⟨h,h1⟩,hg=>h1.good (hg.next h)
theorem Bp.phys {M:Ax}:∀ {L:List Uop} {N:Ax},Bp N L M→M.phys=N.phys
 |[],_,h=>by cases h;rfl
 |u::L,N,⟨_,h1⟩=>by
  rw [h1.phys]
  unfold Dm
  split<;>rfl
theorem Ma {N:Ax} (u:Uop):∀ p∈(Dm N u).free,p∈N.free:=by
 unfold Dm
 split
 ·exact fun p hp=>List.mem_of_mem_tail hp
 ·exact fun p hp=>hp
theorem Bp.free_sub {M:Ax}:∀ {L:List Uop} {N:Ax},Bp N L M→∀ p∈M.free,p∈N.free
 |[],_,h=>by cases h;exact fun p hp=>hp
 |u::L,N,⟨_,h1⟩=>fun p hp=>Ma u p (h1.free_sub p hp)
theorem Bp.dest_free {M:Ax}:∀ {L:List Uop} {N:Ax},Bp N L M→∀ u∈L,0<u.dest→u.dest∈N.free
 |[],_,_,u,hu=>by cases hu
 |v::L,N,⟨h,h1⟩,u,hu=>fun hd=>by
  rcases List.mem_cons.1 hu with rfl | hu
  ·rw [(h.dst hd).2.2.1];simp
  ·exact Ma v _ (h1.dest_free u hu hd)
structure Apart (u v:Uop):Prop where
 a:0<v.dest→u.a≠v.dest
 b:0<v.dest→u.b≠v.dest
 d:0<v.dest→u.dest≠v.dest
theorem NOk.src_mem {N:Ax} (hg:Dq N) {u:Uop} (h:NOk N u) (hi:u.cause=0→(0≤u.ins.rs1∧u.ins.rs1≤31)∧0≤u.ins.rs2∧u.ins.rs2≤31) (hc:u.cause=0):u.a∈N.regs∧u.b∈N.regs:=by
 obtain⟨h1,h2⟩:=h.src hc
 obtain⟨i1,i2⟩:=hi hc
 rw [h1,h2]
 exact⟨hg.reg_mem (by omega),hg.reg_mem (by omega)⟩
theorem Bp.apart {M:Ax}:∀ {L:List Uop} {N:Ax},Bp N L M→Dq N→(∀ u∈L,u.cause=0→(0≤u.ins.rs1∧u.ins.rs1≤31)∧0≤u.ins.rs2∧u.ins.rs2≤31)→(∀ u∈L,u.cause≠0→u.a=0∧u.b=0)→L.Pairwise Apart
 |[],_,_,_,_,_=>List.Pairwise.nil
 |u::L,N,⟨h,h1⟩,hg,hi,hz=>by
  have hg1:=hg.next h
  refine List.pairwise_cons.2 ⟨fun v hv=>?_,h1.apart hg1 (fun u hu=>hi u (by simp [hu])) (fun u hu=>hz u (by simp [hu]))⟩
  have hvf:=h1.dest_free v hv
  have hr:u.a∈N.regs∧u.b∈N.regs:=by
   by_cases hc:u.cause=0
   ·exact h.src_mem hg (hi u (by simp)) hc
   ·obtain⟨e1,e2⟩:=hz u (by simp) hc
    have:=hg.reg_mem (i:=0) (by omega)
    rw [hg.zero] at this
    rw [e1,e2]
    exact⟨this,this⟩
  refine⟨fun hd e=>?_,fun hd e=>?_,fun hd e=>?_⟩
  ·exact hg.disjoint hr.1 (e▸Ma u _ (hvf hd))
  ·exact hg.disjoint hr.2 (e▸Ma u _ (hvf hd))
  ·have hud:0<u.dest:=by omega
   have hm:u.dest∈(Dm N u).regs:=by
    unfold Dm
    rw [if_pos hud]
    obtain⟨_,⟨r1,r2⟩,_⟩:=h.dst hud
    exact List.mem_set (by rw [hg.len];omega) _
   exact hg1.disjoint hm (e▸hvf hd)
theorem Bp.snoc {N M:Ax} {L:List Uop} {u:Uop} (h:Bp N L M) (hu:NOk M u):Bp N (L++[u]) (Dm M u):=
 Bp.append.2 ⟨M,h,hu,rfl⟩
def addFree (N:Ax) (p:Int):Ax:=⟨N.phys,N.regs,N.free++[p]⟩
theorem NOk.addFree {N:Ax} {u:Uop} (h:NOk N u) (p:Int):NOk (addFree N p) u:=by
 refine⟨h.src,fun hd=>?_,h.nodst⟩
 obtain⟨h1,h2,h3,h4⟩:=h.dst hd
 refine⟨h1,h2,?_,h4⟩
 show N.free++[p]=u.dest::(N.free++[p]).tail
 rw [h3]
 rfl
theorem Vj {N:Ax} {u:Uop} (h:NOk N u) (p:Int):Dm (Go.Proofs.YtapgojgcmlnbgaaGreatDoor.addFree N p) u=Go.Proofs.YtapgojgcmlnbgaaGreatDoor.addFree (Dm N u) p:=by
 unfold Dm
 split
 ·rename_i hd
  obtain⟨_,_,h3,_⟩:=h.dst hd
  unfold Go.Proofs.YtapgojgcmlnbgaaGreatDoor.addFree
  simp only
  congr 1
  rw [h3]
  rfl
 ·rfl
theorem Bp.addFree {M:Ax} (p:Int):∀ {L:List Uop} {N:Ax},Bp N L M→Bp (Go.Proofs.YtapgojgcmlnbgaaGreatDoor.addFree N p) L (Go.Proofs.YtapgojgcmlnbgaaGreatDoor.addFree M p)
 |[],_,h=>by cases h;rfl
 |u::L,N,⟨h,h1⟩=>⟨h.addFree p,by rw [Vj h];exact h1.addFree p⟩
def Bz (u:Uop):Slt:=⟨u.seq,decide (u.state=2)⟩
def Bc (u:Uop):Bool:=Bo u.ins || A0 u.ins
def A1 (u:Uop):Bool:=A0 u.ins&&decide (u.state=2)&&decide (u.commit.state=0)
def G5 (u:Uop):Acc:=⟨u.seq,true,true,u.commit.at_,u.commit.many,u.commit.data,false⟩
def known (L:List Uop):List Acc:=(L.filter A1).map G5
def Ux (words:List Int) (p:Int):Int:=words.getD p.toNat 0
def Be (words:List Int) (u:Uop):Acc:=
 if A1 u=true then G5 u
 else if Bo u.ins=true∧u.state=2∧u.commit.state=0 then ⟨u.seq,false,true,u32 (Ux words u.a+u.ins.imm),loadBytes u.ins.op,0,true⟩
 else ⟨u.seq,A0 u.ins,false,0,0,0,false⟩
def Ds (K:List Acc) (m:List Int) (seq pc:Int):Ins×Int:=
 if (Ea K m seq pc 4).2.1=true then Dp (bytesOf (Ea K m seq pc 4).1) 0 else (Fx,1)
def Kl (K:List Acc) (m:List Int) (u:Uop) (wa:Int):Com:=
 let s:=Ea K m u.seq (u32 (wa+u.ins.imm)) (loadBytes u.ins.op)
 if s.2.1=true then Ck { u.ins with imm:=0 } ⟨List.replicate 32 0,u.pc,0,0⟩ (bytesOf s.1) else Bv u.pc 3
def Ab (C:Core) (L:List Uop) (u:Uop):Com:=
 if Bo u.ins=true then Kl (known L) C.mem u (C.word u.a) else Ck u.ins (Ed C u) C.mem
def Cw (u:Uop):Bool:=decide (u.cause≠0) || (decide (u.state=2)&&decide (u.commit.state≠0))
def Eq (u:Uop):Bool:=Ba u.ins || Cw u
def Eg:Int→List Uop→Int→Prop
 |p,[],q=>p=q
 |p,u::us,q=>u.pc=p∧(if Cw u=true then us=[] else Eg u.next us q)
structure Sx (C:Core) (L:List Uop) (v:Uop) (R:List Uop):Prop where
 seq:0≤v.seq∧v.seq<C.seq
 st:v.state=0∨v.state=1∨v.state=2
 fault:v.cause≠0→v.state=2∧v.commit=Bv v.pc v.cause∧v.a=0∧v.b=0∧v.dest=0
 cause:v.cause=0∨v.cause=1∨v.cause=2
 fetch:(v.ins,v.cause)=Ds (known L) C.mem v.seq v.pc
 pc:0≤v.pc∧v.pc≤4294967295
 next:0≤v.next∧v.next≤4294967295
 nextS:v.cause=0→(A0 v.ins || Ba v.ins)=true→v.next=u32 (v.pc+4)
 src:v.cause=0→v.state≠0→C.has v.a=true∧C.has v.b=true
 gs:v.guessed=true→v.state≠0∧0<v.dest∧Bo v.ins=true
 d1:0<v.dest→v.state≠2→C.has v.dest=true→v.guessed=true
 d2:0<v.dest→v.state=2→C.has v.dest=true∧C.word v.dest=v.commit.value
 com:v.cause=0→v.state=2→v.commit=Ab C L v
 nx:v.state=2→Cw v=false→v.next=v.commit.next
 lone:Ba v.ins=true→v.state≠0→L=[]
 last:Eq v=true→R=[]∧C.still=true
structure Inv (C:Core):Prop where
 cfg:(1≤C.window∧C.window≤32)∧1≤C.wide∧C.wide≤4
 hart:C.hart.Wf
 may:Im C.hart=true
 runs:C.hart.state=0
 bytes:Bytes C.mem
 room:C.mem.length≤4096
 tab:Fa C.table
 words:C.words.length=96∧∀ x∈C.words,0≤x∧x≤4294967295
 there:C.there.length=96
 slots:C.slots=C.ops.map Bz
 seqs:C.ops.Pairwise (fun u v=>u.seq<v.seq)
 access:C.access=(C.ops.filter Bc).map (Be C.words)
 names:∃ N,Dq N∧N.all.length=N.phys.toNat∧Bp N C.ops C.names∧∀ r,r<32→C.has (N.regs.getD r 0)=true∧C.word (N.regs.getD r 0)=C.hart.regs.getD r 0
 pcs:Eg C.hart.pc C.ops C.pc
 len:C.ops.length≤C.window
 seq0:0≤C.seq
 pc:0≤C.pc∧C.pc≤4294967295
 ops:∀ L v R,C.ops=L++v::R→Sx C L v R
theorem Inv.insOk {C:Core} {L R:List Uop} {v:Uop} (h:Sx C L v R) (hc:v.cause=0):IsP v.ins=true:=by
 have hf:=h.fetch
 unfold Ds at hf
 split at hf
 ·have:=Nu (m:=bytesOf (Ea (known L) C.mem v.seq v.pc 4).1) (pc:=0) (by rw [←hf];exact hc)
  rw [←hf] at this
  exact this.1
 ·injection hf with h1 h2
  omega
theorem Ut {L R L' R':List Uop} {u v:Uop} (h:L++u::R=L'++v::R'):(L'=L∧v=u∧R'=R)∨(∃ X,L=L'++v::X∧R'=X++u::R)∨(∃ X,L'=L++u::X∧R=X++v::R'):=by
 rcases List.append_eq_append_iff.1 h with⟨X,h1,h2⟩ | ⟨X,h1,h2⟩
 ·cases X with
  |nil=>
   simp at h1 h2
   left
   exact⟨h1,h2.1.symm,h2.2.symm⟩
  |cons y X=>
   rw [List.cons_append] at h2
   injection h2 with h2 h3
   right;right
   exact⟨X,by rw [h1,h2],h3⟩
 ·cases X with
  |nil=>
   simp at h1 h2
   left
   exact⟨h1.symm,h2.1,h2.2⟩
  |cons y X=>
   rw [List.cons_append] at h2
   injection h2 with h2 h3
   right;left
   exact⟨X,by rw [h1,h2],h3⟩
theorem Ly (A B:List Uop):known (A++B)=known A++known B:=by unfold known;simp
theorem Wi {L X:List Uop} {u u':Uop} (h:A1 u=false) (h':A1 u'=false):known (L++u'::X)=known (L++u::X):=by
 unfold known
 rw [List.filter_append,List.filter_append,List.filter_cons_of_neg (by simp [h']),List.filter_cons_of_neg (by simp [h])]
theorem Sx.congr {C C':Core} {L L' R R':List Uop} {v:Uop} (h:Sx C L v R) (hq:v.seq<C'.seq)
  (hL:L=[]→L'=[]) (hR:R=[]→R'=[]) (hst:Eq v=true→C.still=true→C'.still=true)
  (hf:Ds (known L') C'.mem v.seq v.pc=Ds (known L) C.mem v.seq v.pc)
  (hs:v.cause=0→v.state≠0→(C.has v.a=true→C'.has v.a=true)∧(C.has v.b=true→C'.has v.b=true))
  (hd:0<v.dest→C'.has v.dest=C.has v.dest∧C'.word v.dest=C.word v.dest)
  (hx:v.cause=0→v.state=2→Ab C' L' v=Ab C L v):Sx C' L' v R':=
 ⟨⟨h.seq.1,hq⟩,h.st,h.fault,h.cause,by rw [hf];exact h.fetch,h.pc,h.next,h.nextS,
  fun hc hn=>⟨(hs hc hn).1 (h.src hc hn).1,(hs hc hn).2 (h.src hc hn).2⟩,h.gs,
  fun h1 h2 h3=>h.d1 h1 h2 (by rw [←(hd h1).1];exact h3),fun h1 h2=>by rw [(hd h1).1,(hd h1).2];exact h.d2 h1 h2,
  fun h1 h2=>by rw [hx h1 h2];exact h.com h1 h2,h.nx,fun h1 h2=>hL (h.lone h1 h2),fun h1=>⟨hR (h.last h1).1,hst h1 (h.last h1).2⟩⟩
theorem Core.op_at {C:Core} {L R:List Uop} {u:Uop} (h:C.ops=L++u::R):C.op L.length=u:=by
 unfold Core.op
 rw [h]
 simp [List.getD]
theorem Ge {L R:List Uop} {u u':Uop}:(L++u::R).set L.length u'=L++u'::R:=by simp
theorem I4 {C C':Core} {L L':List Uop} {v:Uop} (hm:C'.mem=C.mem) (hh:C'.hart.regs=C.hart.regs) (hk:known L'=known L) (ha:C'.word v.a=C.word v.a) (hb:C'.word v.b=C.word v.b):Ab C' L' v=Ab C L v:=by
 unfold Ab Ed
 rw [hm,hh,hk,ha,hb]
theorem Aaz {words:List Int} {d p:Int} (w:Int) (hd:0≤d) (hp:0≤p) (h:p≠d):(words.set d.toNat w).getD p.toNat 0=words.getD p.toNat 0:=by
 rw [Fb,if_neg (by omega)]
theorem Xi {there:List Bool} {d p:Int} (w:Bool) (hd:0≤d) (hp:0≤p) (h:p≠d):(there.set d.toNat w).getD p.toNat false=there.getD p.toNat false:=by
 simp only [List.getD]
 rw [List.getElem?_set_ne (by omega)]
theorem Af3 {words:List Int} {d:Int} (w:Int) (hd:0≤d) (h:d<words.length):(words.set d.toNat w).getD d.toNat 0=w:=by
 rw [Fb,if_pos (by omega)]
theorem Tu {there:List Bool} {d:Int} (w:Bool) (hd:0≤d) (h:d<there.length):(there.set d.toNat w).getD d.toNat false=w:=by
 simp only [List.getD]
 rw [List.getElem?_set_self (by omega)]
 rfl
theorem F7 {N M:Ax}:∀ {ops:List Uop},Bp N ops M→Dq N→∀ {L R:List Uop} {u:Uop},ops=L++u::R→∃ K K',Dq K∧NOk K u∧Bp N L K∧K'=Dm K u∧Bp K' R M:=by
 intro ops h hg L R u ho
 subst ho
 obtain⟨K,h1,h2,h3⟩:=Bp.append.1 h
 exact⟨K,_,h1.good hg,h2,h1,rfl,h3⟩
theorem J7 {N M:Ax} {C:Core} {L R:List Uop} {u:Uop} (hc:Bp N (L++u::R) M) (hg:Dq N) (hu:Sx C L u R):(0≤u.a∧u.a<96)∧(0≤u.b∧u.b<96)∧0≤u.dest∧u.dest<96:=by
 obtain⟨K,_,hK,hN,_⟩:=F7 hc hg rfl
 have hd:0≤u.dest∧u.dest<96:=by
  by_cases h:0<u.dest
  ·have hf:=(hN.dst h).2.2.1
   have:=hK.free_pos (p:=u.dest) (by rw [hf];simp)
   omega
  ·have:=(hN.nodst (by omega)).1
   omega
 by_cases hc:u.cause=0
 ·obtain⟨e1,e2⟩:=hN.src hc
  have hi:=H6 (Inv.insOk hu hc)
  rw [e1,e2]
  exact⟨hK.reg_range (by omega),hK.reg_range (by omega),hd⟩
 ·obtain⟨_,_,e1,e2,_⟩:=hu.fault hc
  rw [e1,e2]
  exact⟨by omega,by omega,hd⟩
theorem Inv.apart {C:Core} (h:Inv C):C.ops.Pairwise Apart:=by
 obtain⟨N,hg,_,hc,_⟩:=h.names
 refine hc.apart hg (fun u hu=>fun hcz=>?_) (fun u hu=>fun hcn=>?_)
 ·obtain⟨L,R,e⟩:=List.append_of_mem hu
  have:=H6 (Inv.insOk (h.ops L u R e) hcz)
  omega
 ·obtain⟨L,R,e⟩:=List.append_of_mem hu
  obtain⟨_,_,e1,e2,_⟩:=(h.ops L u R e).fault hcn
  exact⟨e1,e2⟩
theorem Inv.head {C:Core} (h:Inv C) {L R:List Uop} {u:Uop} (ho:C.ops=L++u::R) (hs:u.seq=(C.op 0).seq):L=[]:=by
 cases L with
 |nil=>rfl
 |cons x L=>
  exfalso
  have hx:C.op 0=x:=by unfold Core.op;rw [ho];rfl
  have hp:=h.seqs
  rw [ho,List.cons_append] at hp
  have:=(List.pairwise_cons.1 hp).1 u (by simp)
  rw [hx] at hs
  omega
theorem Inv.begun {C:Core} (h:Inv C) {L R:List Uop} {u u':Uop} (ho:C.ops=L++u::R) (s:List Int) (words:List Int) (there:List Bool)
  (hu:u'={ u with state:=1,ready:=u'.ready,guessed:=u'.guessed }) (h0:u.state=0) (ha:C.has u.a=true) (hb:C.has u.b=true) (hal:Ba u.ins=true→L=[])
  (hw:words.length=96∧∀ x∈words,0≤x∧x≤4294967295) (ht:there.length=96)
  (hsame:∀ p:Int,0≤p→(0<u.dest→p≠u.dest)→words.getD p.toNat 0=C.word p∧there.getD p.toNat false=C.has p) (hmono:∀ p:Int,C.has p=true→there.getD p.toNat false=true)
  (hg:u'.guessed=true→0<u.dest∧Bo u.ins=true) (hg2:0<u.dest→there.getD u.dest.toNat false=true→u'.guessed=true) :
  Inv { C with ops:=L++u'::R,script:=s,words:=words,there:=there }:=by
 obtain⟨N,hgN,hlN,hcN,hvN⟩:=h.names
 have hap:=h.apart
 have hreg:∀ L' v R',C.ops=L'++v::R'→(0≤v.a∧v.a<96)∧(0≤v.b∧v.b<96)∧0≤v.dest∧v.dest<96:=fun L' v R' e=>J7 (by rw [←e];exact hcN) hgN (h.ops L' v R' e)
 have hops:=h.ops
 rw [ho] at hap hcN hops hreg
 obtain⟨hap1,hap2,hap3⟩:=List.pairwise_append.1 hap
 have huR:=(List.pairwise_cons.1 hap2).1
 have hOu:=hops L u R rfl
 have hstop:Cw u'=Cw u:=by rw [hu];unfold Cw;simp [h0]
 have hkn:A1 u=false:=by unfold A1;rw [h0];simp
 have hkn':A1 u'=false:=by rw [hu];unfold A1;simp
 have hmem:Bc u'=Bc u:=by rw [hu];rfl
 have hother:∀ L' v R',L++u::R=L'++v::R'→v≠u∨L'≠L→(v.state≠0→v.cause=0→(0<u.dest→v.a≠u.dest∧v.b≠u.dest))∧(0<u.dest→0<v.dest→v.dest≠u.dest):=by
  intro L' v R' e hne
  rcases Ut e with⟨e1,e2,_⟩ | ⟨X,e1,e2⟩ | ⟨X,e1,e2⟩
  ·exact absurd e1 (by rcases hne with hh | hh;exact absurd e2 hh;exact hh)
  ·have:=hap3 v (by rw [e1];simp) u (by simp)
   exact⟨fun _ _ hd=>⟨this.a hd,this.b hd⟩,fun hd _=>this.d hd⟩
  ·have hv:=huR v (by rw [e2];simp)
   have hOv:=hops L' v R' e
   refine⟨fun hs hc hd=>?_,fun hd hd'=>fun e=>hv.d hd' e.symm⟩
   have hnot:C.has u.dest=true→False:=fun hh=>by
    have:=hOu.gs (hOu.d1 hd (by omega) hh)
    exact this.1 h0
   obtain⟨s1,s2⟩:=hOv.src hc hs
   exact⟨fun e=>hnot (e▸s1),fun e=>hnot (e▸s2)⟩
 have hacc:∀ L' v R',L++u::R=L'++v::R'→v≠u∨L'≠L→Be words v=Be C.words v:=by
  intro L' v R' e hne
  unfold Be
  split
  ·rfl
  ·split
   ·rename_i hl
    have hOv:=hops L' v R' e
    have hc:v.cause=0:=by
     rcases Decidable.em (v.cause=0) with hc | hc
     ·exact hc
     ·obtain⟨_,e1,_⟩:=hOv.fault hc
      have:=hl.2.2
      rw [e1] at this
      cases this
    have h1:=(hother L' v R' e hne).1 (by omega) hc
    have h2:=(hsame v.a (hreg L' v R' e).1.1 (fun hd=>(h1 hd).1)).1
    unfold Ux
    rw [h2]
    rfl
   ·rfl
 refine⟨h.cfg,h.hart,h.may,h.runs,h.bytes,h.room,h.tab,hw,ht,?_,?_,?_,⟨N,hgN,hlN,?_,fun r hr=>?_⟩,?_,?_,h.seq0,h.pc,?_⟩
 ·show C.slots=(L++u'::R).map Bz
  rw [h.slots,ho]
  simp only [List.map_append,List.map_cons]
  congr 2
  rw [hu];unfold Bz;simp [h0]
 ·show(L++u'::R).Pairwise _
  have:=h.seqs
  rw [ho] at this
  rw [List.pairwise_append,List.pairwise_cons] at this ⊢
  obtain⟨p1,⟨p2,p3⟩,p4⟩:=this
  have hseq:u'.seq=u.seq:=by rw [hu]
  refine⟨p1,⟨fun v hv=>by rw [hseq];exact p2 v hv,p3⟩,fun a ha b hb=>?_⟩
  rcases List.mem_cons.1 hb with rfl | hb
  ·rw [hseq];exact p4 a ha u (by simp)
  ·exact p4 a ha b (by simp [hb])
 ·show C.access=((L++u'::R).filter Bc).map (Be words)
  rw [h.access,ho]
  have hL:(L.filter Bc).map (Be words)=(L.filter Bc).map (Be C.words):=List.map_congr_left fun v hv=>by
   obtain⟨X,Y,e⟩:=List.append_of_mem (List.mem_filter.1 hv).1
   exact hacc X v (Y++u::R) (by rw [e];simp) (Or.inr (by rw [e];intro hh;have:=congrArg List.length hh;simp at this))
  have hR:(R.filter Bc).map (Be words)=(R.filter Bc).map (Be C.words):=List.map_congr_left fun v hv=>by
   obtain⟨X,Y,e⟩:=List.append_of_mem (List.mem_filter.1 hv).1
   exact hacc (L++u::X) v Y (by simp [e]) (Or.inr (fun hh=>by have:=congrArg List.length hh;simp at this))
  have hU:Be words u'=Be C.words u:=by
   unfold Be
   rw [hkn,hkn',hu]
   simp [h0]
  rw [List.filter_append,List.filter_append,List.map_append,List.map_append,hL]
  congr 1
  rcases hm:Bc u with _ | _
  ·rw [List.filter_cons_of_neg (by simp [hm]),List.filter_cons_of_neg (by rw [hmem];simp [hm]),hR]
  ·rw [List.filter_cons_of_pos hm,List.filter_cons_of_pos (by rw [hmem];exact hm),List.map_cons,List.map_cons,hR,hU]
 ·show Bp N (L++u'::R) C.names
  rw [Bp.append] at hcN ⊢
  obtain⟨K,h1,h2,h3⟩:=hcN
  refine⟨K,h1,?_,?_⟩
  ·rw [hu];exact⟨h2.src,h2.dst,h2.nodst⟩
  ·have:Dm K u'=Dm K u:=by rw [hu];rfl
   rw [this]
   exact h3
 ·have hr0:=hgN.reg_range (i:=r) hr
  have hne:0<u.dest→N.regs.getD r 0≠u.dest:=fun hd e=>hgN.disjoint (hgN.reg_mem hr) (e▸hcN.dest_free u (by simp) hd)
  obtain⟨e1,e2⟩:=hsame _ hr0.1 hne
  exact⟨e2.trans (hvN r hr).1,e1.trans (hvN r hr).2⟩
 ·show Eg C.hart.pc (L++u'::R) C.pc
  have:=h.pcs
  rw [ho] at this
  revert this
  generalize C.hart.pc=p
  clear h ho h0 ha hb hal hw ht hsame hmono hg hg2 hcN hvN hap hap1 hap2 hap3 huR hreg hops hOu hkn hkn' hmem hother hacc
  induction L generalizing p with
  |nil=>
   rintro⟨h1,h2⟩
   refine⟨by rw [hu];exact h1,?_⟩
   rw [hstop]
   have:u'.next=u.next:=by rw [hu]
   rw [this]
   exact h2
  |cons x L ih=>
   rintro⟨h1,h2⟩
   refine⟨h1,?_⟩
   by_cases hs:Cw x=true
   ·rw [if_pos hs] at h2 ⊢
    simp at h2
   ·rw [if_neg hs] at h2 ⊢
    exact ih _ h2
 ·show(L++u'::R).length≤C.window
  have:=h.len
  rw [ho] at this
  simpa using this
 ·intro L' v R' e
  have e:L++u'::R=L'++v::R':=e
  rcases Ut e with⟨rfl,rfl,rfl⟩ | ⟨X,e1,e2⟩ | ⟨X,e1,e2⟩
  ·
   have e':∀ {α:Type} (f:Uop→α),f v=f { u with state:=1,ready:=v.ready,guessed:=v.guessed }:=fun f=>congrArg f hu
   have i1:v.ins=u.ins:=e' Uop.ins
   have i2:v.cause=u.cause:=e' Uop.cause
   have i3:v.a=u.a:=e' Uop.a
   have i4:v.b=u.b:=e' Uop.b
   have i5:v.dest=u.dest:=e' Uop.dest
   have i6:v.seq=u.seq:=e' Uop.seq
   have i7:v.pc=u.pc:=e' Uop.pc
   have i8:v.next=u.next:=e' Uop.next
   have i9:v.state=1:=e' Uop.state
   have hcz:u.cause=0:=by
    rcases Decidable.em (u.cause=0) with hc | hc
    ·exact hc
    ·have:=(hOu.fault hc).1;omega
   refine⟨by rw [i6];exact hOu.seq,Or.inr (Or.inl i9),fun hc=>absurd hcz (by rw [←i2];exact hc),by rw [i2];exact hOu.cause,by rw [i1,i2,i6,i7];exact hOu.fetch,by rw [i7];exact hOu.pc,by rw [i8];exact hOu.next,
    by rw [i1,i2,i7,i8];exact hOu.nextS,fun _ _=>⟨?_,?_⟩,fun hgg=>⟨by omega,by rw [i5];exact(hg hgg).1,by rw [i1];exact(hg hgg).2⟩,fun hd _ hh=>?_,fun _ hs=>by omega,fun _ hs=>by omega,fun hs=>by omega,fun hl _=>by rw [i1] at hl;exact hal hl,fun hl=>?_⟩
   ·show there.getD v.a.toNat false=true
    rw [i3];exact hmono _ ha
   ·show there.getD v.b.toNat false=true
    rw [i4];exact hmono _ hb
   ·rw [i5] at hd
    exact hg2 hd (by rw [←i5];exact hh)
   ·have:Eq u=true:=by unfold Eq at hl ⊢;rw [←hstop,←i1];exact hl
    exact hOu.last this
  ·
   subst e1 e2
   have hO:=hops L' v (X++u::R) (by simp)
   have hne:L'≠L'++v::X:=fun hh=>by have:=congrArg List.length hh;simp at this
   obtain⟨o1,o2⟩:=hother L' v (X++u::R) (by simp) (Or.inr hne)
   obtain⟨q1,q2,q3,_⟩:=hreg L' v (X++u::R) (by simp)
   refine hO.congr hO.seq.2 id (fun hh=>by simp at hh) (fun _ hh=>hh) rfl (fun hc hs=>⟨hmono _,hmono _⟩) (fun hd=>?_) (fun hc hs=>?_)
   ·obtain⟨e1,e2⟩:=hsame v.dest q3 (fun hd'=>o2 hd' hd)
    exact⟨e2,e1⟩
   ·have:=o1 (by omega) hc
    exact I4 rfl rfl rfl (hsame v.a q1.1 fun hd=>(this hd).1).1 (hsame v.b q2.1 fun hd=>(this hd).2).1
  ·
   subst e1 e2
   have hO:=hops (L++u::X) v R' (by simp)
   have hne:L++u::X≠L:=fun hh=>by have:=congrArg List.length hh;simp at this
   obtain⟨o1,o2⟩:=hother (L++u::X) v R' (by simp) (Or.inr hne)
   obtain⟨q1,q2,q3,_⟩:=hreg (L++u::X) v R' (by simp)
   have hk:known (L++u'::X)=known (L++u::X):=Wi hkn hkn'
   refine hO.congr hO.seq.2 (fun hh=>by simp at hh) id (fun _ hh=>hh) (by rw [hk]) (fun hc hs=>⟨hmono _,hmono _⟩) (fun hd=>?_) (fun hc hs=>?_)
   ·obtain⟨e1,e2⟩:=hsame v.dest q3 (fun hd'=>o2 hd' hd)
    exact⟨e2,e1⟩
   ·have:=o1 (by omega) hc
    exact I4 rfl rfl hk (hsame v.a q1.1 fun hd=>(this hd).1).1 (hsame v.b q2.1 fun hd=>(this hd).2).1
theorem Ad3 {C:Core} (h:Inv C) {L R:List Uop} {u:Uop} (ho:C.ops=L++u::R) (now:Int):Inv (B7 C L.length now (C.op 0).seq).2:=by
 have hu:C.op L.length=u:=Core.op_at ho
 unfold B7
 rw [hu]
 simp only [ho,Ge]
 split
 ·exact h
 rename_i hn
 have h0:u.state=0:=by rcases Decidable.em (u.state=0) with e | e;exact e;exact absurd (Or.inl e) hn
 have ha:C.has u.a=true:=by rcases e:C.has u.a with _ | _;exact absurd (Or.inr (Or.inl e)) hn;rfl
 have hb:C.has u.b=true:=by rcases e:C.has u.b with _ | _;exact absurd (Or.inr (Or.inr (Or.inl e))) hn;rfl
 have hal:Ba u.ins=true→L=[]:=fun hl=>by
  rcases Decidable.em (u.seq=(C.op 0).seq) with e | e
  ·exact h.head ho e
  ·exact absurd (Or.inr (Or.inr (Or.inr ⟨hl,e⟩))) hn
 clear hn
 obtain⟨N,hgN,_,hcN,_⟩:=h.names
 have hO:=h.ops L u R ho
 obtain⟨_,_,hd0,hd1⟩:=J7 (by rw [←ho];exact hcN) hgN hO
 have hgz:u.guessed=false:=by
  rcases e:u.guessed with _ | _
  ·rfl
  ·exact absurd h0 (hO.gs e).1
 have plain:∀ (s:List Int) (r:Int),Inv { C with ops:=L++{ u with state:=1,ready:=r }::R,script:=s }:=fun s r=>
  h.begun ho s C.words C.there rfl h0 ha hb hal h.words h.there (fun p _ _=>⟨rfl,rfl⟩) (fun p hp=>hp) (fun hg=>by have hg:u.guessed=true:=hg;rw [hgz] at hg;cases hg)
   (fun hd hh=>by
    have:=hO.d1 hd (by omega) hh
    rw [hgz] at this;cases this)
 split
 ·exact plain C.script _
 split
 ·rename_i hl
  split
  ·rename_i hg
   show Inv { Dk _ u.dest _ with ops:=_ }
   unfold Dk
   rw [if_pos hg.1]
   refine h.begun ho _ _ _ rfl h0 ha hb hal ⟨by simp [h.words.1],fun x hx=>?_⟩ (by simp [h.there]) (fun p hp hne=>⟨Aaz _ hd0 hp (hne hg.1),Xi _ hd0 hp (hne hg.1)⟩) (fun p hp=>?_) (fun _=>⟨hg.1,hl⟩) (fun _ _=>rfl)
   ·rcases List.mem_or_eq_of_mem_set hx with hx | rfl
    ·exact h.words.2 x hx
    ·exact Dc _
   ·by_cases e:p.toNat=u.dest.toNat
    ·have:=Tu (there:=C.there) true hd0 (by rw [h.there];exact hd1)
     rw [e];exact this
    ·simp only [List.getD]
     rw [List.getElem?_set_ne (fun x=>e x.symm)]
     exact hp
  ·exact plain C.script.tail _
 ·exact plain C.script _
theorem Xj {α:Type} (p:α→Bool):∀ (P:List α) (b:α) (Q:List α) (k:Int),(∀ x∈P,p x=false)→p b=true→Cz p (P++b::Q) k=k+P.length
 |[],b,Q,k,_,h=>by
  show(if p b=true then k else _)=_
  rw [if_pos h]
  simp
 |x::P,b,Q,k,h,hb=>by
  show(if p x=true then k else Cz p (P++b::Q) (k+1))=_
  rw [if_neg (by rw [h x (by simp)];simp),Xj p P b Q (k+1) (fun y hy=>h y (by simp [hy])) hb]
  simp
  omega
theorem Dz {P Q:List Uop} {b:Uop} (h:(P++b::Q).Pairwise (fun u v=>u.seq<v.seq)):(∀ x∈P,x.seq<b.seq)∧∀ x∈Q,b.seq<x.seq:=by
 rw [List.pairwise_append,List.pairwise_cons] at h
 exact⟨fun x hx=>h.2.2 x hx b (by simp),h.2.1.1⟩
theorem Aii {P Q:List Uop} {b:Uop} (h:(P++b::Q).Pairwise (fun u v=>u.seq<v.seq)):I6 (P++b::Q) b.seq=P.length:=by
 unfold I6
 rw [Xj (fun u:Uop=>decide (u.seq=b.seq)) P b Q 0 (fun x hx=>decide_eq_false (by have:=(Dz h).1 x hx;omega)) (decide_eq_true rfl)]
 omega
theorem Agq {P Q:List Uop} {b:Uop} (h:(P++b::Q).Pairwise (fun u v=>u.seq<v.seq)):(P++b::Q).getD (I6 (P++b::Q) b.seq).toNat Bw=b:=by
 rw [Aii h]
 simp [List.getD]
theorem Qp {M:Ax}:∀ {B A:List Uop} {K:Ax},Bp K B M→Dq K→(A++B).Pairwise (fun u v=>u.seq<v.seq)→((B.map (·.seq)).reverse).foldl (Ei (A++B)) M=K
 |[],_,_,h,_,_=>by cases h;rfl
 |b::B,A,K,⟨h,h1⟩,hg,hp=>by
  rw [List.map_cons,List.reverse_cons,List.foldl_append]
  have e:A++b::B=(A++[b])++B:=by simp
  rw [e,Qp h1 (hg.next h) (by rw [←e];exact hp),←e]
  show Ei (A++b::B) (Dm K b) b.seq=K
  unfold Ei
  rw [Agq hp]
  simp only
  split
  ·rename_i hd
   rw [Af0 hg h hd]
   rfl
  ·rename_i hd
   unfold Dm
   rw [if_neg hd]
theorem filter_lt {A B:List Uop} {s:Int} (hA:∀ u∈A,u.seq<s) (hB:∀ u∈B,s≤u.seq):(A++B).filter (fun u=>!decide (s≤u.seq))=A:=by
 rw [List.filter_append,List.filter_eq_self.2 (fun u hu=>by have:=hA u hu;simp;omega),List.filter_eq_nil_iff.2 (fun u hu=>by have:=hB u hu;simp;omega),List.append_nil]
theorem Ac9 {c:Core} {A B:List Uop} {K:Ax} {g:Uop→Acc} {s:Int} (pc:Int) (ho:c.ops=A++B) (hs:c.slots=(A++B).map Bz) (hp:(A++B).Pairwise (fun u v=>u.seq<v.seq))
  (hA:∀ u∈A,u.seq<s) (hB:∀ u∈B,s≤u.seq) (hg:∀ u,(g u).seq=u.seq) (hacc:c.access=((A++B).filter Bc).map g) (hN:Bp K B c.names) (hK:Dq K) :
  Fz c s pc={ c with backs:=c.backs+1,names:=K,slots:=A.map Bz,ops:=A,access:=(A.filter Bc).map g,pc:=pc,still:=false }:=by
 have hcutO:La c.slots s=(B.map (·.seq)).reverse:=by
  unfold La
  rw [hs,List.map_append,List.filter_append,List.filter_eq_nil_iff.2 (fun x hx=>?_),List.filter_eq_self.2 (fun x hx=>?_)]
  ·simp [Bz,Function.comp_def]
  ·obtain⟨u,hu,rfl⟩:=List.mem_map.1 hx
   have:=hB u hu
   exact decide_eq_true (p:=s≤u.seq) this
  ·obtain⟨u,hu,rfl⟩:=List.mem_map.1 hx
   have:=hA u hu
   exact fun h=>by have:=of_decide_eq_true (p:=s≤u.seq) h;omega
 have hcutL:Mx c.slots s=A.map Bz:=by
  unfold Mx
  rw [hs,List.map_append,List.filter_append,List.filter_eq_self.2 (fun x hx=>?_),List.filter_eq_nil_iff.2 (fun x hx=>?_),List.append_nil]
  ·obtain⟨u,hu,rfl⟩:=List.mem_map.1 hx
   have:=hB u hu
   exact fun h=>by have:=of_decide_eq_true (p:=u.seq<s) h;omega
  ·obtain⟨u,hu,rfl⟩:=List.mem_map.1 hx
   have:=hA u hu
   exact decide_eq_true (p:=u.seq<s) this
 unfold Fz
 rw [hcutO,hcutL,ho,Qp hN hK hp,filter_lt hA hB]
 have hac:c.access.filter (fun a=>!decide (s≤a.seq))=(A.filter Bc).map g:=by
  rw [hacc,List.filter_map,List.filter_filter]
  congr 1
  rw [List.filter_append,List.filter_eq_nil_iff (l:=B).2 (fun u hu=>by have:=hB u hu;simp [hg];omega),List.append_nil]
  refine List.filter_congr fun u hu=>?_
  have:=hA u hu
  simp [hg]
  omega
 rw [hac]
theorem Et (words:List Int) (u:Uop):(Be words u).seq=u.seq:=by
 unfold Be G5
 (repeat' split)<;>rfl
theorem Acg (words:List Int) (seq p:Int) (u:Uop):Ha seq p (Be words u)=(A1 u&&Ha seq p (G5 u)):=by
 unfold Be
 rcases hk:A1 u with _ | _
 ·rw [if_neg (by simp)]
  split
  ·unfold Ha;simp
  ·unfold Ha;simp
 ·rw [if_pos rfl];simp
theorem Aan {u:Uop} (h:A1 u=true):Bc u=true:=by
 unfold A1 at h
 unfold Bc
 simp only [Bool.and_eq_true] at h
 rw [h.1.1]
 simp
theorem Sy (words:List Int) (seq p:Int):∀ ops:List Uop,((ops.filter Bc).map (Be words)).filter (Ha seq p)=(known ops).filter (Ha seq p)
 |[]=>rfl
 |u::ops=>by
  have ih:=Sy words seq p ops
  unfold known at ih ⊢
  rcases hk:A1 u with _ | _
  ·rw [List.filter_cons_of_neg (p:=A1) (by simp [hk])]
   rcases hm:Bc u with _ | _
   ·rw [List.filter_cons_of_neg (p:=Bc) (by simp [hm])]
    exact ih
   ·rw [List.filter_cons_of_pos (p:=Bc) hm,List.map_cons,List.filter_cons_of_neg (by rw [Acg,hk];simp)]
    exact ih
  ·have ha:Be words u=G5 u:=by unfold Be;rw [if_pos hk]
   rw [List.filter_cons_of_pos (p:=A1) hk,List.filter_cons_of_pos (p:=Bc) (Aan hk),List.map_cons,List.map_cons,ha]
   rcases hr:Ha seq p (G5 u) with _ | _
   ·rw [List.filter_cons_of_neg (by simp [hr]),List.filter_cons_of_neg (by simp [hr])]
    exact ih
   ·rw [List.filter_cons_of_pos hr,List.filter_cons_of_pos hr,ih]
theorem Ae8 {A B:List Uop} {seq:Int} (p:Int) (h:∀ v∈B,seq≤v.seq):(known (A++B)).filter (Ha seq p)=(known A).filter (Ha seq p):=by
 rw [Ly,List.filter_append]
 have:(known B).filter (Ha seq p)=[]:=by
  rw [List.filter_eq_nil_iff]
  intro a ha
  obtain⟨v,hv,rfl⟩:=List.mem_map.1 ha
  have:=h v (List.mem_filter.1 hv).1
  unfold Ha G5
  simp
  omega
 rw [this,List.append_nil]
theorem Uq {words:List Int} {A B:List Uop} {seq:Int} (m:List Int) (p many:Int) (h:∀ v∈B,seq≤v.seq) :
  (Ea (((A++B).filter Bc).map (Be words)) m seq p many).1=(Ea (known A) m seq p many).1∧(Ea (((A++B).filter Bc).map (Be words)) m seq p many).2.1=(Ea (known A) m seq p many).2.1:=
 Pf rfl fun q _ _ _ _=>Ro m (by rw [Sy,Ae8 q h])
theorem Abz {A:List Uop} (h:A.Pairwise (fun u v=>u.seq<v.seq)):(known A).Pairwise (fun a c=>a.seq≤c.seq):=by
 unfold known
 rw [List.pairwise_map]
 exact(h.sublist List.filter_sublist).imp fun h=>Int.le_of_lt h
theorem Eg.cut {v:Uop} {Y:List Uop}:∀ {A:List Uop} {p q:Int},Eg p (A++v::Y) q→Eg p A v.pc∧∀ x∈A,Cw x=false
 |[],p,q,⟨h1,_⟩=>⟨h1.symm,fun x hx=>by cases hx⟩
 |a::A,p,q,⟨h1,h2⟩=>by
  by_cases hs:Cw a=true
  ·rw [if_pos hs] at h2
   simp at h2
  ·rw [if_neg hs] at h2
   obtain⟨h3,h4⟩:=Eg.cut h2
   refine⟨⟨h1,by rw [if_neg hs];exact h3⟩,fun x hx=>?_⟩
   rcases List.mem_cons.1 hx with rfl | hx
   ·simpa using hs
   ·exact h4 x hx
theorem Eg.snoc {u:Uop}:∀ {A:List Uop} {p:Int},Eg p A u.pc→(∀ x∈A,Cw x=false)→∀ q,(Cw u=false→u.next=q)→Eg p (A++[u]) q
 |[],p,h,_,q,hq=>by
  refine⟨(show p=u.pc from h).symm,?_⟩
  split
  ·rfl
  ·rename_i hs
   exact hq (by simpa using hs)
 |a::A,p,⟨h1,h2⟩,hs,q,hq=>by
  have ha:=hs a (by simp)
  refine⟨h1,?_⟩
  rw [if_neg (by rw [ha];simp)] at h2 ⊢
  exact Eg.snoc h2 (fun x hx=>hs x (by simp [hx])) q hq
theorem Eg.put {u u':Uop} {X:List Uop} (hpc:u'.pc=u.pc) (hn:u'.next=u.next) (hs:Cw u'=Cw u) {q:Int}:∀ {L:List Uop} {p:Int},Eg p (L++u::X) q→Eg p (L++u'::X) q
 |[],p,⟨h1,h2⟩=>⟨by rw [hpc];exact h1,by rw [hs,hn];exact h2⟩
 |a::L,p,⟨h1,h2⟩=>by
  refine⟨h1,?_⟩
  by_cases hst:Cw a=true
  ·rw [if_pos hst] at h2
   simp at h2
  ·rw [if_neg hst] at h2 ⊢
   exact Eg.put hpc hn hs h2
theorem Inv.done {C:Core} (h:Inv C) {L X Y:List Uop} {u u':Uop} (ho:C.ops=L++u::(X++Y)) (h1:u.state=1)
  (hu:u'={ u with state:=2,commit:=Ab C L u,next:=u'.next }) (words:List Int) (there:List Bool)
  (hw:words.length=96∧∀ x∈words,0≤x∧x≤4294967295) (ht:there.length=96)
  (hsame:∀ p:Int,0≤p→(0<u.dest→p≠u.dest)→words.getD p.toNat 0=C.word p∧there.getD p.toNat false=C.has p)
  (hd:0<u.dest→there.getD u.dest.toNat false=true∧words.getD u.dest.toNat 0=(Ab C L u).value)
  (hold:X≠[]→0<u.dest→C.has u.dest=true→C.word u.dest=(Ab C L u).value)
  (M:Ax) (hM:∀ N,Bp N (L++u::X++Y) C.names→Dq N→Bp N (L++u::X) M)
  (hf:∀ X1 v X2,X=X1++v::X2→Ds (known (L++u'::X1)) C.mem v.seq v.pc=Ds (known (L++u::X1)) C.mem v.seq v.pc)
  (hl:∀ X1 v X2,X=X1++v::X2→Bo v.ins=true→v.state=2→Kl (known (L++u'::X1)) C.mem v (C.word v.a)=Kl (known (L++u::X1)) C.mem v (C.word v.a))
  (pc backs:Int) (still:Bool) (hpc:Eg C.hart.pc (L++u'::X) pc) (hpcr:0≤pc∧pc≤4294967295)
  (hnr:0≤u'.next∧u'.next≤4294967295) (hnx:Cw u'=false→u'.next=(Ab C L u).next) (hns:(A0 u.ins || Ba u.ins)=true→u'.next=u32 (u.pc+4))
  (hlast:Eq u'=true→X=[]∧still=true) (hst:Y=[]→X≠[]→C.still=true→still=true) :
  Inv { C with ops:=L++u'::X,slots:=(L++u'::X).map Bz,access:=((L++u'::X).filter Bc).map (Be words),names:=M,words:=words,there:=there,pc:=pc,still:=still,backs:=backs }:=by
 obtain⟨N,hgN,hlN,hcN,hvN⟩:=h.names
 have hap:=h.apart
 have hreg:∀ L' v R',C.ops=L'++v::R'→(0≤v.a∧v.a<96)∧(0≤v.b∧v.b<96)∧0≤v.dest∧v.dest<96:=fun L' v R' e=>J7 (by rw [←e];exact hcN) hgN (h.ops L' v R' e)
 have hops:=h.ops
 have hsq:=h.seqs
 rw [ho] at hap hcN hops hreg hsq
 obtain⟨hap1,hap2,hap3⟩:=List.pairwise_append.1 hap
 have huR:=(List.pairwise_cons.1 hap2).1
 have hOu:=hops L u (X++Y) rfl
 have e':∀ {α:Type} (f:Uop→α),f u'=f { u with state:=2,commit:=Ab C L u,next:=u'.next }:=fun f=>congrArg f hu
 have i1:u'.ins=u.ins:=e' Uop.ins
 have i2:u'.cause=u.cause:=e' Uop.cause
 have i3:u'.a=u.a:=e' Uop.a
 have i4:u'.b=u.b:=e' Uop.b
 have i5:u'.dest=u.dest:=e' Uop.dest
 have i6:u'.seq=u.seq:=e' Uop.seq
 have i7:u'.pc=u.pc:=e' Uop.pc
 have i9:u'.state=2:=e' Uop.state
 have i10:u'.commit=Ab C L u:=e' Uop.commit
 have i11:u'.guessed=u.guessed:=e' Uop.guessed
 have i12:u'.old=u.old:=e' Uop.old
 have hcz:u.cause=0:=by
  rcases Decidable.em (u.cause=0) with hc | hc
  ·exact hc
  ·have:=(hOu.fault hc).1;omega
 have hmem:Bc u'=Bc u:=by unfold Bc;rw [i1]
 have hbeh:∀ v∈X++Y,0<v.dest→u.a≠v.dest∧u.b≠v.dest∧u.dest≠v.dest:=fun v hv hd'=>⟨(huR v hv).a hd',(huR v hv).b hd',(huR v hv).d hd'⟩
 have hself:0<u.dest→u.a≠u.dest∧u.b≠u.dest:=by
  intro hd'
  obtain⟨K,_,hK,hNk,_⟩:=F7 hcN hgN rfl
  have hfr:u.dest∈K.free:=by rw [(hNk.dst hd').2.2.1];simp
  have hi:=H6 (Inv.insOk hOu hcz)
  obtain⟨m1,m2⟩:=hNk.src_mem hK (fun _=>⟨by omega,by omega⟩) hcz
  exact⟨fun e=>hK.disjoint m1 (e▸hfr),fun e=>hK.disjoint m2 (e▸hfr)⟩
 have hLw:∀ v∈L,words.getD v.a.toNat 0=C.word v.a∧there.getD v.a.toNat false=C.has v.a∧words.getD v.b.toNat 0=C.word v.b∧there.getD v.b.toNat false=C.has v.b∧words.getD v.dest.toNat 0=C.word v.dest∧there.getD v.dest.toNat false=C.has v.dest:=by
  intro v hv
  obtain⟨P,Q,e⟩:=List.append_of_mem hv
  obtain⟨q1,q2,q3,_⟩:=hreg P v (Q++u::(X++Y)) (by rw [e];simp)
  have ha:=hap3 v hv u (by simp)
  obtain⟨a1,a2⟩:=hsame v.a q1.1 ha.a
  obtain⟨b1,b2⟩:=hsame v.b q2.1 ha.b
  obtain⟨d1,d2⟩:=hsame v.dest q3 ha.d
  exact⟨a1,a2,b1,b2,d1,d2⟩
 have hUw:words.getD u.a.toNat 0=C.word u.a∧there.getD u.a.toNat false=C.has u.a∧words.getD u.b.toNat 0=C.word u.b∧there.getD u.b.toNat false=C.has u.b:=by
  obtain⟨q1,q2,_⟩:=hreg L u (X++Y) rfl
  obtain⟨a1,a2⟩:=hsame u.a q1.1 fun hd'=>(hself hd').1
  obtain⟨b1,b2⟩:=hsame u.b q2.1 fun hd'=>(hself hd').2
  exact⟨a1,a2,b1,b2⟩
 have hXw:∀ X1 v X2,X=X1++v::X2→v.cause=0→v.state≠0→words.getD v.a.toNat 0=C.word v.a∧there.getD v.a.toNat false=C.has v.a∧words.getD v.b.toNat 0=C.word v.b∧there.getD v.b.toNat false=C.has v.b:=by
  intro X1 v X2 e hc hs
  have hOv:=hops (L++u::X1) v (X2++Y) (by rw [e];simp)
  obtain⟨q1,q2,_⟩:=hreg (L++u::X1) v (X2++Y) (by rw [e];simp)
  obtain⟨s1,s2⟩:=hOv.src hc hs
  have key:∀ p:Int,0≤p→C.has p=true→words.getD p.toNat 0=C.word p∧there.getD p.toNat false=C.has p:=by
   intro p hp hh
   by_cases hpd:0<u.dest∧p=u.dest
   ·obtain⟨hd',rfl⟩:=hpd
    obtain⟨d1,d2⟩:=hd hd'
    rw [d1,d2,hh,hold (by rw [e];simp) hd' hh]
    exact⟨rfl,rfl⟩
   ·exact hsame p hp fun hd' hpe=>hpd ⟨hd',hpe⟩
  obtain⟨a1,a2⟩:=key v.a q1.1 s1
  obtain⟨b1,b2⟩:=key v.b q2.1 s2
  exact⟨a1,a2,b1,b2⟩
 refine⟨h.cfg,h.hart,h.may,h.runs,h.bytes,h.room,h.tab,hw,ht,rfl,?_,rfl,⟨N,hgN,hlN,?_,fun r hr=>?_⟩,hpc,?_,h.seq0,hpcr,?_⟩
 ·show(L++u'::X).Pairwise _
  rw [List.pairwise_append,List.pairwise_cons] at hsq ⊢
  obtain⟨p1,⟨p2,p3⟩,p4⟩:=hsq
  refine⟨p1,⟨fun v hv=>by rw [i6];exact p2 v (by simp [hv]),p3.sublist (List.sublist_append_left _ _)⟩,fun a ha b hb=>?_⟩
  rcases List.mem_cons.1 hb with rfl | hb
  ·rw [i6];exact p4 a ha u (by simp)
  ·exact p4 a ha b (by simp [hb])
 ·show Bp N (L++u'::X) M
  have:=hM N (by rw [List.append_assoc];exact hcN) hgN
  rw [Bp.append] at this ⊢
  obtain⟨K,k1,k2,k3⟩:=this
  refine⟨K,k1,?_,?_⟩
  ·rw [hu];exact⟨k2.src,k2.dst,k2.nodst⟩
  ·have:Dm K u'=Dm K u:=by unfold Dm;rw [i5,i1]
   rw [this]
   exact k3
 ·have hr0:=hgN.reg_range (i:=r) hr
  have hne:0<u.dest→N.regs.getD r 0≠u.dest:=fun hd' e=>hgN.disjoint (hgN.reg_mem hr) (e▸hcN.dest_free u (by simp) hd')
  obtain⟨e1,e2⟩:=hsame _ hr0.1 hne
  exact⟨e2.trans (hvN r hr).1,e1.trans (hvN r hr).2⟩
 ·show((L++u'::X).length:Int)≤C.window
  have:=h.len
  rw [ho] at this
  simp at this ⊢
  omega
 ·intro L' v R' e
  have e:L++u'::X=L'++v::R':=e
  rcases Ut e with⟨rfl,rfl,rfl⟩ | ⟨P,e1,e2⟩ | ⟨P,e1,e2⟩
  ·
   refine⟨by rw [i6];exact hOu.seq,Or.inr (Or.inr i9),fun hc=>absurd hcz (by rw [←i2];exact hc),by rw [i2];exact hOu.cause,by rw [i1,i2,i6,i7];exact hOu.fetch,by rw [i7];exact hOu.pc,hnr,
    fun _=>by rw [i1,i7];exact hns,fun _ _=>?_,fun hg=>?_,fun _ hs=>absurd i9 hs,fun hd' _=>?_,fun _ _=>?_,fun _ hs=>by rw [i10];exact hnx hs,fun hal hs=>?_,hlast⟩
   ·obtain⟨s1,s2⟩:=hOu.src hcz (by omega)
    rw [i3,i4]
    exact⟨hUw.2.1.trans s1,hUw.2.2.2.trans s2⟩
   ·have:=hOu.gs (by rw [←i11];exact hg)
    exact⟨by rw [i9];omega,by rw [i5];exact this.2.1,by rw [i1];exact this.2.2⟩
   ·rw [i5] at hd' ⊢
    rw [i10]
    exact hd hd'
   ·rw [i10]
    have:Ab { C with ops:=L'++v::R',slots:=(L'++v::R').map Bz,access:=((L'++v::R').filter Bc).map (Be words),names:=M,words:=words,there:=there,pc:=pc,still:=still,backs:=backs } L' v=Ab { C with words:=words } L' u:=by
     unfold Ab Kl Ed
     rw [i1,i3,i4,i6,i7]
     rfl
    rw [this]
    exact(I4 (C:=C) (C':={ C with words:=words }) (L:=L') (L':=L') (v:=u) rfl rfl rfl hUw.1 hUw.2.2.1).symm
   ·rw [i1] at hal
    exact hOu.lone hal (by omega)
  ·
   subst e1 e2
   have hO:=hops L' v (P++u::(X++Y)) (by simp)
   obtain⟨a1,a2,b1,b2,d1,d2⟩:=hLw v (by simp)
   refine hO.congr hO.seq.2 id (fun hh=>by simp at hh) (fun hl' _=>?_) rfl (fun hc hs=>⟨fun x=>a2.trans x,fun x=>b2.trans x⟩) (fun hd'=>⟨d2,d1⟩) (fun hc hs=>I4 rfl rfl rfl a1 b1)
   exact absurd (hO.last hl').1 (by simp)
  ·
   subst e1 e2
   have hO:=hops (L++u::P) v (R'++Y) (by simp)
   obtain⟨q1,q2,q3,_⟩:=hreg (L++u::P) v (R'++Y) (by simp)
   refine hO.congr hO.seq.2 (fun hh=>by simp at hh) (fun hh=>by simp at hh;exact hh.1) (fun hl' hstill=>?_) (hf P v R' rfl) (fun hc hs=>?_) (fun hd'=>?_) (fun hc hs=>?_)
   ·have:=(hO.last hl').1
    simp at this
    exact hst this.2 (by simp) hstill
   ·obtain⟨a1,a2,b1,b2⟩:=hXw P v R' rfl hc hs
    exact⟨fun x=>a2.trans x,fun x=>b2.trans x⟩
   ·have hne:=(hbeh v (by simp) hd').2.2
    obtain⟨d1,d2⟩:=hsame v.dest q3 fun _ e=>hne e.symm
    exact⟨d2,d1⟩
   ·obtain⟨a1,a2,b1,b2⟩:=hXw P v R' rfl hc (by omega)
    have a1':words.getD v.a.toNat 0=C.word v.a:=a1
    have b1':words.getD v.b.toNat 0=C.word v.b:=b1
    unfold Ab Ed
    split
    ·rename_i hlv
     show Kl (known (L++u'::P)) C.mem v (words.getD v.a.toNat 0)=_
     rw [a1']
     exact hl P v R' rfl hlv hs
    ·show Ck v.ins ⟨(C.hart.regs.set v.ins.rs1.toNat (words.getD v.a.toNat 0)).set v.ins.rs2.toNat (words.getD v.b.toNat 0),v.pc,0,0⟩ C.mem=_
     rw [a1',b1']
theorem D3 {i:Ins}:Bo i=true↔11≤i.op∧i.op≤15:=by unfold Bo;simp
theorem Fh {i:Ins}:A0 i=true↔16≤i.op∧i.op≤18:=by unfold A0;simp
theorem K6 {i:Ins}:Ba i=true↔i.op=47∨i.op=48:=by unfold Ba;simp
theorem Jy {op:Int} (h:11≤op∧op≤15):loadBytes op=Dj op∧(Dj op=1∨Dj op=2∨Dj op=4):=by
 obtain rfl | rfl | rfl | rfl | rfl:op=11∨op=12∨op=13∨op=14∨op=15:=by omega
 all_goals exact⟨rfl,by decide⟩
theorem Ahq (pc:Int) (i:Int):(⟨List.replicate 32 0,pc,0,0⟩:Ap).reg i=0:=by
 unfold Ap.reg
 simp only [List.getD]
 rw [List.getElem?_replicate]
 split<;>rfl
theorem Q7 {op:Int} (h:11≤op∧op≤15) (w:Int):(Di (bytesOf w) op 0).2=true:=by
 obtain rfl | rfl | rfl | rfl | rfl:op=11∨op=12∨op=13∨op=14∨op=15:=by omega
 all_goals rfl
theorem N7 (K:List Acc) (m:List Int) (seq p many:Int):(Ea K m seq p many).2.1=Gr m p many:=by
 unfold Ea
 split
 ·rename_i h;exact h.symm
 ·rename_i h;simp at h;exact h.symm
def Sn (i:Ins) (pc w:Int):Com:=⟨pc,u32 (pc+4),0,0,if Bf i=true then i.rd else 0,if Bf i=true then (Di (bytesOf w) i.op 0).1 else 0,0,0,0,false,0⟩
theorem Jz {u:Uop} (hl:Bo u.ins=true) (K:List Acc) (m:List Int) (wa:Int) :
  Kl K m u wa=if Gr m (u32 (wa+u.ins.imm)) (loadBytes u.ins.op)=true then Sn u.ins u.pc (Ea K m u.seq (u32 (wa+u.ins.imm)) (loadBytes u.ins.op)).1 else Bv u.pc 3:=by
 have h:=D3.1 hl
 unfold Kl
 simp only [N7]
 split
 ·unfold Ck
  simp only [Ahq]
  rw [if_pos h]
  have:u32 (0+0)=0:=by decide
  rw [this,if_pos (Q7 h _)]
  rfl
 ·rfl
theorem Nf {u:Uop} (hl:Bo u.ins=true) (K:List Acc) (m:List Int) (wa:Int) :
  (Kl K m u wa).state=0↔Gr m (u32 (wa+u.ins.imm)) (loadBytes u.ins.op)=true:=by
 rw [Jz hl]
 split
 ·rename_i h
  exact⟨fun _=>h,fun _=>rfl⟩
 ·rename_i h
  exact⟨fun hh=>absurd hh (by decide:¬ ((2:Int)=0)),fun hh=>absurd hh h⟩
theorem Gw (w:Int):Bytes (bytesOf w):=by
 intro b hb
 unfold bytesOf at hb
 simp at hb
 omega
theorem Ab5 {i:Ins} {pc:Int} (w:Int) (hi:0≤i.rd∧i.rd≤31) (hp:0≤pc∧pc≤4294967295):(Sn i pc w).Wf:=by
 have z:(0:Int)≤0∧(0:Int)≤4294967295:=by omega
 refine⟨hp,Dc _,?_,?_,z,Or.inl rfl,z,z,Or.inr ⟨Or.inl rfl,rfl⟩⟩
 ·show 0≤(if Bf i=true then i.rd else 0)∧(if Bf i=true then i.rd else 0)≤31
  split<;>omega
 ·show 0≤(if Bf i=true then (Di (bytesOf w) i.op 0).1 else 0)∧(if Bf i=true then (Di (bytesOf w) i.op 0).1 else 0)≤4294967295
  split
  ·exact T3 (Gw w) _ _
  ·exact z
theorem Um {C:Core} {u:Uop} (hh:C.hart.Wf) (hw:∀ x∈C.words,0≤x∧x≤4294967295) (hp:0≤u.pc∧u.pc≤4294967295):(Ed C u).Wf:=by
 have hword:∀ p,0≤C.word p∧C.word p≤4294967295:=fun p=>by
  unfold Core.word
  simp only [List.getD]
  cases h:C.words[p.toNat]? with
  |none=>simp
  |some v=>exact hw v (List.mem_of_getElem? h)
 refine⟨by simp [Ed,hh.len],fun x hx=>?_,hp.1,hp.2⟩
 unfold Ed at hx
 rcases List.mem_or_eq_of_mem_set hx with hx | rfl
 ·rcases List.mem_or_eq_of_mem_set hx with hx | rfl
  ·exact hh.word x hx
  ·exact hword _
 ·exact hword _
theorem P0 {C:Core} (h:Inv C) {L:List Uop} {u:Uop} (hi:0≤u.ins.rd∧u.ins.rd≤31) (hp:0≤u.pc∧u.pc≤4294967295):(Ab C L u).Wf:=by
 unfold Ab
 split
 ·rename_i hl
  rw [Jz hl]
  split
  ·exact Ab5 _ hi hp
  ·exact J4 hp (by omega)
 ·exact Y2 hi (Um h.hart h.words.2 hp) h.bytes
theorem Na {i:Ins} (h:Ap) (m:List Int) (hi:A0 i=true) (hs:(Ck i h m).state=0) :
  Ck i h m=⟨h.pc,u32 (h.pc+4),0,0,0,0,u32 (h.reg i.rs1+i.imm),Fl i.op,Q8 (h.reg i.rs2) (Fl i.op),false,0⟩∧Cv m.length (u32 (h.reg i.rs1+i.imm)) (Fl i.op)=true:=by
 have ho:=Fh.1 hi
 unfold Ck at hs ⊢
 dsimp only at hs ⊢
 rw [if_neg (by omega),if_pos ho] at hs ⊢
 split at hs
 ·rename_i ht
  exact⟨if_pos ht,ht⟩
 ·cases hs
theorem Aep {i:Ins} (h:Ap) (m:List Int) (hi:(A0 i || Ba i)=true) (hs:(Ck i h m).state=0):(Ck i h m).next=u32 (h.pc+4):=by
 rw [Bool.or_eq_true] at hi
 rcases hi with hi | hi
 ·rw [(Na h m hi hs).1]
 ·have ho:=K6.1 hi
  unfold Ck at hs ⊢
  dsimp only at hs ⊢
  rw [if_neg (by omega),if_neg (by omega)] at hs ⊢
  by_cases h8:i.op=48
  ·rw [if_pos h8] at hs;cases hs
  ·rw [if_neg h8,if_pos (by omega)] at hs ⊢
   split at hs
   ·cases hs
   ·rename_i h1
    rw [if_neg h1] at *
    split at hs
    ·rename_i h2
     rw [if_pos h2]
    ·cases hs
theorem V4 {C:Core} {L:List Uop} {u:Uop} (hi:(A0 u.ins || Ba u.ins)=true) (hs:(Ab C L u).state=0):(Ab C L u).next=u32 (u.pc+4):=by
 have hl:¬ Bo u.ins=true:=by
  intro hl
  have h1:=D3.1 hl
  rw [Bool.or_eq_true] at hi
  rcases hi with hi | hi
  ·have:=Fh.1 hi;omega
  ·have:=K6.1 hi;omega
 unfold Ab at hs ⊢
 rw [if_neg hl] at hs ⊢
 exact Aep _ _ hi hs
theorem Abr {K:Ax} {u:Uop} (h:NOk K u) (hi:A0 u.ins=true):u.dest=0:=by
 by_cases hd:0<u.dest
 ·have hg:=(h.dst hd).1.1
  have:=Fh.1 hi
  unfold Bf at hg
  simp at hg
  omega
 ·exact(h.nodst (by omega)).1
theorem Ahr {C:Core} {K:Ax} {u:Uop} (hl:C.hart.regs.length=32) (h:NOk K u) (hc:u.cause=0) (h1:0≤u.ins.rs1∧u.ins.rs1≤31) (h2:0≤u.ins.rs2∧u.ins.rs2≤31):(Ed C u).reg u.ins.rs1=C.word u.a:=by
 obtain⟨e1,e2⟩:=h.src hc
 unfold Ed Ap.reg
 rw [Fb]
 by_cases e:u.ins.rs2.toNat=u.ins.rs1.toNat
 ·rw [if_pos ⟨e,by simp [hl];omega⟩]
  rw [e1,e2,e]
 ·rw [if_neg (by omega),Fb,if_pos ⟨rfl,by omega⟩]
theorem Ti {seq:Int}:∀ {P Q:List Slt},(∀ s∈P,s.seq≠seq)→Ih (P++⟨seq,false⟩::Q) seq=some (P++⟨seq,true⟩::Q)
 |[],Q,_=>by
  show(if (⟨seq,false⟩:Slt)=⟨seq,false⟩ then _ else _)=_
  rw [if_pos rfl]
  rfl
 |s::P,Q,h=>by
  show(if s=(⟨seq,false⟩:Slt) then _ else (Ih (P++⟨seq,false⟩::Q) seq).map (s::·))=_
  rw [if_neg (fun e=>h s (by simp) (by rw [e])),Ti (fun x hx=>h x (by simp [hx]))]
  rfl
theorem Wq (c:Core) (d w:Int):Dk c d w={ c with words:=if 0<d then c.words.set d.toNat w else c.words,there:=if 0<d then c.there.set d.toNat true else c.there }:=by
 unfold Dk
 split<;>rfl
theorem Sz {g:Uop→Acc} {L R:List Uop} {u:Uop} (hm:Bc u=true) (hg:∀ v,(g v).seq=v.seq) (hL:∀ v∈L,v.seq≠u.seq) (a:Acc) :
  (Jf (((L++u::R).filter Bc).map g) u.seq).toNat=(L.filter Bc).length∧(((L++u::R).filter Bc).map g).getD (L.filter Bc).length default=g u ∧
   (((L++u::R).filter Bc).map g).set (L.filter Bc).length a=(L.filter Bc).map g++a::(R.filter Bc).map g:=by
 have e:((L++u::R).filter Bc).map g=(L.filter Bc).map g++g u::(R.filter Bc).map g:=by
  rw [List.filter_append,List.filter_cons_of_pos hm,List.map_append,List.map_cons]
 have hlen:((L.filter Bc).map g).length=(L.filter Bc).length:=List.length_map _
 rw [e]
 refine⟨?_,?_,?_⟩
 ·unfold Jf
  rw [Xj (fun x:Acc=>decide (x.seq=u.seq)) _ (g u) _ 0 (fun x hx=>?_) (decide_eq_true (hg u)),hlen]
  ·omega
  ·obtain⟨v,hv,rfl⟩:=List.mem_map.1 hx
   exact decide_eq_false (by rw [hg];exact hL v (List.mem_filter.1 hv).1)
 ·rw [←hlen];simp [List.getD]
 ·rw [←hlen];simp
end Go.Proofs.YtapgojgcmlnbgaaGreatDoor
