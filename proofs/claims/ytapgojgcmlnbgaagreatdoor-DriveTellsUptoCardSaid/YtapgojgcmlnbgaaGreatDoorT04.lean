/- Parts of a proof. -/
import Derived.Test.YtapgojgcmlnbgaaGreatDoorTZ
import Derived.Test.YtapgojgcmlnbgaaGreatDoorT03
import Derived.Test.YtapgojgcmlnbgaaGreatDoorT00
import Derived.Test.YtapgojgcmlnbgaaGreatDoorProg
import Derived.WalkLawsBesides
import Derived.WalkSpells
import Derived.Lib.Hide
import Derived.WalkKit
import Derived.Maps.OwnSet
import Derived.Maps.OwnOps
import Derived.Test.YtapgojgcmlnbgaaGreatDoorT02
import Derived.Deep.RegionWith
import Derived.Outline
import Derived.Deep.Cut
set_option linter.unusedSimpArgs false
set_option linter.unusedVariables false
set_option maxRecDepth 100000
set_option maxHeartbeats 16000000
namespace Go.Proofs.YtapgojgcmlnbgaaGreatDoor
open Go Go.RowKit
def Bs (p:Plr) (vM vC:Value):Array Value:=(p.hart.cells.toList++[vM, .int .i64 p.window, .int .i64 p.phys, .int .i64 p.wide,vC]).toArray
section
variable {p:Plr} (hl:p.hart.regs.length=32) (vM vC:Value)
include hl
theorem Ir:p.hart.cells.toList.length=35:=by rw [M2];simp [hl]
theorem Q8:(Bs p vM vC).size=40:=by unfold Bs;simp [Ir hl,Aq.cells_size hl]
theorem Q4 {i:Nat} (hi:i<35):(Bs p vM vC)[i]? = p.hart.cells[i]? := by
 unfold Bs
 rw [List.getElem?_toArray,qQ (by rw [Ir hl];exact hi)]
 simp
theorem D7 (j:Nat):(Bs p vM vC)[35+j]? = [vM, .int .i64 p.window, .int .i64 p.phys, .int .i64 p.wide,vC][j]? := by
 unfold Bs
 rw [List.getElem?_toArray,qR (by rw [Ir hl];omega),Ir hl]
 simp
theorem Amg:(Bs p vM vC).extract 0 (0+35)=p.hart.cells:=by
 apply Array.toList_inj.1
 unfold Bs
 rw [Array.toList_extract]
 simp only [List.extract_eq_take_drop,List.drop_zero]
 exact List.take_left' (Ir hl)
theorem Aj1:(Bs p vM vC).extract 36 (36+3)=#[.int .i64 p.window, .int .i64 p.phys, .int .i64 p.wide]:=by
 apply Array.toList_inj.1
 unfold Bs
 rw [Array.toList_extract]
 simp only [List.extract_eq_take_drop]
 rw [List.drop_append,Ir hl,List.drop_of_length_le (by rw [Ir hl];omega)]
 rfl
theorem Ael (j:Nat) (v:Value):(Bs p vM vC).setIfInBounds (35+j) v=(p.hart.cells.toList++[vM, .int .i64 p.window, .int .i64 p.phys, .int .i64 p.wide,vC].set j v).toArray:=by
 unfold Bs
 rw [List.setIfInBounds_toArray,List.set_append_right _ _ (by rw [Ir hl];omega),Ir hl,Nat.add_sub_cancel_left]
theorem Abf (v:Value):(Bs p vM vC).setIfInBounds 35 v=Bs p v vC:=Ael hl vM vC 0 v
theorem Q6 (v:Value):(Bs p vM vC).setIfInBounds 39 v=Bs p vM v:=Ael hl vM vC 4 v
theorem Q7 {i:Nat} (hi:i<35) (v:Value) {h':Aq} (e:p.hart.cells.setIfInBounds i v=h'.cells):(Bs p vM vC).setIfInBounds i v=Bs { p with hart:=h' } vM vC:=by
 unfold Bs
 rw [List.setIfInBounds_toArray,List.set_append_left _ _ (by rw [Ir hl];exact hi),←e]
 simp
theorem Vk (a b c:Int):splice (Bs p vM vC) 36 [.int .i64 a, .int .i64 b, .int .i64 c]=Bs { p with window:=a,phys:=b,wide:=c } vM vC:=by
 unfold splice Bs
 simp only
 rw [List.take_append,List.drop_append,Ir hl,List.take_of_length_le (by rw [Ir hl];omega),List.drop_of_length_le (by rw [Ir hl];simp)]
 simp
end
theorem Gg {w:World} {b1 b2:Nat} {e1 e2:TypeId} {s1 s2:Nat} {v1 v2:Value} {n1 n2:Nat} {x1 x2:List Value} (h1:w.ownsRow b1 e1 s1 v1 n1 x1) (h2:w.ownsRow b2 e2 s2 v2 n2 x2) (he:e1≠e2):v1.ownBlock=none∨v1.ownBlock≠v2.ownBlock:=by
 rcases h1.2 with⟨rfl,_⟩ | ⟨g1,c1,cur1,rfl,_,hh1,_⟩
 ·exact Or.inl rfl
 ·rcases h2.2 with⟨rfl,_⟩ | ⟨g2,c2,cur2,rfl,_,hh2,_⟩
  ·right;intro h;cases h
  ·right
   intro h
   have hg:g1=g2:=by simpa [Value.ownBlock] using h
   subst hg
   rw [hh1] at hh2
   injection hh2 with hh2
   injection hh2 with _ hh2
   exact he hh2
theorem Aio {h:Aq} (hl:h.regs.length=32) (s:Int):h.cells.setIfInBounds 32 (.int .u32 s)=(⟨h.regs,s,h.state,h.cause⟩:Aq).cells:=by
 unfold Aq.cells
 simp [List.setIfInBounds_toArray,List.set_append,hl]
theorem Akf {h:Aq} {k:Nat} (hk:k<h.regs.length) (s:Int):h.cells.setIfInBounds k (.int .u32 s)=(⟨h.regs.set k s,h.pc,h.state,h.cause⟩:Aq).cells:=by
 unfold Aq.cells
 simp [List.setIfInBounds_toArray,List.set_append,hk,List.map_set]
structure Fi (p:Plr):Prop where
 hart:p.hart.Wf
 state:p.hart.state=0
 cause:p.hart.cause=0
 may:Ip p.hart=true
 mem:Bytes p.mem
 room:p.mem.length≤4096
 cho:∀ x∈p.choices,0≤x∧x≤4294967295
 many:p.choices.length≤4294967296
structure Ej (t:TypeId) (w:World) (g:Nat) (p:Plr) (vM vC:Value):Prop where
 box:Blk w g t (Bs p vM vC)
 mem:w.ownsRow (g+1) 5 1 vM p.mem.length (p.mem.map (.int .u8))
 cho:w.ownsRow (g+1) 3 1 vC p.choices.length (p.choices.map (.int .i64))
theorem Ej.ext {t:TypeId} {w w':World} {g:Nat} {p:Plr} {vM vC:Value} (h:Ej t w g p vM vC) (hb:Below w.heap.size w w'):Ej t w' g p vM vC:=
 ⟨h.box.ext hb,Du h.mem hb,Du h.cho hb⟩
end Go.Proofs.YtapgojgcmlnbgaaGreatDoor
namespace Go.Proofs.YtapgojgcmlnbgaaGreatDoor
open Go Go.RowKit
open Go.Lib (decDigits decDigits_length)
theorem Aes:(Tryz.prog.info? 5).map (fun i=>(i.zero,i.size,i.bytes))=some (some (.int .u8 0),1,1):=by kernel_rfl
theorem Iw (l:List Int):(l.flatMap Bb).length=4*l.length:=by
 induction l with
 |nil=>rfl
 |cons x l ih=>rw [List.flatMap_cons,qO,ih,List.length_cons];simp [Bb];omega
theorem V4 (l:List Int) (k:Nat) {x:Int} (h:l[k]? = some x):(l.take (k+1)).flatMap Bb=(l.take k).flatMap Bb++Bb x:=by
 rw [List.take_add_one,h,List.flatMap_append]
 simp
theorem Ah2 (w:World) (t:TypeId) (a b c d:Value):∀ ad,some (⟨w.heap.size,0,none⟩:Addr)=some ad→∀ j v,[a,b,c,d][j]? = some v→(w.alloc (.cells #[a,b,c,d] t)).cell? (ad.add j)=some v:=by
 intro ad h j v hj
 cases h
 rw [Addr.add_lit,Nat.zero_add,World.cell?_alloc_new]
 simpa using hj
def W0 (t:TypeId) (w:World) (g:Nat) (p:Plr) (vM vC:Value) (l:List Int) (e:Ending) (w':World):Prop:=
 Below g w w'∧((4096<p.mem.length+4*l.length∧e = .returned (sV Ly)∧Ej t w' g p vM vC) ∨
  (¬ 4096<p.mem.length+4*l.length∧e = .returned (sV (Dz okB [((p.mem++l.flatMap Bb).length:Int)]))∧∃ v,Ej t w' g { p with mem:=p.mem++l.flatMap Bb } v vC))
theorem Ag3 {B:Nat} (g:Nat) (p:Plr) (vM vC:Value) (v:Value) (l:List Int) (w:World) (V:Ig B w) (hB:B≤g) (hp:Fi p) (hP:Ej 59 w g p vM vC) (hl:l.length≤4294967296) (hr:∀ n∈l,0≤n∧n≤4294967295)
  (hA:w.ownsRow (g+1) 27 1 v l.length (l.map (.int .u32))) :
  Calls Tryz.prog 28 #[.pointer (some ⟨g,0,none⟩),v] w (W0 59 w g p vM vC l):=by
 obtain⟨Post,hPost⟩:∃ P,P=W0 59 w g p vM vC l:=⟨_,rfl⟩
 rw [←hPost]
 have HPO:=qA hPost
 clear hPost
 obtain⟨A,cap,rfl⟩:=Al hA
 obtain⟨AM,cM,rfl⟩:=Al hP.mem
 have hh:=hp.hart.len
 have c35:w.cell? ⟨g,35,none⟩=some (.slice AM p.mem.length cM):=(hP.box.cell 35).trans (D7 hh _ _ 0)
 have zg:=hP.box.lt
 have hroom:=hp.room
 by_cases hbig:4096<p.mem.length+4*l.length
 ·have f1:decide ((4096:Int)<(p.mem.length:Int)+4*(l.length:Int))=true:=qF (by omega)
  have HH:=qA (qL hbig hP)
  clear hbig hP hp
  go_enter Tryz.func28,Tryz.ntmps28
  go_wp2_with(fail)
  rw [HPO.out]
  exact⟨qB _ _,Or.inl ⟨HH.out.1,rfl,HH.out.2⟩⟩
 ·have f1:decide ((4096:Int)<(p.mem.length:Int)+4*(l.length:Int))=false:=qG (by omega)
  obtain⟨i0,hi,hz0,hz1,hz2⟩:=info_parts Aes
  have HBIG:=qA hbig
  have HR:=qA hr
  have HP0:=qA (qL hP hA)
  clear hP hA hr hbig
  go_enter Tryz.func28,Tryz.ntmps28
  go_wp2_with(fail)
  clear f1 c35
  go_loopw [19] (fun v19 wr=>∃ (k:Nat) (vM:Value),v19 = .int .i64 k∧k≤l.length∧Below g w wr∧Hid (Ej 59 wr g { p with mem:=p.mem++(l.take k).flatMap Bb } vM vC∧wr.ownsRow (g+1) 27 1 (.slice A l.length cap) l.length (l.map (.int .u32)))) (fun v _=>l.length - (intOf v).toNat)
  case atStart=>exact⟨0,_,rfl,Nat.zero_le _,qB _ _,qA ⟨by simpa using HP0.out.1,HP0.out.2⟩⟩
  case round=>
   clear HP0
   obtain⟨k,vM,rfl,hk,hb,HP⟩:=hrel
   obtain⟨AM,cM,rfl⟩:=Al HP.out.1.mem
   have hbz:=hb.size
   by_cases hlt:k<l.length
   ·obtain⟨x,hx⟩:∃ x,l[k]? = some x:=⟨l[k],by simp [hlt]⟩
    have hxb:=HR.out x (List.mem_of_getElem? hx)
    obtain⟨b,o,rfl,hbB,hc⟩:=(Ar.own HP.out.2) (by intro e;simp [e] at hlt)
    have hck:=hc k x hx
    have c35:=(HP.out.1.box.cell 35).trans (D7 (p:={ p with mem:=p.mem++(l.take k).flatMap Bb }) hh _ _ 0)
    have hlen:(p.mem++(l.take k).flatMap Bb).length=p.mem.length+4*k:=by rw [qO,Iw,List.length_take,Nat.min_eq_left hk]
    have HL:=qA hlen
    have HX:=qA (V4 l k hx)
    obtain⟨u,rfl⟩:=qH hxb.1
    have hmem:=HP.out.1.mem
    dsimp only at c35 hmem
    rw [hlen] at c35 hmem
    have HM:=qA hmem
    have hb4:(Bb (u:Int)).map (Value.int .u8)=[.int .u8 ((u:Int)%256), .int .u8 ((u:Int) / 256%256), .int .u8 ((u:Int) / 65536%256), .int .u8 ((u:Int) / 16777216)]:=by
     unfold Bb
     rw [show(u:Int) / 16777216%256=(u:Int) / 16777216 by omega]
     rfl
    have HB4:=qA hb4
    have hk4:p.mem.length+4*k+4≤4096:=by have:=HBIG.out;omega
    clear hc hx hmem hb4 hlen
    go_wp2_with(first
     |(at_builtin;go_loud (refine B0 rfl (.tmp 27) (.tmp 39) 31 rfl (g+1) 5 i0 _ 1 1 Tryz.underlying31 hi hz0 hz1 hz2 rfl (by decide) (.slice AM (p.mem.length+4*k) cM) (p.mem.length+4*k) _ rfl (HM.out.alloc _) (some ⟨wr.heap.size,0,none⟩) 4 4 [.int .u8 ((u:Int)%256), .int .u8 ((u:Int) / 256%256), .int .u8 ((u:Int) / 65536%256), .int .u8 ((u:Int) / 16777216)] rfl rfl (fun h=>by cases h) (Ah2 wr _ _ _ _ _) (by simp;exact⟨rfl,rfl,rfl,rfl⟩) (by unfold maxLen;omega) (by omega) (by have:=HP.out.1.box.lt;simp;omega) ?_;intro v7 w7 hown7 hg7;obtain⟨A7,c7,rfl⟩:=Al hown7;have hbx7:=(HP.out.1.box.alloc (.cells #[.int .u8 ((u:Int)%256), .int .u8 ((u:Int) / 256%256), .int .u8 ((u:Int) / 65536%256), .int .u8 ((u:Int) / 16777216)] 5)).grown hg7 (fun e=>by have:=(HM.out.lt g e.symm).1;omega);have c357:w7.cell? ⟨g,35,none⟩=some (.slice AM (p.mem.length+4*k) cM):=(hbx7.cell 35).trans ((HP.out.1.box.cell 35).symm.trans c35);have f357:=hbx7.frozen 35)))
    have hbg:Below g w w7:=(hb.alloc (by omega) _).grown hg7 (by simp;omega) (fun q hq=>by have:=(HM.out.lt q hq).1;omega)
    have hown8:=ownsRow_setCell_below hown7 (a:=⟨g,35,none⟩) (Nat.lt_succ_self g) (.slice A7 (p.mem.length+4*k+4) c7)
    have hcho:=(HP.out.1.cho.alloc (.cells #[.int .u8 ((u:Int)%256), .int .u8 ((u:Int) / 256%256), .int .u8 ((u:Int) / 65536%256), .int .u8 ((u:Int) / 16777216)] 5)).kept hg7 (Gg (HP.out.1.cho.alloc _) (HM.out.alloc (.cells #[] 5)) (by decide))
    have hl8:=ownsRow_setCell_below ((HP.out.2.alloc (.cells #[.int .u8 ((u:Int)%256), .int .u8 ((u:Int) / 256%256), .int .u8 ((u:Int) / 65536%256), .int .u8 ((u:Int) / 16777216)] 5)).kept hg7 (Gg (HP.out.2.alloc _) (HM.out.alloc (.cells #[] 5)) (by decide))) (a:=⟨g,35,none⟩) (Nat.lt_succ_self g) (.slice A7 (p.mem.length+4*k+4) c7)
    have hc8:=ownsRow_setCell_below hcho (a:=⟨g,35,none⟩) (Nat.lt_succ_self g) (.slice A7 (p.mem.length+4*k+4) c7)
    have hx8:=hbx7.set 35 (.slice A7 (p.mem.length+4*k+4) c7)
    rw [Abf (p:={ p with mem:=p.mem++(l.take k).flatMap Bb }) hh] at hx8
    have e1:(p.mem++(l.take (k+1)).flatMap Bb)=(p.mem++(l.take k).flatMap Bb)++Bb (u:Int):=by rw [HX.out,List.append_assoc]
    have e2:(p.mem++(l.take (k+1)).flatMap Bb).length=p.mem.length+4*k+4:=by rw [e1,qO,HL.out];rfl
    have hm8:(w7.setCell ⟨g,35,none⟩ (.slice A7 (p.mem.length+4*k+4) c7)).ownsRow (g+1) 5 1 (.slice A7 (p.mem.length+4*k+4) c7) (p.mem++(l.take (k+1)).flatMap Bb).length ((p.mem++(l.take (k+1)).flatMap Bb).map (.int .u8)):=by
     rw [e2,e1,List.map_append,HB4.out]
     exact hown8
    go_roundw
    case rel=>exact⟨k+1,_,by go_num,by omega,hbg.setCell (qC g) _,qA ⟨⟨hx8,hm8,hc8⟩,hl8⟩⟩
    case measure=>simp [intOf];omega
   ·obtain rfl:k=l.length:=by omega
    have e1:decide ((l.length:Int)<l.length)=false:=by simp
    have hP:=HP.out.1
    rw [List.take_length] at hP
    have hlen:(p.mem++l.flatMap Bb).length=p.mem.length+4*l.length:=by rw [qO,Iw]
    have c35:=(hP.box.cell 35).trans (D7 (p:={ p with mem:=p.mem++l.flatMap Bb }) hh _ _ 0)
    have hbig:=HBIG.out
    have hbw:=hb.size
    have zg2:=hP.box.lt
    have CI:=qA (fun W A (hW:Below g w W) (hS:w.heap.size≤W.heap.size) (hA:Ar W W.heap.size .i64 A [((p.mem++l.flatMap Bb).length:Int)])=>N2 okB A [((p.mem++l.flatMap Bb).length:Int)] 1 W (V.ext (hW.mono hB)) (qD hB (by omega)) (by simp) (by simp [okB]) (by simp only [List.mem_singleton];rintro n rfl;omega) hA)
    have HPP:=qA hP
    dsimp only at c35
    clear hP HP
    generalize hN:(p.mem++l.flatMap Bb).length=N at c35 CI HPO
    have HN:=qA hN
    clear hN hlen
    have hN2:N≤4096:=by have h1:=HN.out;rw [qO,Iw] at h1;omega
    clear hbig
    go_wp2_with(go_at_call 49;(refine(CI.out _ _ (hb.alloc (by omega) _) (by simp;omega) (Ct [(N:Int)] (Blk.new wr _ _))).mono ?_);rintro e w5 ⟨rfl,hb5⟩)
    rw [HPO.out]
    have hb9:Below wr.heap.size wr w5:=((qB _ _).alloc (qC _) _).trans (hb5.mono (by simp))
    exact⟨hb.trans (hb9.mono (by omega)),Or.inr ⟨HBIG.out,by rw [HN.out];rfl,_,HPP.out.ext hb9⟩⟩
end Go.Proofs.YtapgojgcmlnbgaaGreatDoor
namespace Go.Proofs.YtapgojgcmlnbgaaGreatDoor
open Go.RowKit
theorem Pj:(Tryz.prog.info? 3).map (fun i=>(i.zero,i.size,i.bytes))=some (some (.int .i64 0),1,8):=by kernel_rfl
theorem I1 (A:Option Addr) (n cap:Nat) (cs:List Value) (w:World) (hl:n*8≤140737488355328) (hlen:cs.length=n*1) (h1:∀ u∈cs,u.oneCell'=true)
  (hc:∀ ad,A=some ad→∀ j u,cs[j]? = some u→w.cell? (ad.add j)=some u) (hnil:A=none→n=0) :
  Calls Tryz.prog 92 #[.slice A n cap] w fun e w'=>∃ v,e = .returned v∧w'.ownsRow w.heap.size 3 1 v n cs∧Below w.heap.size w w':=by
 rcases A with _ | ad
 ·obtain rfl:=hnil rfl
  obtain rfl:cs=[]:=qN (by simpa using hlen)
  have hn:=Lib.run_eql_slice_nil (P:=Tryz.prog) w 32 3 none 0 cap 0 0 Tryz.underlying32
  go_enter Tryz.func92,Tryz.ntmps92
  go_wp2
  go_ret
  exact⟨_,rfl,qT _ _ _ _,qB _ _⟩
 ·have hn:=Lib.run_eql_slice_nil (P:=Tryz.prog) w 32 3 (some ad) n cap 0 0 Tryz.underlying32
  obtain⟨i0,hi,hz0,hz1,hz2⟩:=info_parts Pj
  have Hc:=qA (hc ad rfl)
  clear hc hnil
  have hown0:=World.ownsRow_lit (base:=w.heap.size) (e:=3) (size:=1) w #[] 0 (qC _) (by unfold maxLen;omega) rfl
  go_enter Tryz.func92,Tryz.ntmps92
  go_wp2_with(at_builtin;refine wpList_append_own _ rfl (.tmp 5) (.tmp 6) 32 rfl w.heap.size 3 i0 _ 1 8 Tryz.underlying32 hi hz0 hz1 hz2 rfl (by decide) _ 0 [] rfl hown0 ad n cap cs rfl hlen (fun j u hu=>(World.cell?_alloc_lt _ _ _ (World.block_lt_of_cell? _ _ (Hc.out j u hu))).trans (Hc.out j u hu)) h1 (by unfold maxLen;omega) (by omega) (by simp) ?_;intro v1 w1 hown1 hg1 hat1)
  go_ret
  refine⟨v1,rfl,by simpa using hown1,((qB _ _).alloc (qC _) _).grown hg1 (by simp) (fun k hk=>?_)⟩
  cases hk
  exact qC _
end Go.Proofs.YtapgojgcmlnbgaaGreatDoor
namespace Go.Proofs.YtapgojgcmlnbgaaGreatDoor
open Go Go.Maps
def OwnSet (w:World) (P:Program) (k e:TypeId) (b n:Nat) (S:List Int):Prop:=
 ∃ D:DataW Unit,w.ownsMap P k (plainElem P e) b n D∧IsMap D∧∀ x:Int,D.atKey (.int .i64 x) (.lit (.bool false)) = .lit (.bool (S.contains x))
section
variable {P:Program} {k e:TypeId} {b n:Nat} {S:List Int} {w:World}
theorem OwnSet.lt (h:OwnSet w P k e b n S):b<w.heap.size:=by
 obtain⟨D,h1,_⟩:=h
 exact h1.lt
theorem OwnSet.made (w:World) (P:Program) (k e:TypeId):OwnSet (w.alloc (.map #[] 0)) P k e w.heap.size 0 []:=
 ⟨.map [],World.ownsMap_made w P k _,isMap_empty,fun _=>rfl⟩
theorem OwnSet.mono (h:OwnSet w P k e b n S) {n':Nat} (hn:n≤n'):OwnSet w P k e b n' S:=by
 obtain⟨D,h1,h2⟩:=h
 exact⟨D,h1.mono hn,h2⟩
theorem OwnSet.kept {w':World} {row:Option Nat} (h:OwnSet w P k e b n S) (hg:w.grownBy w' row) (hne:some b≠row):OwnSet w' P k e b n S:=by
 obtain⟨D,h1,h2⟩:=h
 exact⟨D,h1.kept hg hne,h2⟩
theorem OwnSet.alloc (h:OwnSet w P k e b n S) (o:Obj):OwnSet (w.alloc o) P k e b n S:=h.kept (World.grownBy_alloc w o none) (by simp)
theorem OwnSet.setCell (h:OwnSet w P k e b n S) {p:Addr} (hp:b≠p.block) (u:Value):OwnSet (w.setCell p u) P k e b n S:=by
 obtain⟨D,⟨es,clock,hb,h1⟩,h2⟩:=h
 refine⟨D,⟨es,clock,?_,h1⟩,h2⟩
 have:=RowKit.Below.heap_setCell w p u b hp
 rw [this]
 exact hb
theorem OwnSet.look {t:TypeId} (h:OwnSet w P k e b n S) (hk:P.underlying k=some (.int .i64)) (ht:P.underlying t=some (.map k e)) (he:P.underlying e=some .bool) (hz:(zeroValue e).run P w = .ok (.bool false) w)
  (x:Int) (hw:(Lit.int .i64 x).wf=true):(Instr.lookup t (.map (some b)) (.int .i64 x) false).run P w = .ok (.bool (S.contains x)) w:=by
 obtain⟨D,h1,_,h3⟩:=h
 obtain⟨v,ps,hrun,hv⟩:=h1.lookup (int_keyed hk) ht hz (plainElem_bool he false) (keyOf_int_mk hk hw)
 rw [h3] at hv
 unfold plainElem at hv
 rw [he] at hv
 cases v<;>simp at hv
 rw [hrun,hv.1]
 simp
theorem OwnSet.put {t:TypeId} (h:OwnSet w P k e b n S) (hk:P.underlying k=some (.int .i64)) (ht:P.underlying t=some (.map k e)) (he:P.underlying e=some .bool) (hn:n<maxLen)
  (x:Int) (hw:(Lit.int .i64 x).wf=true):∃ w',(Instr.mapUpdate t (.map (some b)) (.int .i64 x) (.bool true)).run P w = .ok () w'∧OwnSet w' P k e b (n+1) (x::S)∧w.grownBy w' (some b):=by
 obtain⟨D,h1,h2,h3⟩:=h
 obtain⟨w',hrun,r1,r2⟩:=h1.update (int_keyed hk) ht hn (keyOf_int_mk hk hw) (plainElem_bool he true)
 refine⟨w',hrun,⟨_,r1,h2.put _ _,fun y=>?_⟩,r2⟩
 by_cases hy:y=x
 ·subst hy
  rw [atKey_put_same h2 (by simp [WideAt.IsKeyLit])]
  simp
 ·rw [atKey_put_other (by intro hh;injection hh with _ hh;exact hy hh),h3]
  simp [hy]
end
end Go.Proofs.YtapgojgcmlnbgaaGreatDoor
namespace Go.Proofs.YtapgojgcmlnbgaaGreatDoor
open Go
def okL (phys:Int):List Int→List Int→Bool
 |_,[]=>true
 |had,p::l=>if p<0∨phys≤p∨p∈had then false else okL phys (p::had) l
def Zb (phys:Int):Bool:=decide (33≤phys∧phys≤96)
def Nc (phys:Int) (l:List Int):Bool:=okL phys [] l&&Zb phys
theorem Aej (phys:Int):∀ (l had:List Int),okL phys had l=true↔(∀ p∈l,0≤p∧p<phys∧p ∉ had)∧l.Nodup
 |[],had=>by simp [okL]
 |p::l,had=>by
  unfold okL
  by_cases h:p<0∨phys≤p∨p∈had
  ·rw [if_pos h]
   simp only [Bool.false_eq_true,false_iff]
   intro⟨h1,_⟩
   have:=h1 p (by simp)
   rcases h with h | h | h
   ·omega
   ·omega
   ·exact this.2.2 h
  ·rw [if_neg h,Aej phys l (p::had),List.nodup_cons]
   have h':0≤p∧p<phys∧p ∉ had:=⟨by omega,by omega,fun x=>h (Or.inr (Or.inr x))⟩
   constructor
   ·rintro⟨h1,h2⟩
    refine⟨fun q hq=>?_,?_,h2⟩
    ·rcases List.mem_cons.1 hq with rfl | hq
     ·exact h'
     ·have:=h1 q hq
      exact⟨this.1,this.2.1,fun x=>this.2.2 (by simp [x])⟩
    ·intro hp
     exact(h1 p hp).2.2 (by simp)
   ·rintro⟨h1,h2,h3⟩
    refine⟨fun q hq=>?_,h3⟩
    have:=h1 q (by simp [hq])
    refine⟨this.1,this.2.1,fun x=>?_⟩
    rcases List.mem_cons.1 x with rfl | x
    ·exact h2 hq
    ·exact this.2.2 x
theorem J6 (phys:Int) (l:List Int):Nc phys l=true↔((∀ p∈l,0≤p∧p<phys)∧l.Nodup)∧33≤phys∧phys≤96:=by
 unfold Nc Zb
 rw [Bool.and_eq_true,Aej,decide_eq_true_eq]
 simp
open Classical in
theorem set_perm (regs rest:List Int) (p:Int) (rd:Nat) (h:rd<regs.length):(regs++p::rest).Perm (regs.getD rd 0::(regs.set rd p++rest)):=by
 have e:regs.getD rd 0=regs[rd]:=by simp [List.getD,qI h]
 rw [e,List.set_eq_take_append_cons_drop,if_pos h]
 have h1:regs=regs.take rd++regs[rd]::regs.drop (rd+1):=by
  rw [←qM h,List.take_append_drop]
 generalize regs[rd]=x at h1 ⊢
 generalize regs.take rd=A at h1 ⊢
 generalize regs.drop (rd+1)=B at h1 ⊢
 subst h1
 rw [List.append_assoc,List.append_assoc]
 refine List.perm_middle.trans (List.Perm.cons _ ?_)
 refine List.Perm.append_left _ ?_
 exact List.perm_middle
theorem Abc {phys:Int} {l l':List Int} (hp:l.Perm l'):Nc phys l=Nc phys l':=by
 rw [Bool.eq_iff_iff,J6,J6,hp.nodup_iff]
 constructor
 ·rintro⟨⟨h1,h2⟩,h3⟩
  exact⟨⟨fun p h=>h1 p (hp.mem_iff.2 h),h2⟩,h3⟩
 ·rintro⟨⟨h1,h2⟩,h3⟩
  exact⟨⟨fun p h=>h1 p (hp.mem_iff.1 h),h2⟩,h3⟩
theorem Abb {phys p:Int} {l:List Int}:Nc phys (p::l)=true↔Nc phys l=true∧(0≤p∧p<phys)∧p ∉ l:=by
 rw [J6,J6,List.nodup_cons]
 constructor
 ·rintro⟨⟨h1,h2,h3⟩,h4⟩
  exact⟨⟨⟨fun q hq=>h1 q (by simp [hq]),h3⟩,h4⟩,h1 p (by simp),h2⟩
 ·rintro⟨⟨⟨h1,h2⟩,h3⟩,h4,h5⟩
  refine⟨⟨fun q hq=>?_,h5,h2⟩,h3⟩
  rcases List.mem_cons.1 hq with rfl | hq
  ·exact h4
  ·exact h1 q hq
theorem Va {phys p:Int} {regs rest:List Int} {rd:Nat} (hrd:rd<regs.length) (h:Nc phys (regs++p::rest)=true) :
  Nc phys (regs.set rd p++rest)=true∧(0≤regs.getD rd 0∧regs.getD rd 0<phys)∧regs.getD rd 0 ∉ regs.set rd p++rest:=by
 rw [Abc (set_perm regs rest p rd hrd),Abb] at h
 exact h
theorem Ah6 {phys p:Int} {regs free:List Int} (h:Nc phys (regs++free)=true) (hp:0≤p∧p<phys) (hn:p ∉ regs++free):Nc phys (regs++(free++[p]))=true:=by
 rw [←List.append_assoc,Abc (l':=p::(regs++free)) (by simpa using List.perm_append_comm (l₁:=regs++free) (l₂:=[p])),Abb]
 exact⟨h,hp,hn⟩
def Ia:List Int:=(List.range 32).map Int.ofNat
def H7 (n:Nat):List Int:=(List.range n).map fun k=>((32+k:Nat):Int)
theorem Adc (n:Nat):Ia++H7 n=(List.range (32+n)).map Int.ofNat:=by
 unfold Ia H7
 rw [List.range_add,List.map_append,List.map_map]
 rfl
theorem Ajq (n:Nat) (h1:1≤n) (h2:n≤64):Nc ((32+n:Nat):Int) (Ia++H7 n)=true:=by
 rw [Adc,J6]
 refine⟨⟨fun p hp=>?_,?_⟩,by omega⟩
 ·obtain⟨k,hk,rfl⟩:=List.mem_map.1 hp
  have:=List.mem_range.1 hk
  show 0≤(k:Int)∧(k:Int)<_
  omega
 ·refine List.Pairwise.map _ (fun a b hab=>?_) (List.nodup_range (n:=32+n))
  intro h
  exact hab (Int.ofNat.inj h)
structure Ax where
 phys:Int
 regs:List Int
 free:List Int
 deriving DecidableEq
def Ax.zero:Ax:=⟨0,List.replicate 32 0,[]⟩
def Ax.all (m:Ax):List Int:=m.regs++m.free
def Ax.may (m:Ax):Bool:=Nc m.phys m.all
def Gy (m:Ax) (p:Int):Bool:=m.may&&(decide (0≤p)&&decide (p<m.phys)&&!decide (p∈m.all))
def Ws (phys:Int):Option Ax:=if 33≤phys∧phys≤96 then some ⟨phys,Ia,H7 (phys - 32).toNat⟩ else none
def M4 (m:Ax) (rd:Int):Option (Ax×Int×Int):=
 match m.free with
 |[]=>none
 |p::f=>if m.may=true∧1≤rd∧rd≤31 then some (⟨m.phys,m.regs.set rd.toNat p,f⟩,p,m.regs.getD rd.toNat 0) else none
def Lk (m:Ax) (p:Int):Option Ax:=if Gy m p=true then some ⟨m.phys,m.regs,m.free++[p]⟩ else none
def M6 (m:Ax) (rd old:Int):Option Ax:=if Gy m old=true∧1≤rd∧rd≤31 then some ⟨m.phys,m.regs.set rd.toNat old,m.regs.getD rd.toNat 0::m.free⟩ else none
end Go.Proofs.YtapgojgcmlnbgaaGreatDoor
namespace Go.Proofs.YtapgojgcmlnbgaaGreatDoor
open Go.RowKit
def Ag (phys:Int) (regs:List Int) (A:Option Addr) (n cap:Nat):Array Value:=(.int .i64 phys::(regs.map (.int .i64)++[.slice A n cap])).toArray
theorem B3 (phys:Int) (regs:List Int) (A:Option Addr) (n cap:Nat) (h:regs.length=32):(Ag phys regs A n cap).size=34:=by simp [Ag,h]
theorem U9 (phys:Int) (regs:List Int) (A:Option Addr) (n cap:Nat):(Ag phys regs A n cap)[0]? = some (.int .i64 phys):=rfl
theorem Eh (phys:Int) (regs:List Int) (A:Option Addr) (n cap:Nat) {i:Nat} (h:i<regs.length):(Ag phys regs A n cap)[1+i]? = some (.int .i64 (regs.getD i 0)):=by
 unfold Ag
 rw [List.getElem?_toArray,Nat.add_comm 1 i,List.getElem?_cons_succ,qQ (by simpa using h),List.getElem?_map]
 simp [List.getD,qI h]
theorem D4 (phys:Int) (regs:List Int) (A:Option Addr) (n cap:Nat) (h:regs.length=32):(Ag phys regs A n cap)[33]? = some (.slice A n cap):=by
 unfold Ag
 rw [List.getElem?_toArray,List.getElem?_cons_succ,qR (by simp [h])]
 simp [h]
theorem Xl (m:List Int) (i j:Nat) (x:Int):(m.set i x).getD j 0=if i=j∧i<m.length then x else m.getD j 0:=by
 simp only [List.getD]
 by_cases h:i=j
 ·subst h
  by_cases h2:i<m.length
  ·rw [List.getElem?_set_self h2,if_pos ⟨rfl,h2⟩];rfl
  ·rw [if_neg (by omega),List.getElem?_eq_none (by simp;omega),List.getElem?_eq_none (by omega)]
 ·rw [List.getElem?_set_ne h,if_neg (by omega)]
theorem Gn (phys:Int) (regs:List Int) (A A':Option Addr) (n cap n' cap':Nat) (k:Nat) (p:Int) (h:regs.length=32) (hk:k<32) :
  ((Ag phys regs A n cap).setIfInBounds (1+k) (.int .i64 p)).setIfInBounds 33 (.slice A' n' cap')=Ag phys (regs.set k p) A' n' cap':=by
 apply Array.ext_getElem?
 intro i
 have hs:=B3 phys regs A n cap h
 have hs':(regs.set k p).length=32:=by simp [h]
 rw [Array.getElem?_setIfInBounds,Array.getElem?_setIfInBounds]
 simp only [Array.size_setIfInBounds,hs]
 by_cases h33:33=i
 ·subst h33
  rw [if_pos rfl,if_pos (by omega),D4 _ _ _ _ _ hs']
 rw [if_neg h33]
 rcases(show i=0∨(∃ j,j<32∧i=1+j)∨34≤i by rcases Nat.lt_or_ge i 1 with h1 | h1;left;omega;rcases Nat.lt_or_ge i 33 with h2 | h2;exact Or.inr (Or.inl ⟨i - 1,by omega,by omega⟩);right;right;omega) with rfl | ⟨j,hj,rfl⟩ | h34
 ·rw [if_neg (by omega)];rfl
 ·rw [show(Ag phys (regs.set k p) A' n' cap')[1+j]? = _ from Eh phys (regs.set k p) A' n' cap' (by rw [hs'];exact hj),Xl]
  by_cases hkj:k=j
  ·subst hkj
   rw [if_pos rfl,if_pos (by omega),if_pos (by omega)]
  ·rw [if_neg (by omega),if_neg (by omega),Eh _ _ _ _ _ (by rw [h];exact hj)]
 ·rw [if_neg (by omega),Array.getElem?_eq_none (by rw [hs];exact h34),Array.getElem?_eq_none (by rw [B3 _ _ _ _ _ hs'];exact h34)]
theorem Zp {n:Int} (h0 : -9223372036854775808≤n) (h1:n≤9223372036854775807):(Lit.int .i64 n).wf=true:=by simp only [Lit.wf,Bool.and_eq_true,decide_eq_true_eq];exact⟨h0,h1⟩
theorem Oj:(Tryz.prog.info? 3).map (fun i=>(i.zero,i.size,i.bytes))=some (some (.int .i64 0),1,8):=by kernel_rfl
theorem W8 (w:World):(zeroValue 4).run Tryz.prog w = .ok (.bool false) w:=by rfl
theorem Aib (phys:Int) (had:List Int) (l:List Int) (k:Nat) (hk:k<l.length):okL phys had (l.drop k)=if l.getD k 0<0∨phys≤l.getD k 0∨l.getD k 0∈had then false else okL phys (l.getD k 0::had) (l.drop (k+1)):=by
 rw [qM hk]
 have:l.getD k 0=l[k]:=by simp [List.getD,qI hk]
 rw [this]
 rfl
theorem Ab4 (phys:Int) (regs free:List Int) (A:Option Addr) (cap:Nat) (w:World) (hp0 : -9223372036854775808≤phys) (hp1:phys≤9223372036854775807) (hr:regs.length=32) (hl:free.length≤17592186044000) (hA:Ar w w.heap.size .i64 A free) (hnil:A=none→free=[]∧cap=0)
  (hwf:∀ x∈regs++free,-9223372036854775808≤x∧x≤9223372036854775807) :
  Calls Tryz.prog 132 #[.agg (Ag phys regs A free.length cap)] w fun e w'=>∃ v,e = .returned (.tuple #[v, .bool (Nc phys (regs++free))])∧Below w.heap.size w w' ∧
   (Nc phys (regs++free)=true→∃ b n S,v = .map (some b)∧OwnSet w' Tryz.prog 3 4 b n S∧∀ x:Int,S.contains x=(regs++free).contains x):=by
 obtain⟨l,hL⟩:∃ l,l=regs++free:=⟨_,rfl⟩
 rw [←hL] at hwf ⊢
 have hs:=B3 phys regs A free.length cap hr
 have hf:=D4 phys regs A free.length cap hr
 have h0:=U9 phys regs A free.length cap
 have hrg:∀ j u,(regs.map (Value.int .i64))[j]? = some u→(Ag phys regs A free.length cap)[1+j]? = some u:=fun j u hu=>by
  have hj:j<regs.length:=by have:=(qJ.1 hu).1;simpa using this
  rw [Eh phys regs A free.length cap hj]
  rw [List.getElem?_map,qI hj] at hu
  simp [List.getD,qI hj] at hu ⊢
  exact hu
 have hcl:=fun W B C D=>I1 (some ⟨w.heap.size,1,none⟩) 32 32 (regs.map (Value.int .i64)) W B (by simp [hr]) (Fv _) C D
 generalize Ag phys regs A free.length cap=cs at *
 have Hrg:=qA hrg
 have Hcl:=qA hcl
 have HA:=qA hA
 have hmm:=@run_makeMap Tryz.prog
 clear hrg hcl hA
 go_enter Tryz.func132,Tryz.ntmps132
 go_upto_region 2 with(fail)
 go_simp
 refine A1 fun wa hq=>?_
 have hB:Blk wa w.heap.size 79 cs:=by rw [hq];exact(Blk.new w _ _).alloc _
 have hM:OwnSet wa Tryz.prog 3 4 (w.heap.size+1) 0 []:=by rw [hq];have h:=OwnSet.made (w.alloc (.cells cs 79)) Tryz.prog 3 4;simpa using h
 have hb:Below w.heap.size w wa:=by rw [hq];exact((qB _ _).alloc (qC _) _).alloc (by simp) _
 have hz:wa.heap.size=w.heap.size+2:=by rw [hq];simp
 clear hq
 refine Ad 203 16 219 [0,1,3,4,7,2,5,6] (by kernel_rfl) (by kernel_rfl) (by kernel_rfl) rfl ?_
 repeat'(first
  |refine rZ ?_
  |(refine' oR _ (by decide) (by decide) (by decide) (fun wq hwq K hK=>?_) ?_ ?_;rotate_left 1;(· have hc33:=(hB.ext hwq).cell 33;rw [hf] at hc33;go_wp2_with(fail);all_goals exact hK);rfl)
  |fail)
 refine oB (fun w1 hw1 K1 hK1=>?_)
 subst hw1
 have hBd:=hB.ext (qB _ _).drew
 go_wp2_with(go_at_call 92;(with_reducible refine(Hcl.out _ (by decide) ?_ ?_).mono ?_);(intro ad had j u hu;obtain rfl:=qK had;(rw [Addr.add_lit,hBd.cell];exact Hrg.out j u hu));(intro h;cases h);rintro e w2 ⟨v2,rfl,hown2,hb2⟩)
 refine hK1 _ _ ((qB _ _).drew.trans (hb2.mono (qC _))) ?_
 clear hK1 K1
 simp only [Act.put,sA,sS,sZ]
 have hnews:∀ ad,A=some ad→∀ j u,(free.map (Value.int .i64))[j]? = some u→w2.cell? (ad.add j)=some u:=by
  have h1:=(((HA.out.below hb).mono (show w.heap.size≤wa.heap.size by omega)).below ((qB _ _).drew.trans (hb2.mono (qC _)))).cells
  exact h1
 obtain⟨i0,hi,hz0,hz1,hz2⟩:=info_parts Oj
 refine oQ rfl rfl ?_
 refine oB (fun w1 hw1 K hK=>?_)
 subst hw1
 refine Fw (.tmp 10) (.tmp 12) 32 rfl wa.drew.heap.size 3 i0 _ 1 8 Tryz.underlying32 hi hz0 hz1 hz2 rfl (by decide) v2 32 _ rfl hown2 A free.length cap (free.map (.int .i64)) rfl (by simp) (fun h=>by have:=hnil h;simp [this]) hnews (Fv _) (by unfold maxLen;omega) (by omega) hb2.size ?_
 intro v3 w3 hown3 hg3
 have hsz2:=hb2.size
 have hb3:Below wa.heap.size wa w3:=(((qB _ _).drew.trans (hb2.mono (qC _)))).grown hg3 hsz2 (fun k hk=>(hown2.lt k hk).1)
 refine hK _ _ hb3 ?_
 simp only [Act.put,sA,sS,sZ]
 rw [←List.map_append,←hL] at hown3
 obtain⟨g,cap3,cur,rfl,hgb,hG,hcur⟩:=Ajz hown3 (by omega)
 refine rO ?_
 refine Aj ?_
 rintro w4 rfl
 replace hB:=hB.ext hb3
 replace hM:=hM.kept (Cg hb3) (by simp)
 have hgz:wa.heap.size≤g:=hgb
 replace hb:=hb.trans (hb3.mono hb.size)
 clear hown2 hown3 hg3 hb3 hgb hK K hBd hsz2 hb2 hnews i0 hi hz0 hz1 hz2
 have hll:l.length=32+free.length:=by rw [hL];simp [hr]
 generalize hX:okL phys [] l=X
 have HX:Hid (okL phys [] (l.drop 0)=X):=qA hX
 have Hm:=qA (show Nc phys l=(X&&Zb phys) by unfold Nc;rw [hX])
 have Hcur:=qA hcur
 have Hwf:=qA hwf
 have Hll:=qA hll
 clear hX hcur hwf hll hL
 go_wp2_with(fail)
 go_loopw [15] (fun v wr=>∃ (k:Nat) (S:List Int),v = .int .i64 k∧k≤32+free.length∧Below w.heap.size w wr∧OwnSet wr Tryz.prog 3 4 (w.heap.size+1) k S∧Hid (∀ x:Int,S.contains x=(l.take k).contains x)∧Blk wr w.heap.size 79 cs∧Blk wr g 3 cur∧Hid (okL phys S (l.drop k)=X)) (fun v _=>32+free.length+1 - (intOf v).toNat)
 case atStart=>exact⟨0,[],rfl,by omega,hb,hM,qA (fun x=>by simp),hB,hG,HX⟩
 case round=>
  clear hM hB hG hb HX
  obtain⟨k,S,rfl,hk,hb,hM,HS,hB,hG,HR⟩:=hrel
  have zB:=hB.lt
  have c0:=hB.cell 0
  rw [h0] at c0
  by_cases hlt:k<32+free.length
  ·have hs:=Aib phys S l k (by rw [Hll.out];exact hlt)
   have hgl:l[k]? = some (l.getD k 0):=by
    have:k<l.length:=by rw [Hll.out];exact hlt
    simp [List.getD,qI this]
   have hw:=Hwf.out (l.getD k 0) (List.mem_of_getElem? hgl)
   have ck:=hG.cell k
   rw [Hcur.out k hlt] at ck
   have HT:=qA (show ∀ x:Int,(l.take (k+1)).contains x=((l.take k).contains x || x==l.getD k 0) by
    intro x
    rw [List.take_succ_eq_append_getElem (by rw [Hll.out];exact hlt),List.contains_append]
    have:l.getD k 0=l[k]'(by rw [Hll.out];exact hlt):=by simp [List.getD,qI (show k<l.length by rw [Hll.out];exact hlt)]
    rw [this,List.contains_cons,List.contains_nil,Bool.or_false])
   clear hgl
   generalize l.getD k 0=p at hs hw ck HT
   have hlk:=hM.look (t:=202) Tryz.underlying3 Tryz.underlying202 Tryz.underlying4 (W8 _) p (Zp hw.1 hw.2)
   obtain⟨w5,hpt,hM5,hg5⟩:=hM.put (t:=202) Tryz.underlying3 Tryz.underlying202 Tryz.underlying4 (by unfold maxLen;omega) p (Zp hw.1 hw.2)
   have hB5:=qA (hB.grown hg5 (by simp))
   have hG5:=qA (hG.grown hg5 (by simp;omega))
   have hb5:=qA (below_grown hb hg5 (by have:=hb.size;omega) (Nat.le_succ _))
   have hM5:=qA hM5
   clear hM hg5
   by_cases h1:p<0
   ·have HR2:false=X:=by have h:=HR.out;rw [hs,if_pos (Or.inl h1)] at h;exact h
    subst HR2
    clear HR hs hlk hpt
    go_wp2_with(fail)
    go_ret2
    exact⟨_,by rw [Hm.out];rfl,hb,fun h=>by rw [Hm.out] at h;cases h⟩
   by_cases h2:phys≤p
   ·have HR2:false=X:=by have h:=HR.out;rw [hs,if_pos (Or.inr (Or.inl h2))] at h;exact h
    subst HR2
    clear HR hs hlk hpt
    go_wp2_with(fail)
    go_ret2
    exact⟨_,by rw [Hm.out];rfl,hb,fun h=>by rw [Hm.out] at h;cases h⟩
   rcases hS:S.contains p with _ | _
   ·have HR2:Hid (okL phys (p::S) (l.drop (k+1))=X):=by
     have h:=HR.out
     rw [hs,if_neg (by rintro(h | h | h);exact h1 h;exact h2 h;(have:S.contains p=true:=List.contains_iff_mem.2 h);rw [hS] at this;cases this)] at h
     exact qA h
    rw [hS] at hlk
    have h1':decide (p<0)=false:=by simpa using h1
    have h2':decide (phys≤p)=false:=by simpa using h2
    clear HR hs h1 h2
    go_wp2_with(fail)
    go_roundw
    case rel=>exact⟨k+1,p::S,by go_num,by omega,hb5.out,hM5.out,qA (fun x=>by rw [HT.out,List.contains_cons,HS.out,Bool.or_comm]),hB5.out,hG5.out,HR2⟩
    case measure=>simp [intOf];omega
   ·have HR2:false=X:=by
     have h:=HR.out
     rw [hs,if_pos (Or.inr (Or.inr (List.contains_iff_mem.1 hS)))] at h;exact h
    subst HR2
    rw [hS] at hlk
    have h1':decide (p<0)=false:=by simpa using h1
    have h2':decide (phys≤p)=false:=by simpa using h2
    clear HR hs hpt h1 h2
    go_wp2_with(fail)
    go_ret2
    exact⟨_,by rw [Hm.out];rfl,hb,fun h=>by rw [Hm.out] at h;cases h⟩
  ·obtain rfl:k=32+free.length:=by omega
   have HR2:true=X:=by have h:=HR.out;rw [List.drop_of_length_le (by rw [Hll.out];omega)] at h;exact h
   subst HR2
   have HS2:=qA (show ∀ x:Int,S.contains x=l.contains x by intro x;rw [HS.out,List.take_of_length_le (by rw [Hll.out];omega)])
   have hMh:=qA hM
   clear HR hM
   go_wp2_with(fail)
   go_simp
   refine Ad 1979 68 2047 [0,1,2,3,4,5,6,7,8,9,10] (by kernel_rfl) (by kernel_rfl) (by kernel_rfl) rfl ?_
   repeat'(first
    |refine oQ rfl rfl ?_
    |(refine' oE _ (by decide) (by decide) (fun wq K hK=>?_) ?_ ?_;rotate_left 1;(· go_wp2_with(fail);all_goals exact hK);rfl)
    |(refine' oR _ (by decide) (by decide) (by decide) (fun wq hwq K hK=>?_) ?_ ?_;rotate_left 1;(· have cq:=(hB.ext hwq).cell 0;rw [h0] at cq;go_wp2_with(fail);all_goals exact hK);rfl)
    |((first | refine oT rfl rfl rfl rfl ?_ ?_ | refine oF rfl rfl rfl rfl ?_ ?_)<;>intro hc<;>first | (cases hc;done) | ((try cases hc);simp only [Act.put,sA,sS,sZ]))
    |refine oU rfl rfl rfl rfl ?_)
   all_goals
    refine Aj ?_
    rintro w4 rfl
    go_wp2
    go_ret2
    refine⟨_,?_,hb.drew,fun _=>⟨_,_,S,rfl,hMh.out.kept (Cg (qB _ _).drew) (by simp),HS2.out⟩⟩
    rw [Hm.out]
    unfold Zb
    simp at hc ⊢
    try omega
structure Kj (w:World) (m:Ax) (A:Option Addr) (cap:Nat):Prop where
 p0 : -9223372036854775808≤m.phys
 p1:m.phys≤9223372036854775807
 len:m.regs.length=32
 few:m.free.length≤17592186044000
 room:m.free.length≤cap
 free:Ar w w.heap.size .i64 A m.free
 nil:A=none→m.free=[]∧cap=0
 wf:∀ x∈m.all,-9223372036854775808≤x∧x≤9223372036854775807
theorem Kj.ext {w w':World} {m:Ax} {A:Option Addr} {cap:Nat} (h:Kj w m A cap) (hb:Below w.heap.size w w'):Kj w' m A cap:=
 ⟨h.p0,h.p1,h.len,h.few,h.room,(h.free.below hb).mono hb.size,h.nil,h.wf⟩
def Rn (w:World) (m:Ax) (v:Value):Prop:=∃ A cap,v = .agg (Ag m.phys m.regs A m.free.length cap)∧Kj w m A cap
theorem Rn.ext {w w':World} {m:Ax} {v:Value} (h:Rn w m v) (hb:Below w.heap.size w w'):Rn w' m v:=by
 obtain⟨A,cap,h1,h2⟩:=h
 exact⟨A,cap,h1,h2.ext hb⟩
theorem Rn.zero (w:World):Rn w Ax.zero (.agg (Ag 0 (List.replicate 32 0) none 0 0)):=
 ⟨none,0,rfl,by decide,by decide,rfl,by decide,by decide,fun h=>absurd rfl h,fun _=>⟨rfl,rfl⟩,by decide⟩
def M9 (w:World) (B:Nat) (m:Ax) (v:Value):Prop:=∃ A cap,v = .agg (Ag m.phys m.regs A m.free.length cap)∧Kj w m A cap∧∀ ad,A=some ad→B≤ad.block
theorem M9.v {w:World} {B:Nat} {m:Ax} {v:Value} (h:M9 w B m v):Rn w m v:=by
 obtain⟨A,cap,h1,h2,_⟩:=h
 exact⟨A,cap,h1,h2⟩
theorem M9.zero (w:World) (B:Nat):M9 w B Ax.zero (.agg (Ag 0 (List.replicate 32 0) none 0 0)):=by
 refine⟨none,0,rfl,⟨by decide,by decide,rfl,by decide,by decide,fun h=>absurd rfl h,fun _=>⟨rfl,rfl⟩,by decide⟩,fun _ h=>by cases h⟩
theorem D6 {phys:Int} {regs:List Int} {A:Option Addr} {n cap:Nat} (h:regs.length=32):(Tryz.prog.info? 79).map (·.size)=some (Ag phys regs A n cap).size:=by rw [B3 _ _ _ _ _ h];kernel_rfl
theorem Ez (phys:Int) (regs:List Int) (A:Option Addr) (n cap:Nat):(Ag phys regs A n cap).all (·.oneCell')=true:=by
 rw [Array.all_eq_true_iff_forall_mem]
 intro v hv
 unfold Ag at hv
 simp only [List.mem_toArray,List.mem_cons,List.mem_append,List.mem_map,List.not_mem_nil,or_false] at hv
 rcases hv with rfl | ⟨x,_,rfl⟩ | rfl<;>rfl
theorem G6:Tryz.prog.built 79 []=some (Ag 0 (List.replicate 32 0) none 0 0):=by kernel_rfl
theorem Ajp {w:World} {m:Ax} {v:Value} (h:Rn w m v) :
  Calls Tryz.prog 110 #[v] w fun e w'=>e = .returned (.bool m.may)∧Below w.heap.size w w':=by
 obtain⟨A,cap,rfl,h⟩:=h
 have hs:=D6 (phys:=m.phys) (A:=A) (n:=m.free.length) (cap:=cap) h.len
 have hu:=fun W (hb:Below w.heap.size w W)=>Ab4 m.phys m.regs m.free A cap W h.p0 h.p1 h.len h.few ((h.ext hb).free) h.nil h.wf
 have hmay:Nc m.phys (m.regs++m.free)=m.may:=rfl
 rw [hmay] at hu
 generalize Ag m.phys m.regs A m.free.length cap=cs at *
 generalize m.may=X at *
 have Hu:=qA hu
 clear hu hmay
 go_enter Tryz.func110,Tryz.ntmps110
 have hb1:=(qB w.heap.size w).alloc (qC _) (.cells cs 79)
 have hB:=Blk.new w 79 cs
 go_wp2_with(first
  |(refine Ab rfl 79 _ rfl w.heap.size rfl 79 cs _ hB Tryz.underlying79 rfl hs ?_)
  |(go_at_call 132;(with_reducible refine(Hu.out _ hb1).mono ?_);rintro e w2 ⟨v2,rfl,hb2,hh⟩;clear hh))
 go_ret
 exact⟨rfl,hb1.trans (hb2.mono hb1.size)⟩
theorem X4 {w:World} {m:Ax} {v:Value} (h:Rn w m v) (p:Int) (hp0 : -9223372036854775808≤p) (hp1:p≤9223372036854775807) :
  Calls Tryz.prog 91 #[v, .int .i64 p] w fun e w'=>e = .returned (.bool (Gy m p))∧Below w.heap.size w w':=by
 obtain⟨A,cap,rfl,h⟩:=h
 have hs:=D6 (phys:=m.phys) (A:=A) (n:=m.free.length) (cap:=cap) h.len
 have h0:=U9 m.phys m.regs A m.free.length cap
 have hu:=fun W (hb:Below w.heap.size w W)=>Ab4 m.phys m.regs m.free A cap W h.p0 h.p1 h.len h.few ((h.ext hb).free) h.nil h.wf
 have hmay:Nc m.phys (m.regs++m.free)=m.may:=rfl
 have hot:Gy m p=(m.may&&(decide (0≤p)&&decide (p<m.phys)&&!((m.regs++m.free).contains p))):=by
  unfold Gy Ax.all
  congr 2
  rw [Bool.eq_iff_iff]
  simp
 rw [hot]
 rw [hmay] at hu
 generalize m.regs++m.free=l at *
 obtain⟨z,hz⟩:∃ z,z=l.contains p:=⟨_,rfl⟩
 rw [←hz]
 generalize Ag m.phys m.regs A m.free.length cap=cs at *
 generalize m.may=X at *
 generalize m.phys=phys at *
 have Hu:=qA hu
 clear hu hmay hot
 have hb1:=(qB w.heap.size w).alloc (qC _) (.cells cs 79)
 have hB:=Blk.new w 79 cs
 cases X with
 |false=>
  go_enter Tryz.func91,Tryz.ntmps91
  go_wp2_with(first
   |(refine Ab rfl 79 _ rfl w.heap.size rfl 79 cs _ hB Tryz.underlying79 rfl hs ?_)
   |(go_at_call 132;(with_reducible refine(Hu.out _ hb1).mono ?_);rintro e w2 ⟨v2,rfl,hb2,hh⟩;clear hh))
  go_ret
  exact⟨rfl,hb1.trans (hb2.mono hb1.size)⟩
 |true=>
  by_cases h1:0≤p
  ·by_cases h2:p<phys
   ·go_enter Tryz.func91,Tryz.ntmps91
    go_wp2_with(first
     |(refine Ab rfl 79 _ rfl w.heap.size rfl 79 cs _ hB Tryz.underlying79 rfl hs ?_)
     |(go_at_call 132;(with_reducible refine(Hu.out _ hb1).mono ?_);rintro e w2 ⟨v2,rfl,hb2,hh⟩;obtain⟨b,n,S,rfl,hM,hS⟩:=hh rfl;have c0:=(hB.ext hb2).cell 0;rw [h0] at c0;have hlk:=hM.look (t:=202) Tryz.underlying3 Tryz.underlying202 Tryz.underlying4 (W8 _) p (Zp hp0 hp1);rw [hS,←hz] at hlk;clear hh hM hS))
    go_ret
    exact⟨by simp [*],hb1.trans (hb2.mono hb1.size)⟩
   ·go_enter Tryz.func91,Tryz.ntmps91
    go_wp2_with(first
     |(refine Ab rfl 79 _ rfl w.heap.size rfl 79 cs _ hB Tryz.underlying79 rfl hs ?_)
     |(go_at_call 132;(with_reducible refine(Hu.out _ hb1).mono ?_);rintro e w2 ⟨v2,rfl,hb2,hh⟩;have c0:=(hB.ext hb2).cell 0;rw [h0] at c0;clear hh))
    go_ret
    exact⟨by rw [qG (p:=p<phys) (by omega)];simp,hb1.trans (hb2.mono hb1.size)⟩
  ·go_enter Tryz.func91,Tryz.ntmps91
   go_wp2_with(first
    |(refine Ab rfl 79 _ rfl w.heap.size rfl 79 cs _ hB Tryz.underlying79 rfl hs ?_)
    |(go_at_call 132;(with_reducible refine(Hu.out _ hb1).mono ?_);rintro e w2 ⟨v2,rfl,hb2,hh⟩;have c0:=(hB.ext hb2).cell 0;rw [h0] at c0;clear hh))
   go_ret
   exact⟨by rw [qG (p:=0≤p) (by omega)];simp,hb1.trans (hb2.mono hb1.size)⟩
end Go.Proofs.YtapgojgcmlnbgaaGreatDoor
namespace Go.Proofs.YtapgojgcmlnbgaaGreatDoor
open Go Go.RowKit
section
variable {P:Program} {fn:Func} {tmps:Array Value} {w:World} {ad:Addr} {v x y z:Value} {p a b c:Tmp} {ty:TypeId}
theorem Ea (h:fn.results=#[.cell p ty, .tmp a]) (hp:tmps.getD p undef = .pointer (some ad)) (ha:tmps.getD a undef=x) (hl:(loadVar ty ad).run P w = .ok v w):(results fn tmps).run P w = .ok (.tuple #[v,x]) w:=by
 have hp':tmps[p]?.getD undef = .pointer (some ad):=by simpa using hp
 have ha':tmps[a]?.getD undef=x:=by simpa using ha
 simp [results,h,hp',ha',asAddr,hl]
theorem Mr (h:fn.results=#[.cell p ty, .tmp a, .tmp b, .tmp c]) (hp:tmps.getD p undef = .pointer (some ad)) (ha:tmps.getD a undef=x) (hb:tmps.getD b undef=y) (hc:tmps.getD c undef=z) (hl:(loadVar ty ad).run P w = .ok v w) :
  (results fn tmps).run P w = .ok (.tuple #[v,x,y,z]) w:=by
 have hp':tmps[p]?.getD undef = .pointer (some ad):=by simpa using hp
 have ha':tmps[a]?.getD undef=x:=by simpa using ha
 have hb':tmps[b]?.getD undef=y:=by simpa using hb
 have hc':tmps[c]?.getD undef=z:=by simpa using hc
 simp [results,h,hp',ha',hb',hc',asAddr,hl]
end
end Go.Proofs.YtapgojgcmlnbgaaGreatDoor
namespace Go.Proofs.YtapgojgcmlnbgaaGreatDoor
open Go.RowKit
theorem Fq {w:World} {g:Nat} {cs:Array Value} (h:Blk w g 79 cs) (hs:(Tryz.prog.info? 79).map (·.size)=some cs.size):(loadVar 79 ⟨g,0,none⟩).run Tryz.prog w = .ok (.agg cs) w:=by
 have:=Ey (P:=Tryz.prog) w g 0 79 79 cs cs.size _ h Tryz.underlying79 rfl hs (by omega)
 rw [this,I2 cs _ rfl]
theorem D9:(Tryz.prog.info? 79).map (·.size)=some (Ag 0 (List.replicate 32 0) none 0 0).size:=D6 rfl
def takeD (m:Ax) (rd:Int):Ax×Int×Int:=(M4 m rd).getD (Ax.zero,0,0)
theorem Aiu {w:World} {m:Ax} {v:Value} (h:Rn w m v) (rd:Int) (hr0 : -9223372036854775808≤rd) (hr1:rd≤9223372036854775807) :
  Calls Tryz.prog 76 #[v, .int .i64 rd] w fun e w'=>∃ v',e = .returned (.tuple #[v', .int .i64 (takeD m rd).2.1, .int .i64 (takeD m rd).2.2, .bool (M4 m rd).isSome])∧Below w.heap.size w w'∧M9 w' w.heap.size (takeD m rd).1 v':=by
 obtain⟨A,cap,rfl,h⟩:=h
 have hv:Rn w m (.agg (Ag m.phys m.regs A m.free.length cap)):=⟨A,cap,rfl,h⟩
 have hs:=D6 (phys:=m.phys) (A:=A) (n:=m.free.length) (cap:=cap) h.len
 have hf:=D4 m.phys m.regs A m.free.length cap h.len
 have hrg:=fun i=>Eh m.phys m.regs A m.free.length cap (i:=i)
 have hu:=fun W (hb:Below w.heap.size w W)=>Ajp (hv.ext hb)
 by_cases hok:m.may=true∧m.free≠[]∧1≤rd∧rd≤31
 ·obtain⟨hmay,hfr,hr1,hr2⟩:=hok
  obtain⟨k,rfl⟩:=qH (show 0≤rd by omega)
  obtain⟨p,f,hpf⟩:∃ p f,m.free=p::f:=by
   cases hh:m.free with
   |nil=>exact absurd hh hfr
   |cons p f=>exact⟨p,f,rfl⟩
  have htk:M4 m (k:Int)=some (⟨m.phys,m.regs.set k p,f⟩,p,m.regs.getD k 0):=by
   unfold M4
   rw [hpf]
   simp only
   rw [if_pos ⟨hmay,hr1,hr2⟩]
   rfl
  have htd:takeD m (k:Int)=(⟨m.phys,m.regs.set k p,f⟩,p,m.regs.getD k 0):=by unfold takeD;rw [htk];rfl
  rw [htd,htk]
  have h1:=h
  obtain⟨b,o,rfl,hbw,hfc⟩:=h.free (by rw [hpf];simp)
  have cp:=hfc 0 p (by rw [hpf];rfl)
  rw [Nat.add_zero] at cp
  have cf:∀ i x,f[i]? = some x→w.cell? ⟨b,o+1+i,none⟩=some (.int .i64 x):=fun i x hx=>by
   have:=hfc (i+1) x (by rw [hpf];exact hx)
   rwa [show o+(i+1)=o+1+i by omega] at this
  have hln:m.free.length=f.length+1:=by rw [hpf];rfl
  have hroom:=h.room
  have hfew:=h.few
  have hrk:=hrg k (by rw [h.len];omega)
  obtain⟨cs,hcs⟩:∃ cs,cs=Ag m.phys m.regs (some ⟨b,o,none⟩) (f.length+1) cap:=⟨_,rfl⟩
  have hpk : -9223372036854775808≤p∧p≤9223372036854775807:=h.wf p (by unfold Ax.all;rw [hpf];simp)
  rw [hln] at hs hf hrk hu hroom hfew ⊢
  rw [←hcs] at hs hf hrk hu ⊢
  rw [hmay] at hu
  simp only [Option.isSome_some]
  have Hcs:=qA hcs
  have Hu:=qA hu
  have Hcf:=qA cf
  have H1:=qA h1
  have hn0:(((f.length:Int)+1)==0)=false:=by simp;omega
  have hlen:=h.len
  have Hpf:=qA hpf
  clear hfc hu hcs cf h h1 hrg hv hln htk htd hmay hfr
  generalize m.regs.getD k 0=old at *
  go_enter Tryz.func76,Tryz.ntmps76
  go_upto_region 1 with(fail)
  go_simp
  refine A1 fun wa hq=>?_
  have hb2:Below w.heap.size w wa:=by rw [hq];exact((qB w.heap.size w).alloc (qC _) _).alloc (by simp) _
  have hB:Blk wa w.heap.size 79 cs:=by rw [hq];exact(Blk.new w 79 cs).alloc _
  have hR:Blk wa (w.heap.size+1) 79 (Ag 0 (List.replicate 32 0) none 0 0):=by rw [hq];exact Blk.newAt (w.alloc (.cells cs 79)) 79 _ (by simp)
  clear hq
  go_upto_region 3 with(first
   |(refine Ab rfl 79 _ rfl w.heap.size rfl 79 cs _ hB Tryz.underlying79 rfl hs ?_)
   |(go_at_call 110;(with_reducible refine(Hu.out _ hb2).mono ?_);rintro e w2 ⟨rfl,hb3⟩;have c33:=(hB.ext hb3).cell 33;rw [hf] at c33;have zB:=(hB.ext hb3).lt;have hR2:=hR.ext hb3))
  go_simp
  have hb4:=hb2.trans (hb3.mono hb2.size)
  replace hB:=hB.ext hb3
  replace cp:=(hb4.cell (p:=⟨b,o,none⟩) hbw).trans cp
  replace hR:=hR2
  clear hb2 hb3 hR2 zB c33
  have zb:b<w2.heap.size:=qE hbw hb4.size
  refine Ad 885 138 1023 [0,1,2,3,4,5,6,7,8,9] (by kernel_rfl) (by kernel_rfl) (by kernel_rfl) rfl ?_
  repeat'(first
   |refine rZ ?_
   |(refine' oR _ (by decide) (by decide) (by decide) (fun wq hwq K hK=>?_) ?_ ?_;rotate_left 1;(· have c33:=(hB.ext hwq).cell 33;rw [hf] at c33;have ck:=(hB.ext hwq).cell (1+k);rw [hrk] at ck;have cq:=hwq.at_ zb cp;go_wp2_with(fail);all_goals exact hK);rfl)
   |fail)
  refine Aj ?_
  rintro w4 rfl
  go_upto_region 4 with(fail)
  go_simp
  replace hb4:=hb4.drew
  replace hB:=hB.ext (qB _ _).drew
  replace hR:=hR.ext (qB _ _).drew
  replace cp:=((qB w2.heap.size w2).drew.cell (p:=⟨b,o,none⟩) zb).trans cp
  replace zb:b<w2.drew.heap.size:=zb
  generalize w2.drew=w3 at *
  by_cases hc1:cap=1
  ·subst hc1
   have hfz:f=[]:=qN (by omega)
   have Hfz:=qA hfz
   clear hfz
   have hnews:∀ W,W=w3.drew→∀ ad,some (⟨b,o,none⟩:Addr)=some ad→∀ j u,(List.map (Value.int .i64) f)[j]? = some u→W.cell? (ad.add j)=some u:=by
    intro W hW ad had j u hu
    obtain rfl:=qK had
    rw [Addr.add_lit]
    rw [List.getElem?_map] at hu
    obtain⟨x,hx,rfl⟩:=Option.map_eq_some_iff.1 hu
    rw [hW]
    first | (rw [Hfz.out] at hx;simp at hx;done) | exact(hb4.drew.cell hbw).trans (Hcf.out j x hx)
   refine Ad 727 8 735 [0,1,2,3,4,6,7,5,8,9,10] (by kernel_rfl) (by kernel_rfl) (by kernel_rfl) rfl ?_
   repeat'(first
    |refine rZ ?_
    |(refine' oR _ (by decide) (by decide) (by decide) (fun wq hwq K hK=>?_) ?_ ?_;rotate_left 1;(· have c33:=(hB.ext hwq).cell 33;rw [hf] at c33;go_wp2_with(fail);all_goals exact hK);rfl)
    |fail)
   refine oS (fun w1 hw1 K1 hK1=>?_)
   have hnews:=hnews w1 hw1
   have hb4':Below w.heap.size w w1:=by rw [hw1];exact hb4.drew
   have hB':Blk w1 w.heap.size 79 cs:=by rw [hw1];exact hB.ext (qB _ _).drew
   have hR':Blk w1 (w.heap.size+1) 79 (Ag 0 (List.replicate 32 0) none 0 0):=by rw [hw1];exact hR.ext (qB _ _).drew
   clear hw1
   go_wp2_with(go_at_call 92;(with_reducible refine(I1 (some ⟨b,o,none⟩) 0 0 (List.map (Value.int .i64) f) _ (by first | decide | omega) (by first | (simp;done) | simp [Hfz.out]) (Fv _) hnews (fun h=>by cases h)).mono ?_);rintro e w5 ⟨v5,rfl,hown5,hb5⟩)
   refine hK1 _ _ (fun _=>True) trivial ?_
   simp only [Act.put,sA,sS,sZ]
   clear hK1 K1 hnews
   replace hB:=hB'.ext hb5
   replace hR:=hR'.ext hb5
   replace hb4:=hb4'.trans (hb5.mono hb4'.size)
   obtain⟨A5,cap5,rfl,hl5,hn5,hA5,hc5,hg5⟩:=Fs hown5
   have Hg5:=qA (show ∀ ad,A5=some ad→w.heap.size+1<ad.block from fun ad h=>qE hR'.lt (hg5 ad h))
   have Hl5:=qA hl5
   clear hown5 hb5 hB' hR' hb4' zb cp hl5 hg5
   refine oQ rfl rfl ?_
   refine oS (fun w1 hw1 K1 hK1=>?_)
   subst hw1
   have ck:=hB.cell (1+k)
   rw [hrk] at ck
   have fk:=hB.frozen (1+k)
   go_wp2_with(fail)
   refine hK1 undef _ (fun _=>True) trivial ?_
   simp only [Act.put,sA,sS,sZ]
   clear hK1 K1 ck fk
   replace hB:=hB.set (1+k) (.int .i64 p)
   replace hb4:=hb4.setCell (p:=⟨w.heap.size,1+k,none⟩) (qC _) (.int .i64 p)
   replace hA5:=hA5.setCell (p:=⟨w.heap.size,1+k,none⟩) (.int .i64 p) (fun ad h=>by have:=Hg5.out ad h;show ad.block≠w.heap.size;omega)
   replace hR:=hR.far (p:=⟨w.heap.size,1+k,none⟩) (Nat.succ_ne_self _) (.int .i64 p)
   refine rO ?_
   refine oS (fun w1 hw1 K1 hK1=>?_)
   subst hw1
   have ck:=hB.cell 33
   have e33:(cs.setIfInBounds (1+k) (.int .i64 p))[33]? = cs[33]? := Array.getElem?_setIfInBounds_ne (by omega)
   rw [e33,hf] at ck
   have fk:=hB.frozen 33
   go_wp2_with(fail)
   refine hK1 undef _ (fun _=>True) trivial ?_
   simp only [Act.put,sA,sS,sZ]
   clear hK1 K1 ck fk e33
   replace hB:=hB.set 33 (.slice A5 0 cap5)
   replace hb4:=hb4.setCell (p:=⟨w.heap.size,33,none⟩) (qC _) (.slice A5 0 cap5)
   replace hA5:=hA5.setCell (p:=⟨w.heap.size,33,none⟩) (.slice A5 0 cap5) (fun ad h=>by have:=Hg5.out ad h;show ad.block≠w.heap.size;omega)
   replace hR:=hR.far (p:=⟨w.heap.size,33,none⟩) (Nat.succ_ne_self _) (.slice A5 0 cap5)
   have hend:(cs.setIfInBounds (1+k) (.int .i64 p)).setIfInBounds 33 (.slice A5 0 cap5)=Ag m.phys (m.regs.set k p) A5 0 cap5:=by rw [Hcs.out];exact Gn m.phys m.regs _ A5 _ _ _ cap5 k p hlen (by omega)
   rw [hend] at hB
   have hset:(m.regs.set k p).length=32:=by simp [hlen]
   refine Aj ?_
   rintro w9 hw9
   have hz9:w1.heap.size=w9.heap.size:=by rw [hw9];simp
   rw [←hw9] at hB hb4 hA5 hR
   rw [hz9] at hA5
   clear hw9 hend hz9
   have hs9:=D6 (phys:=m.phys) (A:=A5) (n:=0) (cap:=cap5) hset
   have h19:=Ez m.phys (m.regs.set k p) A5 0 cap5
   have hv9:Ag m.phys (m.regs.set k p) A5 0 cap5=Ag m.phys (m.regs.set k p) A5 f.length cap5:=by first | rfl | rw [Hfz.out];rfl
   obtain⟨cs9,h9⟩:∃ cs9,cs9=Ag m.phys (m.regs.set k p) A5 0 cap5:=⟨_,rfl⟩
   have Hv9:=qA (h9.trans hv9)
   have hsz9:(Ag m.phys (m.regs.set k p) A5 0 cap5).size=(Ag 0 (List.replicate 32 0) none 0 0).size:=by rw [B3 _ _ _ _ _ hset];rfl
   rw [←h9] at hsz9 hs9 h19 hB
   clear hv9 h9
   have hb9:=hb4.size
   go_wp2_with(first
    |(refine Ab rfl 79 _ rfl w.heap.size rfl 79 cs9 _ hB Tryz.underlying79 rfl hs9 ?_)
    |(refine Ae rfl 79 _ _ rfl (w.heap.size+1) cs9 rfl rfl 79 _ hR hs9 hsz9 h19 ?_;intro w5 hB5 hg5;have hld:=Fq hB5 hs9))
   refine bodyPost_ret (Mr Tryz.results76 rfl rfl rfl rfl hld) rfl ?_
   refine⟨_,rfl,below_grown hb4 hg5 hb4.size (Nat.le_succ _),A5,cap5,by rw [Hv9.out],?_,fun ad h=>by have:=Hg5.out ad h;omega⟩
   have hm1:=H1.out
   have hA9:=(hA5.grown (qC _) hg5 (fun ad h=>by have:=Hg5.out ad h;omega)).mono hg5.size
   have hc9:f.length≤cap5:=by first | exact hc5 | (rw [Hfz.out];exact Nat.zero_le _)
   refine⟨hm1.p0,hm1.p1,hset,by show f.length≤_;omega,hc9,hA9,hn5,fun x hx=>?_⟩
   rcases List.mem_append.1 hx with hx | hx
   ·rcases List.mem_or_eq_of_mem_set hx with hx | rfl
    ·exact hm1.wf x (List.mem_append_left _ hx)
    ·exact hpk
   ·exact hm1.wf x (List.mem_append_right _ (by rw [Hpf.out];exact qP _ hx))
  ·have Hcf2:=Hcf
   have hnews:∀ W,W=w3.drew→∀ ad,some (⟨b,(o+1),none⟩:Addr)=some ad→∀ j u,(List.map (Value.int .i64) f)[j]? = some u→W.cell? (ad.add j)=some u:=by
    intro W hW ad had j u hu
    obtain rfl:=qK had
    rw [Addr.add_lit]
    rw [List.getElem?_map] at hu
    obtain⟨x,hx,rfl⟩:=Option.map_eq_some_iff.1 hu
    rw [hW]
    first | (rw [Hfz.out] at hx;simp at hx;done) | exact(hb4.drew.cell hbw).trans (Hcf.out j x hx)
   refine Ad 727 8 735 [0,1,2,3,4,6,7,5,8,9,10] (by kernel_rfl) (by kernel_rfl) (by kernel_rfl) rfl ?_
   repeat'(first
    |refine rZ ?_
    |(refine' oR _ (by decide) (by decide) (by decide) (fun wq hwq K hK=>?_) ?_ ?_;rotate_left 1;(· have c33:=(hB.ext hwq).cell 33;rw [hf] at c33;go_wp2_with(fail);all_goals exact hK);rfl)
    |fail)
   refine oS (fun w1 hw1 K1 hK1=>?_)
   have hnews:=hnews w1 hw1
   have hb4':Below w.heap.size w w1:=by rw [hw1];exact hb4.drew
   have hB':Blk w1 w.heap.size 79 cs:=by rw [hw1];exact hB.ext (qB _ _).drew
   have hR':Blk w1 (w.heap.size+1) 79 (Ag 0 (List.replicate 32 0) none 0 0):=by rw [hw1];exact hR.ext (qB _ _).drew
   clear hw1
   go_wp2_with(go_at_call 92;(with_reducible refine(I1 (some ⟨b,(o+1),none⟩) f.length (cap - 1) (List.map (Value.int .i64) f) _ (by first | decide | omega) (by first | (simp;done) | simp [Hfz.out]) (Fv _) hnews (fun h=>by cases h)).mono ?_);rintro e w5 ⟨v5,rfl,hown5,hb5⟩)
   refine hK1 _ _ (fun _=>True) trivial ?_
   simp only [Act.put,sA,sS,sZ]
   clear hK1 K1 hnews
   replace hB:=hB'.ext hb5
   replace hR:=hR'.ext hb5
   replace hb4:=hb4'.trans (hb5.mono hb4'.size)
   obtain⟨A5,cap5,rfl,hl5,hn5,hA5,hc5,hg5⟩:=Fs hown5
   have Hg5:=qA (show ∀ ad,A5=some ad→w.heap.size+1<ad.block from fun ad h=>qE hR'.lt (hg5 ad h))
   have Hl5:=qA hl5
   clear hown5 hb5 hB' hR' hb4' zb cp hl5 hg5
   refine oQ rfl rfl ?_
   refine oS (fun w1 hw1 K1 hK1=>?_)
   subst hw1
   have ck:=hB.cell (1+k)
   rw [hrk] at ck
   have fk:=hB.frozen (1+k)
   go_wp2_with(fail)
   refine hK1 undef _ (fun _=>True) trivial ?_
   simp only [Act.put,sA,sS,sZ]
   clear hK1 K1 ck fk
   replace hB:=hB.set (1+k) (.int .i64 p)
   replace hb4:=hb4.setCell (p:=⟨w.heap.size,1+k,none⟩) (qC _) (.int .i64 p)
   replace hA5:=hA5.setCell (p:=⟨w.heap.size,1+k,none⟩) (.int .i64 p) (fun ad h=>by have:=Hg5.out ad h;show ad.block≠w.heap.size;omega)
   replace hR:=hR.far (p:=⟨w.heap.size,1+k,none⟩) (Nat.succ_ne_self _) (.int .i64 p)
   refine rO ?_
   refine oS (fun w1 hw1 K1 hK1=>?_)
   subst hw1
   have ck:=hB.cell 33
   have e33:(cs.setIfInBounds (1+k) (.int .i64 p))[33]? = cs[33]? := Array.getElem?_setIfInBounds_ne (by omega)
   rw [e33,hf] at ck
   have fk:=hB.frozen 33
   go_wp2_with(fail)
   refine hK1 undef _ (fun _=>True) trivial ?_
   simp only [Act.put,sA,sS,sZ]
   clear hK1 K1 ck fk e33
   replace hB:=hB.set 33 (.slice A5 f.length cap5)
   replace hb4:=hb4.setCell (p:=⟨w.heap.size,33,none⟩) (qC _) (.slice A5 f.length cap5)
   replace hA5:=hA5.setCell (p:=⟨w.heap.size,33,none⟩) (.slice A5 f.length cap5) (fun ad h=>by have:=Hg5.out ad h;show ad.block≠w.heap.size;omega)
   replace hR:=hR.far (p:=⟨w.heap.size,33,none⟩) (Nat.succ_ne_self _) (.slice A5 f.length cap5)
   have hend:(cs.setIfInBounds (1+k) (.int .i64 p)).setIfInBounds 33 (.slice A5 f.length cap5)=Ag m.phys (m.regs.set k p) A5 f.length cap5:=by rw [Hcs.out];exact Gn m.phys m.regs _ A5 _ _ _ cap5 k p hlen (by omega)
   rw [hend] at hB
   have hset:(m.regs.set k p).length=32:=by simp [hlen]
   refine Aj ?_
   rintro w9 hw9
   have hz9:w1.heap.size=w9.heap.size:=by rw [hw9];simp
   rw [←hw9] at hB hb4 hA5 hR
   rw [hz9] at hA5
   clear hw9 hend hz9
   have hs9:=D6 (phys:=m.phys) (A:=A5) (n:=f.length) (cap:=cap5) hset
   have h19:=Ez m.phys (m.regs.set k p) A5 f.length cap5
   have hv9:Ag m.phys (m.regs.set k p) A5 f.length cap5=Ag m.phys (m.regs.set k p) A5 f.length cap5:=by first | rfl | rw [Hfz.out];rfl
   obtain⟨cs9,h9⟩:∃ cs9,cs9=Ag m.phys (m.regs.set k p) A5 f.length cap5:=⟨_,rfl⟩
   have Hv9:=qA (h9.trans hv9)
   have hsz9:(Ag m.phys (m.regs.set k p) A5 f.length cap5).size=(Ag 0 (List.replicate 32 0) none 0 0).size:=by rw [B3 _ _ _ _ _ hset];rfl
   rw [←h9] at hsz9 hs9 h19 hB
   clear hv9 h9
   have hb9:=hb4.size
   go_wp2_with(first
    |(refine Ab rfl 79 _ rfl w.heap.size rfl 79 cs9 _ hB Tryz.underlying79 rfl hs9 ?_)
    |(refine Ae rfl 79 _ _ rfl (w.heap.size+1) cs9 rfl rfl 79 _ hR hs9 hsz9 h19 ?_;intro w5 hB5 hg5;have hld:=Fq hB5 hs9))
   refine bodyPost_ret (Mr Tryz.results76 rfl rfl rfl rfl hld) rfl ?_
   refine⟨_,rfl,below_grown hb4 hg5 hb4.size (Nat.le_succ _),A5,cap5,by rw [Hv9.out],?_,fun ad h=>by have:=Hg5.out ad h;omega⟩
   have hm1:=H1.out
   have hA9:=(hA5.grown (qC _) hg5 (fun ad h=>by have:=Hg5.out ad h;omega)).mono hg5.size
   have hc9:f.length≤cap5:=by first | exact hc5 | (rw [Hfz.out];exact Nat.zero_le _)
   refine⟨hm1.p0,hm1.p1,hset,by show f.length≤_;omega,hc9,hA9,hn5,fun x hx=>?_⟩
   rcases List.mem_append.1 hx with hx | hx
   ·rcases List.mem_or_eq_of_mem_set hx with hx | rfl
    ·exact hm1.wf x (List.mem_append_left _ hx)
    ·exact hpk
   ·exact hm1.wf x (List.mem_append_right _ (by rw [Hpf.out];exact qP _ hx))
 ·have htk:M4 m rd=none:=by
   unfold M4
   cases hfr:m.free with
   |nil=>rfl
   |cons p f=>
    simp only
    rw [if_neg]
    rintro⟨a,b⟩
    exact hok ⟨a,by rw [hfr];simp,b⟩
  have Htk:=qA (show takeD m rd=(Ax.zero,0,0)∧M4 m rd=none from⟨by unfold takeD;rw [htk];rfl,htk⟩)
  rw [htk]
  replace Htk:=qA Htk.out.1
  have hno:(m.free.length=0)=(m.free=[]):=by rw [eq_iff_iff];exact List.length_eq_zero_iff
  have hok':m.may=false∨(m.may=true∧m.free.length=0)∨(m.may=true∧((m.free.length:Int)==0)=false∧rd<1)∨(m.may=true∧((m.free.length:Int)==0)=false∧1≤rd∧31<rd):=by
   rcases hmm:m.may with _ | _
   ·exact Or.inl rfl
   ·by_cases hfr:m.free=[]
    ·exact Or.inr (Or.inl ⟨rfl,by rw [hfr];rfl⟩)
    ·have hfl:((m.free.length:Int)==0)=false:=by
      have:m.free.length≠0:=fun e=>hfr (qN e)
      simp;omega
     by_cases h1:rd<1
     ·exact Or.inr (Or.inr (Or.inl ⟨rfl,hfl,h1⟩))
     ·by_cases h2:31<rd
      ·exact Or.inr (Or.inr (Or.inr ⟨rfl,hfl,by omega,h2⟩))
      ·exact absurd ⟨hmm,hfr,by omega,by omega⟩ hok
  clear hok htk hno hv hrg h
  generalize m.may=X at *
  generalize m.free.length=n at *
  generalize Ag m.phys m.regs A n cap=cs at *
  have Hu:=qA hu
  clear hu
  rcases hok' with rfl | ⟨rfl,rfl⟩ | ⟨rfl,hn,h1⟩ | ⟨rfl,hn,h1,h2⟩
  all_goals
   go_enter Tryz.func76,Tryz.ntmps76
   go_upto_region 1 with(fail)
   go_simp
   refine A1 fun wa hq=>?_
   have hb2:Below w.heap.size w wa:=by rw [hq];exact((qB w.heap.size w).alloc (qC _) _).alloc (by simp) _
   have hB:Blk wa w.heap.size 79 cs:=by rw [hq];exact(Blk.new w 79 cs).alloc _
   have hR:Blk wa (w.heap.size+1) 79 (Ag 0 (List.replicate 32 0) none 0 0):=by rw [hq];exact Blk.newAt (w.alloc (.cells cs 79)) 79 _ (by simp)
   clear hq
   go_wp2_with(first
    |(refine Ab rfl 79 _ rfl w.heap.size rfl 79 cs _ hB Tryz.underlying79 rfl hs ?_)
    |(go_at_call 110;(with_reducible refine(Hu.out _ hb2).mono ?_);rintro e w2 ⟨rfl,hb3⟩;have c33:=(hB.ext hb3).cell 33;rw [hf] at c33;have zB:=(hB.ext hb3).lt;have hR2:=hR.ext hb3)
    |(refine Am rfl 79 _ rfl [] rfl _ G6 ?_)
    |(refine Ae rfl 79 _ _ rfl (w.heap.size+1) (Ag 0 (List.replicate 32 0) none 0 0) rfl rfl 79 _ hR2 D9 rfl (Ez _ _ _ _ _) ?_;intro w5 hB5 hg5;have hld:=Fq hB5 D9))
   refine bodyPost_ret (Mr Tryz.results76 rfl rfl rfl rfl hld) rfl ?_
   rw [Htk.out]
   exact⟨_,rfl,below_grown (hb2.trans (hb3.mono hb2.size)) hg5 (qD hb2.size hb3.size) (Nat.le_succ _),M9.zero _ _⟩
def O5 (m:Ax) (p:Int):Ax:=(Lk m p).getD Ax.zero
theorem Aho {w:World} {m:Ax} {v:Value} (h:Rn w m v) (p:Int) (hp0 : -9223372036854775808≤p) (hp1:p≤9223372036854775807) (hfew:m.free.length<17592186044000) :
  Calls Tryz.prog 59 #[v, .int .i64 p] w fun e w'=>∃ v',e = .returned (.tuple #[v', .bool (Lk m p).isSome])∧Below w.heap.size w w'∧M9 w' w.heap.size (O5 m p) v':=by
 have hv:=h
 have hu:=fun W (hb:Below w.heap.size w W)=>X4 (h.ext hb) p hp0 hp1
 obtain⟨A,cap,rfl,h⟩:=h
 have hs:=D6 (phys:=m.phys) (A:=A) (n:=m.free.length) (cap:=cap) h.len
 have hf:=D4 m.phys m.regs A m.free.length cap h.len
 rcases hok:Gy m p with _ | _
 ·have hg:Lk m p=none:=by unfold Lk;rw [if_neg (by rw [hok];simp)]
  have Htk:=qA (show O5 m p=Ax.zero by unfold O5;rw [hg];rfl)
  rw [hg]
  rw [hok] at hu
  generalize Ag m.phys m.regs A m.free.length cap=cs at *
  have Hu:=qA hu
  clear hu hg hok hv h hf
  go_enter Tryz.func59,Tryz.ntmps59
  go_upto_region 1 with(fail)
  go_simp
  refine A1 fun wa hq=>?_
  have hb2:Below w.heap.size w wa:=by rw [hq];exact((qB w.heap.size w).alloc (qC _) _).alloc (by simp) _
  have hB:Blk wa w.heap.size 79 cs:=by rw [hq];exact(Blk.new w 79 cs).alloc _
  have hR:Blk wa (w.heap.size+1) 79 (Ag 0 (List.replicate 32 0) none 0 0):=by rw [hq];exact Blk.newAt (w.alloc (.cells cs 79)) 79 _ (by simp)
  clear hq
  go_wp2_with(first
   |(refine Ab rfl 79 _ rfl w.heap.size rfl 79 cs _ hB Tryz.underlying79 rfl hs ?_)
   |(go_at_call 91;(with_reducible refine(Hu.out _ hb2).mono ?_);rintro e w2 ⟨rfl,hb3⟩;have hR2:=hR.ext hb3)
   |(refine Am rfl 79 _ rfl [] rfl _ G6 ?_)
   |(refine Ae rfl 79 _ _ rfl (w.heap.size+1) (Ag 0 (List.replicate 32 0) none 0 0) rfl rfl 79 _ hR2 D9 rfl (Ez _ _ _ _ _) ?_;intro w5 hB5 hg5;have hld:=Fq hB5 D9))
  refine bodyPost_ret (Ea Tryz.results59 rfl rfl hld) rfl ?_
  rw [Htk.out]
  exact⟨_,rfl,below_grown (hb2.trans (hb3.mono hb2.size)) hg5 (qD hb2.size hb3.size) (Nat.le_succ _),M9.zero _ _⟩
 ·have hg:Lk m p=some ⟨m.phys,m.regs,m.free++[p]⟩:=by unfold Lk;rw [if_pos hok]
  have hgd:O5 m p=⟨m.phys,m.regs,m.free++[p]⟩:=by unfold O5;rw [hg];rfl
  rw [hg,hgd]
  rw [hok] at hu
  simp only [Option.isSome_some]
  obtain⟨cs,hcs⟩:∃ cs,cs=Ag m.phys m.regs A m.free.length cap:=⟨_,rfl⟩
  rw [←hcs] at hs hf hu ⊢
  have hroom:=h.room
  have hlen:=h.len
  have Hcs:=qA hcs
  have Hu:=qA hu
  have H1:=qA h
  obtain⟨n,hn⟩:∃ n,n=m.free.length:=⟨_,rfl⟩
  rw [←hn] at hfew hroom hf
  have Hn:=qA hn
  clear hu hg hgd hok hv hcs h hn
  go_enter Tryz.func59,Tryz.ntmps59
  go_upto_region 1 with(fail)
  go_simp
  refine A1 fun wa hq=>?_
  have hb2:Below w.heap.size w wa:=by rw [hq];exact((qB w.heap.size w).alloc (qC _) _).alloc (by simp) _
  have hB:Blk wa w.heap.size 79 cs:=by rw [hq];exact(Blk.new w 79 cs).alloc _
  have hR:Blk wa (w.heap.size+1) 79 (Ag 0 (List.replicate 32 0) none 0 0):=by rw [hq];exact Blk.newAt (w.alloc (.cells cs 79)) 79 _ (by simp)
  clear hq
  go_upto_region 3 with(first
   |(refine Ab rfl 79 _ rfl w.heap.size rfl 79 cs _ hB Tryz.underlying79 rfl hs ?_)
   |(go_at_call 91;(with_reducible refine(Hu.out _ hb2).mono ?_);rintro e w2 ⟨rfl,hb3⟩))
  have hb4:=hb2.trans (hb3.mono hb2.size)
  replace hB:=hB.ext hb3
  replace hR:=hR.ext hb3
  have c33:=hB.cell 33
  rw [hf] at c33
  have hA2:Ar w2 w2.heap.size .i64 A m.free:=(H1.out.free.below hb4).mono hb4.size
  have hnl:A=none→n=0:=fun e=>by rw [Hn.out,(H1.out.nil e).1];rfl
  have hln:(m.free.map (Value.int .i64)).length=n*1:=by simp [Hn.out]
  have hcells:=qA hA2.cells
  have Hnl:=qA hnl
  have Hln:=qA hln
  clear hb2 hb3 hA2 hnl hln
  obtain⟨i0,hi,hz0,hz1,hz2⟩:=info_parts Oj
  go_upto_region 4 with(first
   |(go_at_call 92;(with_reducible refine(I1 A n cap (m.free.map (Value.int .i64)) _ (by omega) Hln.out (Fv _) hcells.out Hnl.out).mono ?_);rintro e w5 ⟨v5,rfl,hown5,hb5⟩;have hB5:=hB.ext hb5;have hR5:=hR.ext hb5;have hb6:=hb4.trans (hb5.mono hb4.size);have zz:=hb5.size)
   |(refine B0 rfl (.tmp 13) (.tmp 15) 32 rfl w2.heap.size 3 i0 _ 1 8 Tryz.underlying32 hi hz0 hz1 hz2 rfl (by decide) v5 n _ rfl (hown5.alloc _) (some ⟨w5.heap.size,0,none⟩) 1 1 [.int .i64 p] rfl rfl (fun h=>by cases h) (H8 w5 _ _) (by simp;rfl) (by unfold maxLen;omega) (by omega) (by simp;omega) ?_;intro v7 w7 hown7 hg7;have hB7:=(hB5.alloc (.cells #[.int .i64 p] 3)).grown hg7 (fun h=>by have:=hown5.lt _ h.symm;have:=hB.lt;omega);have hR7:=(hR5.alloc (.cells #[.int .i64 p] 3)).grown hg7 (fun h=>by have:=hown5.lt _ h.symm;have:=hR.lt;omega);have hb7:=(hb6.alloc hb6.size (.cells #[.int .i64 p] 3)).grown hg7 (by have:=hb6.size;simp;omega) (fun k hk=>by have:=hown5.lt _ hk;have:=hb4.size;omega);have c7:=hB7.cell 33;rw [hf] at c7;have f7:=hB7.frozen 33;obtain⟨A7,cap7,rfl,hl7,hn7,hA7,hc7,hg7'⟩:=Fs (l:=m.free++[p]) (show w7.ownsRow w2.heap.size 3 1 v7 (n+1) ((m.free++[p]).map (.int .i64)) by rw [List.map_append];exact hown7);have Hg7:=qA (show ∀ ad,A7=some ad→w.heap.size+1<ad.block from fun ad h=>qE hR.lt (hg7' ad h));have Hl7:=qA hl7;clear hg7' hg7 hown7 hl7))
  go_simp
  refine A1 fun w9 hw9=>?_
  have hB9:=hB7.set 33 (.slice A7 (n+1) cap7)
  have hb9:=hb7.setCell (p:=⟨w.heap.size,33,none⟩) (qC _) (.slice A7 (n+1) cap7)
  have hA9:=hA7.setCell (p:=⟨w.heap.size,33,none⟩) (.slice A7 (n+1) cap7) (fun ad h=>by have:=Hg7.out ad h;show ad.block≠w.heap.size;omega)
  have hR9:=hR7.far (p:=⟨w.heap.size,33,none⟩) (Nat.succ_ne_self _) (.slice A7 (n+1) cap7)
  have hend:cs.setIfInBounds 33 (.slice A7 (n+1) cap7)=Ag m.phys m.regs A7 (n+1) cap7:=by
   rw [Hcs.out]
   have:=Gn m.phys m.regs A A7 m.free.length cap (n+1) cap7 0 (m.regs.getD 0 0) hlen (by omega)
   have e1:m.regs.set 0 (m.regs.getD 0 0)=m.regs:=by
    have:m.regs.getD 0 0=m.regs[0]'(by omega):=by simp [List.getD,qI (show 0<m.regs.length by omega)]
    rw [this,List.set_getElem_self]
   have e2:(Ag m.phys m.regs A m.free.length cap).setIfInBounds (1+0) (.int .i64 (m.regs.getD 0 0))=Ag m.phys m.regs A m.free.length cap:=by
    have hr0:=Eh m.phys m.regs A m.free.length cap (i:=0) (by omega)
    apply Array.ext_getElem?
    intro i
    rw [Array.getElem?_setIfInBounds]
    split
    ·rename_i hi;subst hi;rw [hr0,if_pos (by rw [B3 _ _ _ _ _ hlen];omega)]
    ·rfl
   rw [e1,e2] at this
   exact this
  rw [hend] at hB9
  rw [←hw9] at hB9 hb9 hA9 hR9
  have hz9:w7.heap.size=w9.heap.size:=by rw [hw9];simp
  rw [hz9] at hA9
  clear hw9 hz9 hend hB hR hB5 hR5 hb6 hB7 hR7 hb7 hA7 c7 f7 hown5 hb5
  have hs9:=D6 (phys:=m.phys) (A:=A7) (n:=n+1) (cap:=cap7) hlen
  have h19:=Ez m.phys m.regs A7 (n+1) cap7
  obtain⟨cs9,h9⟩:∃ cs9,cs9=Ag m.phys m.regs A7 (n+1) cap7:=⟨_,rfl⟩
  have hsz9:(Ag m.phys m.regs A7 (n+1) cap7).size=(Ag 0 (List.replicate 32 0) none 0 0).size:=by rw [B3 _ _ _ _ _ hlen];rfl
  rw [←h9] at hsz9 hs9 h19 hB9
  have Hv9:=qA h9
  clear h9
  go_wp2_with(first
   |(refine Ab rfl 79 _ rfl w.heap.size rfl 79 cs9 _ hB9 Tryz.underlying79 rfl hs9 ?_)
   |(refine Ae rfl 79 _ _ rfl (w.heap.size+1) cs9 rfl rfl 79 _ hR9 hs9 hsz9 h19 ?_;intro wx hBx hgx;have hld:=Fq hBx hs9))
  refine bodyPost_ret (Ea Tryz.results59 rfl rfl hld) rfl ?_
  have hm1:=H1.out
  have hlx:(m.free++[p]).length=n+1:=by simp [Hn.out]
  refine⟨_,rfl,below_grown hb9 hgx hb9.size (Nat.le_succ _),A7,cap7,by rw [Hv9.out];show _=Value.agg (Ag m.phys m.regs A7 (m.free++[p]).length cap7);rw [hlx],?_,fun ad h=>by have:=Hg7.out ad h;omega⟩
  have hA10:=(hA9.grown (qC _) hgx (fun ad h=>by have:=Hg7.out ad h;omega)).mono hgx.size
  refine⟨hm1.p0,hm1.p1,hlen,by show(m.free++[p]).length≤_;omega,by show(m.free++[p]).length≤_;omega,hA10,hn7,fun x hx=>?_⟩
  rcases List.mem_append.1 hx with hx | hx
  ·exact hm1.wf x (List.mem_append_left _ hx)
  ·rcases List.mem_append.1 hx with hx | hx
   ·exact hm1.wf x (List.mem_append_right _ hx)
   ·simp at hx;subst hx;exact⟨hp0,hp1⟩
def N6 (m:Ax) (rd old:Int):Ax:=(M6 m rd old).getD Ax.zero
theorem Aix {w:World} {m:Ax} {v:Value} (h:Rn w m v) (rd p:Int) (hr0 : -9223372036854775808≤rd) (hr1:rd≤9223372036854775807) (hp0 : -9223372036854775808≤p) (hp1:p≤9223372036854775807) (hfew:m.free.length<17592186044000) :
  Calls Tryz.prog 101 #[v, .int .i64 rd, .int .i64 p] w fun e w'=>∃ v',e = .returned (.tuple #[v', .bool (M6 m rd p).isSome])∧Below w.heap.size w w'∧M9 w' w.heap.size (N6 m rd p) v':=by
 have hv:=h
 have hu:=fun W (hb:Below w.heap.size w W)=>X4 (h.ext hb) p hp0 hp1
 obtain⟨A,cap,rfl,h⟩:=h
 have hs:=D6 (phys:=m.phys) (A:=A) (n:=m.free.length) (cap:=cap) h.len
 have hf:=D4 m.phys m.regs A m.free.length cap h.len
 have hrg:=fun i=>Eh m.phys m.regs A m.free.length cap (i:=i)
 by_cases hok:Gy m p=true∧1≤rd∧rd≤31
 ·obtain⟨k,rfl⟩:=qH (show 0≤rd by omega)
  have hg:M6 m (k:Int) p=some ⟨m.phys,m.regs.set k p,m.regs.getD k 0::m.free⟩:=by unfold M6;rw [if_pos hok];rfl
  have hgd:N6 m (k:Int) p=⟨m.phys,m.regs.set k p,m.regs.getD k 0::m.free⟩:=by unfold N6;rw [hg];rfl
  rw [hg,hgd]
  rw [hok.1] at hu
  obtain⟨hot,hr1,hr2⟩:=hok
  simp only [Option.isSome_some]
  have hrk:=hrg k (by rw [h.len];omega)
  obtain⟨cs,hcs⟩:∃ cs,cs=Ag m.phys m.regs A m.free.length cap:=⟨_,rfl⟩
  rw [←hcs] at hs hf hu hrk ⊢
  have hroom:=h.room
  have hlen:=h.len
  have Hcs:=qA hcs
  have Hu:=qA hu
  have H1:=qA h
  obtain⟨n,hn⟩:∃ n,n=m.free.length:=⟨_,rfl⟩
  rw [←hn] at hfew hroom hf
  have Hn:=qA hn
  have hrw:m.regs.getD k 0∈m.regs:=by
   have:k<m.regs.length:=by omega
   simp [List.getD,qI this]
  have hoo:=h.wf _ (List.mem_append_left _ hrw)
  clear hu hg hgd hot hv hcs h hn hrg hrw
  generalize m.regs.getD k 0=old at *
  go_enter Tryz.func101,Tryz.ntmps101
  go_upto_region 1 with(fail)
  go_simp
  refine A1 fun wa hq=>?_
  have hb2:Below w.heap.size w wa:=by rw [hq];exact((qB w.heap.size w).alloc (qC _) _).alloc (by simp) _
  have hB:Blk wa w.heap.size 79 cs:=by rw [hq];exact(Blk.new w 79 cs).alloc _
  have hR:Blk wa (w.heap.size+1) 79 (Ag 0 (List.replicate 32 0) none 0 0):=by rw [hq];exact Blk.newAt (w.alloc (.cells cs 79)) 79 _ (by simp)
  clear hq
  go_upto_region 3 with(first
   |(refine Ab rfl 79 _ rfl w.heap.size rfl 79 cs _ hB Tryz.underlying79 rfl hs ?_)
   |(go_at_call 91;(with_reducible refine(Hu.out _ hb2).mono ?_);rintro e w2 ⟨rfl,hb3⟩))
  go_simp
  have hb4:=hb2.trans (hb3.mono hb2.size)
  replace hB:=hB.ext hb3
  replace hR:=hR.ext hb3
  have hA2:Ar w2 w2.heap.size .i64 A m.free:=(H1.out.free.below hb4).mono hb4.size
  have HA2:=qA hA2
  clear hb2 hb3 hA2
  obtain⟨i0,hi,hz0,hz1,hz2⟩:=info_parts Oj
  refine Ad 11423 288 11711 [0,1,2,3,4,5,7,8,10,11,6,9,12,13,14] (by kernel_rfl) (by kernel_rfl) (by kernel_rfl) rfl ?_
  repeat'(first
   |refine rZ ?_
   |(refine' oR _ (by decide) (by decide) (by decide) (fun wq hwq K hK=>?_) ?_ ?_;rotate_left 1;(· have c33:=(hB.ext hwq).cell 33;rw [hf] at c33;have ck:=(hB.ext hwq).cell (1+k);rw [hrk] at ck;go_wp2_with(fail);all_goals exact hK);rfl)
   |fail)
  refine oB (fun w1 hw1 K1 hK1=>?_)
  have hbw:Below w2.heap.size w2 w1:=by rw [hw1];exact(qB _ _).drew
  replace hb4:=hb4.trans (hbw.mono hb4.size)
  replace hB:=hB.ext hbw
  replace hR:=hR.ext hbw
  replace HA2:Hid (Ar w1 w1.heap.size .i64 A m.free):=qA ((HA2.out.below hbw).mono hbw.size)
  clear hw1
  have hown1:=World.ownsRow_lit (base:=w1.heap.size) (e:=3) (size:=1) w1 #[.int .i64 old] 1 (qC _) (by unfold maxLen;omega) rfl
  have hz1':=hbw.size
  go_wp2_with(fail)
  refine hK1 _ _ (hbw.alloc hbw.size _) ?_
  simp only [Act.put,sA,sS,sZ]
  clear hK1 K1
  refine oQ rfl rfl ?_
  refine oS (fun wx hwx K1 hK1=>?_)
  subst hwx
  have hnews:=((HA2.out.below ((qB _ w1).alloc (qC _) (.cells #[.int .i64 old] 3))).cells:∀ ad,A=some ad→∀ j u,(m.free.map (Value.int .i64))[j]? = some u→(w1.alloc (.cells #[.int .i64 old] 3)).cell? (ad.add j)=some u)
  refine Fw (.tmp 27) (.tmp 29) 32 rfl w1.heap.size 3 i0 _ 1 8 Tryz.underlying32 hi hz0 hz1 hz2 rfl (by decide) (.slice (some ⟨w1.heap.size,0,none⟩) 1 1) 1 _ rfl hown1 A n cap (m.free.map (.int .i64)) rfl (by simp [Hn.out]) (fun e=>by have:=H1.out.nil e;rw [Hn.out,this.1];exact⟨rfl,this.2⟩) hnews (Fv _) (by unfold maxLen;omega) (by omega) (by simp) ?_
  intro v7 w7 hown7 hg7
  have hB1:=hB.lt
  have hR1:=hR.lt
  replace hB:=(hB.alloc (.cells #[.int .i64 old] 3)).grown hg7 (by simp [Value.ownBlock];omega)
  replace hR:=(hR.alloc (.cells #[.int .i64 old] 3)).grown hg7 (by simp [Value.ownBlock];omega)
  replace hb4:=(hb4.alloc hb4.size (.cells #[.int .i64 old] 3)).grown hg7 (by have:=hb4.size;simp;omega) (fun k hk=>by cases hk;exact hb4.size)
  obtain⟨A7,cap7,rfl,hl7,hn7,hA7,hc7,hg7'⟩:=Fs (l:=old::m.free) (show w7.ownsRow w1.heap.size 3 1 v7 (1+n) ((old::m.free).map (.int .i64)) from hown7)
  have Hg7:=qA (show ∀ ad,A7=some ad→w.heap.size+1<ad.block from fun ad h=>qE hR1 (hg7' ad h))
  have Hl7:=qA hl7
  refine hK1 _ _ (fun _=>True) trivial ?_
  simp only [Act.put,sA,sS,sZ]
  clear hK1 K1 hg7' hg7 hown7 hl7 hnews hown1 hB1 hR1 hbw hz1'
  refine oQ rfl rfl ?_
  refine oS (fun wx hwx K1 hK1=>?_)
  subst hwx
  have ck:=hB.cell (1+k)
  rw [hrk] at ck
  have fk:=hB.frozen (1+k)
  go_wp2_with(fail)
  refine hK1 undef _ (fun _=>True) trivial ?_
  simp only [Act.put,sA,sS,sZ]
  clear hK1 K1 ck fk
  replace hB:=hB.set (1+k) (.int .i64 p)
  replace hb4:=hb4.setCell (p:=⟨w.heap.size,1+k,none⟩) (qC _) (.int .i64 p)
  replace hA7:=hA7.setCell (p:=⟨w.heap.size,1+k,none⟩) (.int .i64 p) (fun ad h=>by have:=Hg7.out ad h;show ad.block≠w.heap.size;omega)
  replace hR:=hR.far (p:=⟨w.heap.size,1+k,none⟩) (Nat.succ_ne_self _) (.int .i64 p)
  refine rO ?_
  refine oS (fun wx hwx K1 hK1=>?_)
  subst hwx
  have ck:=hB.cell 33
  have e33:(cs.setIfInBounds (1+k) (.int .i64 p))[33]? = cs[33]? := Array.getElem?_setIfInBounds_ne (by omega)
  rw [e33,hf] at ck
  have fk:=hB.frozen 33
  go_wp2_with(fail)
  refine hK1 undef _ (fun _=>True) trivial ?_
  simp only [Act.put,sA,sS,sZ]
  clear hK1 K1 ck fk e33
  replace hB:=hB.set 33 (.slice A7 (1+n) cap7)
  replace hb4:=hb4.setCell (p:=⟨w.heap.size,33,none⟩) (qC _) (.slice A7 (1+n) cap7)
  replace hA7:=hA7.setCell (p:=⟨w.heap.size,33,none⟩) (.slice A7 (1+n) cap7) (fun ad h=>by have:=Hg7.out ad h;show ad.block≠w.heap.size;omega)
  replace hR:=hR.far (p:=⟨w.heap.size,33,none⟩) (Nat.succ_ne_self _) (.slice A7 (1+n) cap7)
  have hend:(cs.setIfInBounds (1+k) (.int .i64 p)).setIfInBounds 33 (.slice A7 (1+n) cap7)=Ag m.phys (m.regs.set k p) A7 (1+n) cap7:=by rw [Hcs.out];exact Gn m.phys m.regs _ A7 _ _ _ cap7 k p hlen (by omega)
  rw [hend] at hB
  have hset:(m.regs.set k p).length=32:=by simp [hlen]
  refine Aj ?_
  rintro w9 hw9
  have hz9:wx.heap.size=w9.heap.size:=by rw [hw9];simp
  rw [←hw9] at hB hb4 hA7 hR
  rw [hz9] at hA7
  clear hw9 hend hz9
  have hs9:=D6 (phys:=m.phys) (A:=A7) (n:=1+n) (cap:=cap7) hset
  have h19:=Ez m.phys (m.regs.set k p) A7 (1+n) cap7
  obtain⟨cs9,h9⟩:∃ cs9,cs9=Ag m.phys (m.regs.set k p) A7 (1+n) cap7:=⟨_,rfl⟩
  have Hv9:=qA h9
  have hsz9:(Ag m.phys (m.regs.set k p) A7 (1+n) cap7).size=(Ag 0 (List.replicate 32 0) none 0 0).size:=by rw [B3 _ _ _ _ _ hset];rfl
  rw [←h9] at hsz9 hs9 h19 hB
  clear h9
  go_wp2_with(first
   |(refine Ab rfl 79 _ rfl w.heap.size rfl 79 cs9 _ hB Tryz.underlying79 rfl hs9 ?_)
   |(refine Ae rfl 79 _ _ rfl (w.heap.size+1) cs9 rfl rfl 79 _ hR hs9 hsz9 h19 ?_;intro wx hBx hgx;have hld:=Fq hBx hs9))
  refine bodyPost_ret (Ea Tryz.results101 rfl rfl hld) rfl ?_
  have hm1:=H1.out
  have hlx:(old::m.free).length=1+n:=by simp [Hn.out];omega
  refine⟨_,rfl,below_grown hb4 hgx hb4.size (Nat.le_succ _),A7,cap7,by rw [Hv9.out];show _=Value.agg (Ag m.phys (m.regs.set k p) A7 (old::m.free).length cap7);rw [hlx],?_,fun ad h=>by have:=Hg7.out ad h;omega⟩
  have hA10:=(hA7.grown (qC _) hgx (fun ad h=>by have:=Hg7.out ad h;omega)).mono hgx.size
  refine⟨hm1.p0,hm1.p1,hset,by show(old::m.free).length≤_;omega,by show(old::m.free).length≤_;omega,hA10,hn7,fun x hx=>?_⟩
  rcases List.mem_append.1 hx with hx | hx
  ·rcases List.mem_or_eq_of_mem_set hx with hx | rfl
   ·exact hm1.wf x (List.mem_append_left _ hx)
   ·exact⟨hp0,hp1⟩
  ·rcases List.mem_cons.1 hx with rfl | hx
   ·exact hoo
   ·exact hm1.wf x (List.mem_append_right _ hx)
 ·have hg:M6 m rd p=none:=by unfold M6;rw [if_neg hok]
  have Htk:=qA (show N6 m rd p=Ax.zero by unfold N6;rw [hg];rfl)
  rw [hg]
  have hok':Gy m p=false∨(Gy m p=true∧rd<1)∨(Gy m p=true∧1≤rd∧31<rd):=by
   rcases ho:Gy m p with _ | _
   ·exact Or.inl rfl
   ·by_cases h1:rd<1
    ·exact Or.inr (Or.inl ⟨rfl,h1⟩)
    ·by_cases h2:31<rd
     ·exact Or.inr (Or.inr ⟨rfl,by omega,h2⟩)
     ·exact absurd ⟨ho,by omega,by omega⟩ hok
  generalize Ag m.phys m.regs A m.free.length cap=cs at *
  generalize Gy m p=X at *
  have Hu:=qA hu
  clear hu hg hok hv h hf hrg
  rcases hok' with rfl | ⟨rfl,h1⟩ | ⟨rfl,h1,h2⟩
  ·
   go_enter Tryz.func101,Tryz.ntmps101
   go_upto_region 1 with(fail)
   go_simp
   refine A1 fun wa hq=>?_
   have hb2:Below w.heap.size w wa:=by rw [hq];exact((qB w.heap.size w).alloc (qC _) _).alloc (by simp) _
   have hB:Blk wa w.heap.size 79 cs:=by rw [hq];exact(Blk.new w 79 cs).alloc _
   have hR:Blk wa (w.heap.size+1) 79 (Ag 0 (List.replicate 32 0) none 0 0):=by rw [hq];exact Blk.newAt (w.alloc (.cells cs 79)) 79 _ (by simp)
   clear hq
   go_wp2_with(first
    |(refine Ab rfl 79 _ rfl w.heap.size rfl 79 cs _ hB Tryz.underlying79 rfl hs ?_)
    |(go_at_call 91;(with_reducible refine(Hu.out _ hb2).mono ?_);rintro e w2 ⟨rfl,hb3⟩;have hR2:=hR.ext hb3)
    |(refine Am rfl 79 _ rfl [] rfl _ G6 ?_)
    |(refine Ae rfl 79 _ _ rfl (w.heap.size+1) (Ag 0 (List.replicate 32 0) none 0 0) rfl rfl 79 _ hR2 D9 rfl (Ez _ _ _ _ _) ?_;intro w5 hB5 hg5;have hld:=Fq hB5 D9))
   refine bodyPost_ret (Ea Tryz.results101 rfl rfl hld) rfl ?_
   rw [Htk.out]
   exact⟨_,rfl,below_grown (hb2.trans (hb3.mono hb2.size)) hg5 (qD hb2.size hb3.size) (Nat.le_succ _),M9.zero _ _⟩
  ·
   go_enter Tryz.func101,Tryz.ntmps101
   go_upto_region 1 with(fail)
   go_simp
   refine A1 fun wa hq=>?_
   have hb2:Below w.heap.size w wa:=by rw [hq];exact((qB w.heap.size w).alloc (qC _) _).alloc (by simp) _
   have hB:Blk wa w.heap.size 79 cs:=by rw [hq];exact(Blk.new w 79 cs).alloc _
   have hR:Blk wa (w.heap.size+1) 79 (Ag 0 (List.replicate 32 0) none 0 0):=by rw [hq];exact Blk.newAt (w.alloc (.cells cs 79)) 79 _ (by simp)
   clear hq
   go_wp2_with(first
    |(refine Ab rfl 79 _ rfl w.heap.size rfl 79 cs _ hB Tryz.underlying79 rfl hs ?_)
    |(go_at_call 91;(with_reducible refine(Hu.out _ hb2).mono ?_);rintro e w2 ⟨rfl,hb3⟩;have hR2:=hR.ext hb3)
    |(refine Am rfl 79 _ rfl [] rfl _ G6 ?_)
    |(refine Ae rfl 79 _ _ rfl (w.heap.size+1) (Ag 0 (List.replicate 32 0) none 0 0) rfl rfl 79 _ hR2 D9 rfl (Ez _ _ _ _ _) ?_;intro w5 hB5 hg5;have hld:=Fq hB5 D9))
   refine bodyPost_ret (Ea Tryz.results101 rfl rfl hld) rfl ?_
   rw [Htk.out]
   exact⟨_,rfl,below_grown (hb2.trans (hb3.mono hb2.size)) hg5 (qD hb2.size hb3.size) (Nat.le_succ _),M9.zero _ _⟩
  ·
   go_enter Tryz.func101,Tryz.ntmps101
   go_upto_region 1 with(fail)
   go_simp
   refine A1 fun wa hq=>?_
   have hb2:Below w.heap.size w wa:=by rw [hq];exact((qB w.heap.size w).alloc (qC _) _).alloc (by simp) _
   have hB:Blk wa w.heap.size 79 cs:=by rw [hq];exact(Blk.new w 79 cs).alloc _
   have hR:Blk wa (w.heap.size+1) 79 (Ag 0 (List.replicate 32 0) none 0 0):=by rw [hq];exact Blk.newAt (w.alloc (.cells cs 79)) 79 _ (by simp)
   clear hq
   go_wp2_with(first
    |(refine Ab rfl 79 _ rfl w.heap.size rfl 79 cs _ hB Tryz.underlying79 rfl hs ?_)
    |(go_at_call 91;(with_reducible refine(Hu.out _ hb2).mono ?_);rintro e w2 ⟨rfl,hb3⟩;have hR2:=hR.ext hb3)
    |(refine Am rfl 79 _ rfl [] rfl _ G6 ?_)
    |(refine Ae rfl 79 _ _ rfl (w.heap.size+1) (Ag 0 (List.replicate 32 0) none 0 0) rfl rfl 79 _ hR2 D9 rfl (Ez _ _ _ _ _) ?_;intro w5 hB5 hg5;have hld:=Fq hB5 D9))
   refine bodyPost_ret (Ea Tryz.results101 rfl rfl hld) rfl ?_
   rw [Htk.out]
   exact⟨_,rfl,below_grown (hb2.trans (hb3.mono hb2.size)) hg5 (qD hb2.size hb3.size) (Nat.le_succ _),M9.zero _ _⟩
end Go.Proofs.YtapgojgcmlnbgaaGreatDoor
namespace Go.Proofs.YtapgojgcmlnbgaaGreatDoor
open Go
structure Slt where
 seq:Int
 done:Bool
 deriving DecidableEq
instance:Inhabited Slt:=⟨⟨0,false⟩⟩
def Cy {α:Type} (p:α→Bool):List α→Int→Int
 |[],_ => -1
 |x::l,k=>if p x=true then k else Cy p l (k+1)
theorem E5 {α:Type} (p:α→Bool):∀ (l:List α) (k:Nat),(Cy p l k = -1∧∀ x∈l,p x=false)∨(∃ j x,Cy p l k=((k+j:Nat):Int)∧l[j]? = some x∧p x=true∧∀ i y,i<j→l[i]? = some y→p y=false)
 |[],k=>Or.inl ⟨rfl,fun x hx=>by cases hx⟩
 |x::l,k=>by
  unfold Cy
  rcases hp:p x with _ | _
  ·rw [if_neg (by simp)]
   rcases E5 p l (k+1) with⟨h1,h2⟩ | ⟨j,y,h1,h2,h3,h4⟩
   ·left
    refine⟨by simpa using h1,fun y hy=>?_⟩
    rcases List.mem_cons.1 hy with rfl | hy
    ·exact hp
    ·exact h2 y hy
   ·right
    refine⟨j+1,y,?_,h2,h3,fun i z hi hz=>?_⟩
    ·rw [show((k:Int)+1)=((k+1:Nat):Int) by omega,h1];congr 1;omega
    ·cases i with
     |zero=>simp at hz;subst hz;exact hp
     |succ i=>exact h4 i z (by omega) (by simpa using hz)
  ·rw [if_pos rfl]
   exact Or.inr ⟨0,x,by simp,rfl,hp,fun i y hi=>by omega⟩
def I8 (l:List Slt) (room seq:Int):Option (List Slt):=if room≤l.length∨(l.any fun s=>decide (seq≤s.seq))=true then none else some (l++[⟨seq,false⟩])
def Ii:List Slt→Int→Option (List Slt)
 |[],_=>none
 |s::l,seq=>if s=⟨seq,false⟩ then some (⟨seq,true⟩::l) else (Ii l seq).map (s::·)
def Dy:List Slt→Int→Nat
 |[],_=>0
 |s::l,most=>if 0<most∧s.done=true then 1+Dy l (most - 1) else 0
def Nb (l:List Slt) (seq:Int):List Slt:=l.filter fun s=>decide (s.seq<seq)
def Lj (l:List Slt) (seq:Int):List Int:=((l.filter fun s=>decide (seq≤s.seq)).map (·.seq)).reverse
theorem Afr (l:List Slt) (seq:Int):Ii l seq=(if Cy (fun s=>decide (s=⟨seq,false⟩)) l 0<0 then none else some (l.set (Cy (fun s=>decide (s=⟨seq,false⟩)) l 0).toNat ⟨seq,true⟩)):=by
 have key:∀ (l:List Slt),(∀ x∈l,decide (x=(⟨seq,false⟩:Slt))=false)→Ii l seq=none:=by
  intro l
  induction l with
  |nil=>intro _;rfl
  |cons x l ih=>
   intro h
   unfold Ii
   have hx:=of_decide_eq_false (h x (by simp))
   rw [if_neg hx,ih fun y hy=>h y (by simp [hy])]
   rfl
 have key2:∀ (l:List Slt) (j:Nat) (x:Slt),l[j]? = some x→x=⟨seq,false⟩→(∀ i y,i<j→l[i]? = some y→y≠⟨seq,false⟩)→Ii l seq=some (l.set j ⟨seq,true⟩):=by
  intro l
  induction l with
  |nil=>intro j x h;cases h
  |cons y l ih=>
   intro j x h1 h2 h3
   unfold Ii
   cases j with
   |zero=>
    simp at h1
    subst h1
    rw [if_pos h2]
    rfl
   |succ j=>
    rw [if_neg (h3 0 y (by omega) rfl),ih j x (by simpa using h1) h2 fun i z hi hz=>h3 (i+1) z (by omega) (by simpa using hz)]
    rfl
 rcases E5 (fun s=>decide (s=(⟨seq,false⟩:Slt))) l 0 with⟨h1,h2⟩ | ⟨j,x,h1,h2,h3,h4⟩
 ·have h1':Cy (fun s=>decide (s=(⟨seq,false⟩:Slt))) l 0 = -1:=h1
  rw [h1',if_pos (by omega),key l h2]
 ·have h1':Cy (fun s=>decide (s=(⟨seq,false⟩:Slt))) l 0=j:=by simpa using h1
  rw [h1',if_neg (by omega)]
  exact key2 l j x h2 (of_decide_eq_true h3) fun i y hi hy=>of_decide_eq_false (h4 i y hi hy)
theorem Aem:∀ (l:List Slt) (most:Int),Dy l most≤l.length
 |[],_=>qC _
 |s::l,most=>by
  unfold Dy
  split
  ·have:=Aem l (most - 1)
   simp;omega
  ·exact Nat.zero_le _
theorem On:∀ (l:List Slt) (most:Int),0≤most→(Dy l most:Int)≤most
 |[],_,h=>h
 |s::l,most,h=>by
  unfold Dy
  split
  ·have:=On l (most - 1) (by omega)
   omega
  ·exact h
theorem Aih (l:List Slt) {most:Int} (h:most≤0):Dy l most=0:=by
 cases l with
 |nil=>rfl
 |cons s l=>unfold Dy;rw [if_neg (by omega)]
theorem Aco (l:List Slt) (seq:Int):(Nb l seq).length+(Lj l seq).length=l.length:=by
 unfold Nb Lj
 induction l with
 |nil=>rfl
 |cons s l ih=>
  simp only [List.length_reverse,List.length_map] at ih ⊢
  by_cases h:s.seq<seq
  ·rw [List.filter_cons_of_pos (by simpa using h),List.filter_cons_of_neg (by simp;omega)]
   simp;omega
  ·rw [List.filter_cons_of_neg (by simpa using h),List.filter_cons_of_pos (by simp;omega)]
   simp;omega
structure Sl (l:List Slt) (last next:Int):Prop where
 rise:(l.map (·.seq)).Pairwise (· < ·)
 lo:∀ s∈l,last<s.seq
 hi:∀ s∈l,s.seq<next
theorem Sl.pushOk {l:List Slt} {last next:Int} (h:Sl l last next) (room:Int):I8 l room next=if room≤l.length then none else some (l++[⟨next,false⟩]):=by
 have ha:(l.any fun s=>decide (next≤s.seq))=false:=by
  rw [List.any_eq_false]
  intro s hs
  have:=h.hi s hs
  simp;omega
 unfold I8
 rw [ha]
 simp
theorem Sl.seqs {l l':List Slt} {last next:Int} (h:Sl l last next) (hm:l'.map (·.seq)=l.map (·.seq)):Sl l' last next:=by
 have key:∀ s∈l',∃ t∈l,t.seq=s.seq:=fun s hs=>by
  have:s.seq∈l.map (·.seq):=by rw [←hm];exact List.mem_map_of_mem hs
  exact List.mem_map.1 this
 refine⟨by rw [hm];exact h.rise,fun s hs=>?_,fun s hs=>?_⟩
 ·obtain⟨t,ht,he⟩:=key s hs
  rw [←he];exact h.lo t ht
 ·obtain⟨t,ht,he⟩:=key s hs
  rw [←he];exact h.hi t ht
theorem Sl.sub {l l':List Slt} {last next:Int} (h:Sl l last next) (hs:l'.Sublist l):Sl l' last next:=
 ⟨h.rise.sublist (hs.map _),fun s m=>h.lo s (hs.subset m),fun s m=>h.hi s (hs.subset m)⟩
end Go.Proofs.YtapgojgcmlnbgaaGreatDoor
namespace Go.Proofs.YtapgojgcmlnbgaaGreatDoor
def G0 (m:Int):Int:=min (max m 0) 4
theorem Aa9 (m:Int):0≤G0 m:=by unfold G0;omega
theorem Qw (m:Int):G0 m≤4:=by unfold G0;omega
def hasB (a:Acc) (p:Int):Bool:=decide (a.at_≤p)&&decide (p<a.at_+G0 a.many)&&decide (p<4294967296)
def Fb (s a:Acc):Nat→Bool
 |0=>false
 |n+1=>(hasB s (s.at_+(4 - (n+1:Nat)))&&hasB a (s.at_+(4 - (n+1:Nat)))) || Fb s a n
def Qx (s a:Acc):Bool:=Fb s a 4
theorem Wr (s a:Acc) (k:Nat) (hk:k<4):Fb s a (4 - k)=((hasB s (s.at_+k)&&hasB a (s.at_+k)) || Fb s a (4 - (k+1))):=by
 obtain⟨n,hn⟩:∃ n,4 - k=n+1:=⟨3 - k,by omega⟩
 have e:((4:Int) - ((n+1:Nat):Int))=(k:Int):=by omega
 rw [hn,show 4 - (k+1)=n from by omega,Fb,e]
theorem Y9 (s a:Acc) (k:Nat) (hk:G0 s.many≤k):Fb s a (4 - k)=false:=by
 obtain⟨n,hn⟩:∃ n,n=4 - k:=⟨_,rfl⟩
 have hn':4≤n+k:=by omega
 clear hn
 rw [show 4 - k=4 - k from rfl]
 generalize hm:4 - k=m
 have hm4:m≤4 - k:=by omega
 clear hm
 induction m with
 |zero=>rfl
 |succ m ih=>
  rw [Fb,ih (by omega)]
  have:hasB s (s.at_+(4 - ((m+1:Nat):Int)))=false:=by
   unfold hasB
   rw [qG (p:=s.at_+(4 - ((m+1:Nat):Int))<s.at_+G0 s.many) (by omega),Bool.and_false,Bool.false_and]
  rw [this]
  rfl
def Fg (s:Acc) (x:Int×Bool) (a:Acc):Int×Bool:=
 if !a.store&&a.known&&a.done&&decide (s.seq<a.seq)&&Qx s a&&(!x.2 || decide (a.seq<x.1)) then (a.seq,true) else x
def I3 (seq:Int) (s:Acc):Bool:=s.store&&s.known&&decide (s.seq=seq)
def If (l:List Acc) (seq:Int):List Acc→Int×Bool
 |[]=>(0,false)
 |s::r=>if I3 seq s then l.foldl (Fg s) (0,false) else If l seq r
def Ix (l:List Acc) (seq:Int):Int×Bool:=If l seq l
def Ln (a:Acc):Option Acc→Bool
 |none=>true
 |some c=>decide (c.seq≤a.seq)
def Cr (seq p:Int) (b:Option Acc) (a:Acc):Option Acc:=
 if a.store&&a.known&&decide (a.seq<seq)&&hasB a p&&Ln a b then some a else b
def Rw (a:Acc) (p:Int):Int:=a.data / ((2 ^ (8*(p - a.at_).toNat):Nat):Int)%256
def byteOf (m:List Int) (p:Int):Option Acc→Int
 |some a=>Rw a p
 |none=>m.getD p.toNat 0
def Df (l:List Acc) (m:List Int) (seq p:Int):Int:=byteOf m p (l.foldl (Cr seq p) none)
def Ft (seq:Int) (s:Bool) (a:Acc):Bool:=s&&(!a.store || decide (seq≤a.seq) || a.known)
def Vz (l:List Acc) (seq:Int):Bool:=l.foldl (Ft seq) true
def Pw (l:List Acc) (m:List Int) (seq p many:Int):Int:=
 if many=1 then Df l m seq p
 else if many=2 then Df l m seq p+256*Df l m seq (p+1)
 else Df l m seq p+256*Df l m seq (p+1)+65536*Df l m seq (p+2)+16777216*Df l m seq (p+3)
def Gv (m:List Int) (p many:Int):Bool:=(decide (many=1) || decide (many=2) || decide (many=4))&&Cu m.length p many
def Eb (l:List Acc) (m:List Int) (seq p many:Int):Int×Bool×Bool:=
 if Gv m p many then (Pw l m seq p many,true,Vz l seq) else (0,false,false)
theorem Wd (a:Acc) (p:Int) (h0:0≤a.data):0≤Rw a p∧Rw a p≤255:=by
 unfold Rw
 have:0≤a.data / ((2 ^ (8*(p - a.at_).toNat):Nat):Int):=Int.ediv_nonneg h0 (Int.natCast_nonneg _)
 omega
theorem Ahe {l:List Acc} {seq p:Int}:∀ {b:Option Acc} {c:Acc},l.foldl (Cr seq p) b=some c→c∈l∨b=some c:=by
 induction l with
 |nil=>intro b c h;exact .inr h
 |cons a l ih=>
  intro b c h
  rw [List.foldl_cons] at h
  rcases ih h with h1 | h1
  ·exact .inl (qP _ h1)
  ·unfold Cr at h1
   split at h1
   ·injection h1 with h1
    subst h1
    exact .inl List.mem_cons_self
   ·exact .inr h1
theorem Fj {l:List Acc} {m:List Int} (hw:∀ a∈l,a.Wf) (hb:Bytes m) (seq p:Int):0≤Df l m seq p∧Df l m seq p≤255:=by
 unfold Df
 cases h:l.foldl (Cr seq p) none with
 |none=>exact hb.getD _
 |some a=>
  rcases Ahe h with h1 | h1
  ·exact Wd a p (hw a h1).data0
  ·cases h1
end Go.Proofs.YtapgojgcmlnbgaaGreatDoor
