/- Parts of a proof. -/
import Derived.Test.YtapgojgcmlnbgaaGreatDoorTZ
import Derived.Test.YtapgojgcmlnbgaaGreatDoorT22
import Derived.Test.YtapgojgcmlnbgaaGreatDoorT09
import Derived.Test.YtapgojgcmlnbgaaGreatDoorT18
import Derived.Great.BuildSlice
set_option linter.unusedSimpArgs false
set_option linter.unusedVariables false
set_option maxRecDepth 100000
set_option maxHeartbeats 16000000
namespace Go.Proofs.YtapgojgcmlnbgaaGreatDoor
open Go Go.RowKit
theorem H4.own {w:World} {base:Nat} {e:TypeId} {A:Option Addr} {n cap:Nat} {l:List (List UInt8)} (h:w.ownsRow base e 1 (.slice A n cap) n (l.map sV)):H4 w w.heap.size A l:=fun hne=>by
 have hln:l.length=n:=by simpa using h.1
 rcases h.2 with⟨_,h0⟩ | ⟨g,c,cur,hv,_,hh,_⟩
 ·subst h0
  exact absurd (qN hln) hne
 ·injection hv with hA _ _
  subst hA
  have hlt:g<w.heap.size:=by
   rcases Nat.lt_or_ge g w.heap.size with h' | h'
   ·exact h'
   ·rw [Array.getElem?_eq_none h'] at hh;cases hh
  refine⟨g,0,rfl,hlt,fun i v hi=>?_⟩
  have:=World.ownsRow.cells h (g:=g) rfl i (sV v) (by simp [hi])
  rwa [Addr.add_lit] at this
theorem Z7 (u:Nat) {j:Nat} (h:j<4):(Bb (u:Int)).take (j+1)=(Bb (u:Int)).take j++[((u / 256 ^ j:Nat):Int)%256]:=by
 unfold Bb
 match j,h with
 |0,_=>simp
 |1,_=>simp
 |2,_=>simp [show(256:Nat) ^ 2=65536 from rfl]
 |3,_=>simp [show(256:Nat) ^ 3=16777216 from rfl]
theorem Af6:(Tryz.prog.info? 2).map (fun i=>(i.zero,i.size,i.bytes))=some (some (.int .i64 0),1,8):=by kernel_rfl
theorem Sk {P:Program} {ops:Array Oper} {rest:List Oper} {o:Oper} {a:Act} {w:World} {Q:Exit→Act→World→Prop} (hg:o.guard=none) (t e:TypeId) (len:Nat) (parts:Array (Nat×Operand)) (ho:o.op = .buildSlice t len parts)
  (ie:TypeInfo) (hie:P.info? e=some ie) {z:Value} (hz:ie.zero=some z) (hsz:ie.size=1) (hu:P.underlying t=some (.slice e)) (l:List Value) (hlen:len=l.length) (hpos:0<len) (hsmall:len≤2 ^ 24) (h1:∀ v∈l,v.cells=#[v])
  (hp:(parts.map fun(i,x)=>(i,a.eval x)).toList=(l.zipIdx 0).map fun x=>(x.2,x.1))
  (h:wpList P ops Q rest (a.put o.dst (.slice (some ⟨w.heap.size,0,none⟩) len len)) (w.alloc (.cells l.toArray e))):wpList P ops Q (o::rest) a w:=by
 refine wpList_buildSlice hg t e len parts ho _ ie z hu hie hz (by rw [hsz];omega) (by rw [hsz];omega) ?_ h
 rw [hp,hsz]
 exact Great.fill_flat _ _ h1 (by simp [hlen])
theorem Qu (A:Option Addr) (x:List Com×Aq×Int) (cap:Nat) (w:World) (hx:Jx x) (hA:Dq w w.heap.size A x.1) :
  Calls Tryz.prog 12 #[.slice A x.1.length cap, .agg x.2.1.cells, .int .i64 x.2.2] w fun r w'=>r = .returned (sV (M5 x.1 x.2.1 x.2.2))∧Below w.heap.size w w':=by
 obtain⟨L,H,e⟩:=x
 have h1:=hx.err
 dsimp only at h1 hA ⊢
 unfold M5
 by_cases h0:e=0
 ·subst h0
  rw [if_neg (by simp)]
  exact Ahy A L cap H w hx.many hx.coms hx.hart hx.state hx.cause hA
 ·rw [if_pos h0]
  exact Agb A L.length cap H.cells e w (by omega) h1.2
theorem Af9 {B:Nat} {M R:Plr→Int→List Com×Aq×Int} (H:Aha M R) (g:Nat) (p:Plr) (vM vC:Value) (s k0:List UInt8) (ws:List (List UInt8)) (w:World) (V:Ig B w) (hB:B≤g) (hp:Fi p) (hP:Ej 34 w g p vM vC) (hl:s.length≤2000000) (hws:As 32 s=k0::ws) :
  Calls Tryz.prog 6 #[.pointer (some ⟨g,0,none⟩),sV s] w (El 34 w g (Gf M R Et Fh p s)):=by
 obtain⟨X,hX⟩:∃ X,Gf M R Et Fh p s=X:=⟨_,rfl⟩
 rw [hX]
 have hX0:D2 ws=none→X=(p,Ly):=fun hn=>by rw [←hX,Pr M R Et Fh hws hn]
 have HX1:=qA (fun l (hn:D2 ws=some l)=>(by rw [←hX,Ps M R Et Fh hws hn]:X=Dm M R Et Fh p k0 l))
 clear hX
 obtain⟨Post,hPost⟩:∃ P,P=El 34 w g X:=⟨_,rfl⟩
 rw [←hPost]
 have HPO:=qA hPost
 have zg:=hP.box.lt
 have hlw:=Hv 32 s
 have CS:Hid (Calls Tryz.prog 5 #[sV s, .int .u8 32] w (Jo s 32 w)):=qA (U3 s 32 w (by omega))
 have hs:∀ x∈ws,x.length≤2000000:=fun x hx=>by have:=Ds 32 s x (by rw [hws];exact qP _ hx);omega
 rw [hws] at hlw
 simp only [List.length_cons] at hlw
 have HW:=qA hws
 have HX0:=qA hX0
 have HS:=qA hs
 have HPP:=qA hP
 obtain⟨i0,hi,hz0,hz1,hz2⟩:=info_parts Ab2
 clear hPost hws hs hP hX0
 unfold Jo at CS
 go_enter Tryz.func6,Tryz.ntmps6
 go_upto_region 2 with(go_at_call 5;(with_reducible refine CS.out.mono ?_);rintro e w2 ⟨v,rfl,hown,hb2⟩;rw [HW.out] at hown;obtain⟨AW,cW,rfl⟩:=Al hown)
 try go_simp
 have hst:=H4.own hown
 have z2:=hb2.size
 have HP2:=qA (HPP.out.ext hb2)
 have HB2:=qA hb2
 simp only [List.length_cons] at hown
 clear hown hb2 CS HPP
 go_wp2_with(fail)
 go_loopw [6,7] (fun v6 v7 wr=>∃ (j:Nat) (L:List Int),v7 = .int .i64 ((j:Int)+1)∧j≤ws.length∧Below w2.heap.size w2 wr∧Hid (D2 (ws.take j)=some L∧L.length=j∧wr.ownsRow w2.heap.size 27 1 v6 j (L.map (.int .u32)))) (fun _ v _=>ws.length+2 - (intOf v).toNat)
 case atStart=>exact⟨0,[],rfl,Nat.zero_le _,qB _ _,qA ⟨rfl,rfl,qT _ _ _ _⟩⟩
 case round=>
  obtain⟨j,L,rfl,hj,hb,HR⟩:=hrel
  have hbz:=hb.size
  obtain⟨gW,oW,rfl,hgW,hcell⟩:=(hst.below hb) (by simp)
  by_cases hlt:j<ws.length
  ·obtain⟨x,hx⟩:∃ x,ws[j]? = some x:=⟨ws[j],by simp [hlt]⟩
   have hck:=hcell (j+1) x (by simpa using hx)
   have hxl:=HS.out x (List.mem_of_getElem? hx)
   obtain⟨hyes,hno⟩:=S7 ws j HR.out.1 hx
   have CN:=qA (fun W=>Ade x W (by omega))
   have t0:decide ((j:Int)+1<(ws.length:Int)+1)=true:=qF (by omega)
   have HNO:=qA hno
   have HYES:=qA hyes
   clear hx hno hyes hcell
   unfold Tp at CN
   rcases hn:Jl x with _ | u
   ·rw [hn] at CN
    have HNN:=qA (HNO.out hn)
    simp only [Option.isSome_none] at CN
    go_wp2_with(go_at_call 8;(with_reducible refine(CN.out _).mono ?_);rintro e w3 ⟨y,rfl,_,rfl⟩)
    rw [HPO.out,HX0.out HNN.out]
    exact⟨((HB2.out.trans (hb.mono HB2.out.size))).mono (qS zg),rfl,_,_,HP2.out.ext hb⟩
   ·rw [hn] at CN
    have HN:=qA (HYES.out u hn)
    simp only [Option.isSome_some] at CN
    go_wp2_with(first
     |(go_at_call 8;(with_reducible refine(CN.out _).mono ?_);rintro e w3 ⟨y,rfl,hy,rfl⟩;obtain rfl:=hy u rfl)
     |(at_builtin;go_loud (refine B0 rfl (.tmp 42) (.tmp 44) 38 rfl w2.heap.size 27 i0 _ 1 4 Tryz.underlying38 hi hz0 hz1 hz2 rfl (by decide) _ j _ rfl (HR.out.2.2.alloc _) (some ⟨wr.heap.size,0,none⟩) 1 1 [.int .u32 u] rfl rfl (fun h=>by cases h) (H8 wr _ _) (by simp;rfl) (by unfold maxLen;omega) (by omega) (by simp;omega) ?_;intro v7 w7 hown7 hg7;have hb7:=(hb.alloc hbz (.cells #[.int .u32 u] 27)).grown hg7 (by simp;omega) (fun q hq=>(HR.out.2.2.lt q hq).1))))
    go_roundw
    case rel=>exact⟨j+1,L++[(u:Int)],by go_num,by omega,hb7,qA ⟨HN.out,by simp [HR.out.2.1],by simpa using hown7⟩⟩
    case measure=>simp [intOf];omega
  ·obtain rfl:j=ws.length:=by omega
   have t0:decide ((ws.length:Int)+1<(ws.length:Int)+1)=false:=qG (by omega)
   have hn:=HR.out.1
   rw [List.take_length] at hn
   have HXS:=qA (HX1.out L hn)
   have hnw:=Mp hn
   have hLl:=HR.out.2.1
   have hrow:=HR.out.2.2
   have c0:wr.cell? ⟨gW,oW,none⟩=some (sV k0):=hcell 0 k0 rfl
   obtain⟨AL,cL,rfl⟩:=Al hrow
   rw [←hLl] at hrow
   have HROW:=qA (Abe hrow (base':=g+1) (by omega))
   have HPr:=qA (HP2.out.ext hb)
   have HB9:=qA ((HB2.out.trans (hb.mono HB2.out.size)).mono (qS zg))
   have HNW:=qA hnw
   have hll:L.length≤2000001:=by omega
   have z9:w.heap.size≤wr.heap.size:=by omega
   go_upto_region 11 with(fail)
   try go_simp
   rw [←hLl]
   clear hn HR hcell hst hrow hnw hb t0 HX1 HX0 HP2 HB2 HW HS hbz z2 hLl hgW
   rcases U1 k0 L with rfl | ⟨rfl,x,rfl⟩ | ⟨rfl,a,b,rfl⟩ | ⟨rfl,a,b,c,rfl⟩ | rfl | ⟨rfl,x,rfl⟩ | ⟨rfl,x,rfl⟩ | ⟨rfl,x,rfl⟩ | hk
   ·as_aux_lemma=>
    rename World=>wa
    have hh:=hp.hart.len
    obtain⟨AM0,cM0,rfl⟩:=Al HPr.out.mem
    have zg2:=HPr.out.box.lt
    have c35:wa.cell? ⟨g,35,none⟩=some (.slice AM0 p.mem.length cM0):=(HPr.out.box.cell 35).trans (D7 hh _ _ 0)
    have hroom:=hp.room
    have hX9:=HXS.out.trans (V2 p L)
    clear HXS
    by_cases hbig:4096<p.mem.length+4*L.length
    ·rw [if_pos hbig] at hX9
     have HX9:=qA hX9
     have f1:decide ((4096:Int)<(p.mem.length:Int)+4*(L.length:Int))=true:=qF (by omega)
     clear hbig hX9
     go_wp2_with(fail)
     rw [HPO.out,HX9.out]
     exact⟨HB9.out,rfl,_,_,HPr.out⟩
    ·rw [if_neg hbig] at hX9
     have HX9:=qA hX9
     have f1:decide ((4096:Int)<(p.mem.length:Int)+4*(L.length:Int))=false:=qG (by omega)
     have HBIG:=qA hbig
     obtain⟨j0,hj,hj0,hj1,hj2⟩:=info_parts Aes
     have HP0:=qA (qL HPr.out HROW.out)
     clear hbig hX9 HPr HROW
     go_wp2_with(fail)
     clear f1 c35
     go_loopw [11] (fun v11 wr=>∃ (k:Nat) (vM:Value),v11 = .int .i64 k∧k≤L.length∧Below g wa wr∧Hid (Ej 34 wr g { p with mem:=p.mem++(L.take k).flatMap Bb } vM vC∧wr.ownsRow (g+1) 27 1 (.slice AL L.length cL) L.length (L.map (.int .u32)))) (fun v _=>L.length - (intOf v).toNat)
     case atStart=>exact⟨0,_,rfl,Nat.zero_le _,qB _ _,qA ⟨by simpa using HP0.out.1,HP0.out.2⟩⟩
     case round=>
      clear HP0
      rename World=>wb
      obtain⟨k,vM,rfl,hk,hb,HP⟩:=hrel
      have hbz:=hb.size
      by_cases hlt9:k<L.length
      ·obtain⟨x,hx⟩:∃ x,L[k]? = some x:=⟨L[k],by simp [hlt9]⟩
       have hxb:=HNW.out x (List.mem_of_getElem? hx)
       obtain⟨b,o,rfl,hbB,hc⟩:=(Ar.own HP.out.2) (by intro e;simp [e] at hlt9)
       have hck:=hc k x hx
       have HX:=qA (V4 L k hx)
       obtain⟨u,rfl⟩:=qH hxb.1
       have t0:decide ((k:Int)<(L.length:Int))=true:=qF (by omega)
       have hwr:IntKind.i64.wrap (u:Int)=(u:Int):=IntWalk.i64_in u (by omega)
       have HP1:=qA (qL (by simpa using HP.out.1:Ej 34 wb g { p with mem:=(p.mem++(L.take k).flatMap Bb)++(Bb (u:Int)).take 0 } vM vC) HP.out.2)
       clear hc hx HP
       go_upto_region 19 with(fail)
       try go_simp
       clear hck
       go_wp2_with(fail)
       go_loopw [12,13] (fun v12 v13 wr=>∃ (j y:Nat) (vM:Value),v12 = .int .i64 y∧v13 = .int .i64 j∧j≤4∧y≤4294967295∧Below g wa wr∧Hid (y=u / 256 ^ j∧Ej 34 wr g { p with mem:=(p.mem++(L.take k).flatMap Bb)++(Bb (u:Int)).take j } vM vC∧wr.ownsRow (g+1) 27 1 (.slice (some ⟨b,o,none⟩) L.length cL) L.length (L.map (.int .u32)))) (fun _ v _=>4 - (intOf v).toNat)
       case atStart=>exact⟨0,u,_,rfl,rfl,Nat.zero_le _,by omega,hb,qA ⟨by simp,HP1.out⟩⟩
       case round=>
        clear HP1
        obtain⟨j,y,vM,rfl,rfl,hj4,hy,hb,HQ⟩:=hrel
        by_cases hjl:j<4
        ·have HT:=qA (Z7 u hjl)
         have hmem:=HQ.out.2.1.mem
         have c35:=(HQ.out.2.1.box.cell 35).trans (D7 (p:={ p with mem:=(p.mem++(L.take k).flatMap Bb)++(Bb (u:Int)).take j }) hh _ _ 0)
         have hlen:((p.mem++(L.take k).flatMap Bb)++(Bb (u:Int)).take j).length=p.mem.length+4*k+j:=by rw [qO,qO,Iw,List.length_take,List.length_take,Nat.min_eq_left hk];simp [Bb];omega
         obtain⟨AM,cM,rfl⟩:=Al hmem
         dsimp only at c35 hmem
         rw [hlen] at c35 hmem
         have HM:=qA hmem
         have hk4:p.mem.length+4*k+4≤4096:=by have:=HBIG.out;omega
         have t1:decide ((j:Int)<4)=true:=qF (by omega)
         have hbz2:=hb.size
         clear hmem hlen
         go_upto_region 22 with(fail)
         try go_simp
         go_wp2_with(first
          |(at_builtin;go_loud (refine B0 rfl (.tmp 80) (.tmp 84) 31 rfl (g+1) 5 j0 _ 1 1 Tryz.underlying31 hj hj0 hj1 hj2 rfl (by decide) (.slice AM (p.mem.length+4*k+j) cM) (p.mem.length+4*k+j) _ rfl (HM.out.alloc _) (some ⟨wr.heap.size,0,none⟩) 1 1 [.int .u8 ((y:Int)%256)] rfl rfl (fun h=>by cases h) (H8 wr _ _) (by simp;rfl) (by unfold maxLen;omega) (by omega) (by have:=HQ.out.2.1.box.lt;simp;omega) ?_;intro v7 w7 hown7 hg7;obtain⟨A7,c7,rfl⟩:=Al hown7;have hbx7:=(HQ.out.2.1.box.alloc (.cells #[.int .u8 ((y:Int)%256)] 5)).grown hg7 (fun e=>by have:=(HM.out.lt g e.symm).1;omega);have c357:w7.cell? ⟨g,35,none⟩=some (.slice AM (p.mem.length+4*k+j) cM):=(hbx7.cell 35).trans ((HQ.out.2.1.box.cell 35).symm.trans c35);have f357:=hbx7.frozen 35)))
         have hbg:Below g wa w7:=(hb.alloc (by omega) _).grown hg7 (by simp;omega) (fun q hq=>by have:=(HM.out.lt q hq).1;omega)
         have hown8:=ownsRow_setCell_below hown7 (a:=⟨g,35,none⟩) (Nat.lt_succ_self g) (.slice A7 (p.mem.length+4*k+j+1) c7)
         have hcho:=(HQ.out.2.1.cho.alloc (.cells #[.int .u8 ((y:Int)%256)] 5)).kept hg7 (Gg (HQ.out.2.1.cho.alloc _) (HM.out.alloc (.cells #[] 5)) (by decide))
         have hl8:=ownsRow_setCell_below ((HQ.out.2.2.alloc (.cells #[.int .u8 ((y:Int)%256)] 5)).kept hg7 (Gg (HQ.out.2.2.alloc _) (HM.out.alloc (.cells #[] 5)) (by decide))) (a:=⟨g,35,none⟩) (Nat.lt_succ_self g) (.slice A7 (p.mem.length+4*k+j+1) c7)
         have hc8:=ownsRow_setCell_below hcho (a:=⟨g,35,none⟩) (Nat.lt_succ_self g) (.slice A7 (p.mem.length+4*k+j+1) c7)
         have hx8:=hbx7.set 35 (.slice A7 (p.mem.length+4*k+j+1) c7)
         rw [Abf (p:={ p with mem:=(p.mem++(L.take k).flatMap Bb)++(Bb (u:Int)).take j }) hh] at hx8
         have hyu:=HQ.out.1
         have e1:(p.mem++(L.take k).flatMap Bb)++(Bb (u:Int)).take (j+1)=((p.mem++(L.take k).flatMap Bb)++(Bb (u:Int)).take j)++[(y:Int)%256]:=by rw [HT.out,←hyu,List.append_assoc,List.append_assoc,List.append_assoc]
         have e2:((p.mem++(L.take k).flatMap Bb)++(Bb (u:Int)).take (j+1)).length=p.mem.length+4*k+j+1:=by rw [e1,qO,qO,qO,Iw,List.length_take,List.length_take,Nat.min_eq_left hk];simp [Bb];omega
         have hm8:(w7.setCell ⟨g,35,none⟩ (.slice A7 (p.mem.length+4*k+j+1) c7)).ownsRow (g+1) 5 1 (.slice A7 (p.mem.length+4*k+j+1) c7) ((p.mem++(L.take k).flatMap Bb)++(Bb (u:Int)).take (j+1)).length (((p.mem++(L.take k).flatMap Bb)++(Bb (u:Int)).take (j+1)).map (.int .u8)):=by
          rw [e2,e1,List.map_append]
          exact hown8
         go_roundw
         case rel=>exact⟨j+1,y / 256,_,by go_num,by go_num,by omega,by omega,hbg.setCell (qC g) _,qA ⟨by rw [hyu,Nat.pow_succ,Nat.div_div_eq_div_mul],⟨hx8,hm8,hc8⟩,hl8⟩⟩
         case measure=>simp [intOf];omega
        ·obtain rfl:j=4:=by omega
         have hz:(Bb (u:Int)).take 4=Bb (u:Int):=rfl
         have hq:=HQ.out
         rw [hz,List.append_assoc,←HX.out] at hq
         have HQ9:=qA hq.2
         clear hq hz HQ
         go_wp2_with(fail)
         go_roundw
         case rel=>exact⟨.int .i64 ((k:Int)+1),_,_,_,_,_,_,_,_,_,_,_,_,_,_,_,_,_,_,_,_,_,_,_,_,_,_,_,_,_,_,⟨k+1,_,by go_num,by omega,hb,HQ9⟩,rfl⟩
         case measure=>simp [intOf];omega
      ·obtain rfl:k=L.length:=by omega
       have e1:decide ((L.length:Int)<(L.length:Int))=false:=by simp
       have hP:=HP.out.1
       rw [List.take_length] at hP
       obtain⟨AM,cM,rfl⟩:=Al hP.mem
       have zg3:=hP.box.lt
       have c35:=(hP.box.cell 35).trans (D7 (p:={ p with mem:=p.mem++L.flatMap Bb }) hh _ _ 0)
       have hN4:(p.mem++L.flatMap Bb).length≤4096:=by have:=HBIG.out;rw [qO,Iw];omega
       have HPP:=qA hP
       dsimp only at c35
       clear hP HP
       generalize (p.mem++L.flatMap Bb).length=N at c35 hN4 HX9
       have CI:=qA (fun W A (hA:Ar W W.heap.size .i64 A [(N:Int)])=>Ls okB A [(N:Int)] 1 W (by simp) (by simp [okB]) (by simp only [List.mem_singleton];rintro n rfl;omega) hA)
       have hbz3:=hb.size
       go_wp2_with(go_at_call 9;(refine(CI.out _ _ (Ct [(N:Int)] (Blk.new _ _ _))).mono ?_);rintro e w5 ⟨rfl,hb5⟩)
       rw [HPO.out,HX9.out]
       have hb9:=((qB _ _).alloc (qC _) _).trans (hb5.mono (by simp))
       exact⟨(HB9.out.trans hb).trans (hb9.mono (by omega)),rfl,_,_,HPP.out.ext hb9⟩
   ·as_aux_lemma=>
    have hh:=hp.hart.len
    obtain⟨kb,o,rfl,hkB,hcell⟩:=(Ar.own HROW.out) (by simp)
    have cx:wr.cell? ⟨kb,o,none⟩=some (.int .u32 x):=hcell 0 x rfl
    have c32:wr.cell? ⟨g,32,none⟩=some (.int .u32 p.hart.pc):=((HPr.out.box.cell 32).trans (Q4 hh _ _ (by omega))).trans (Aq.cells_pc hh).1
    have f32:=HPr.out.box.frozen 32
    clear hcell
    go_wp2_with(fail)
    rw [HPO.out,HXS.out,Ais]
    have hx8:=HPr.out.box.set 32 (.int .u32 x)
    rw [Q7 hh _ _ (by omega) _ (Aio hh x)] at hx8
    exact⟨HB9.out.setCell (p:=⟨g,32,none⟩) (qC g) _,rfl,_,_,hx8,ownsRow_setCell_below HPr.out.mem (a:=⟨g,32,none⟩) (Nat.lt_succ_self g) _,ownsRow_setCell_below HPr.out.cho (a:=⟨g,32,none⟩) (Nat.lt_succ_self g) _⟩
   ·as_aux_lemma=>
    have hh:=hp.hart.len
    have hrow:=HROW.out
    obtain⟨kb,o,rfl,hkB,hcell⟩:=(Ar.own hrow) (by simp)
    have cx:wr.cell? ⟨kb,o,none⟩=some (.int .u32 a):=hcell 0 a rfl
    have cy:wr.cell? ⟨kb,o+1,none⟩=some (.int .u32 b):=hcell 1 b rfl
    by_cases hab:1≤a∧a≤31
    ·obtain⟨ha,ha2⟩:=hab
     obtain⟨r,rfl⟩:=qH (show 0≤a by omega)
     have hgk:g<kb:=by
      rcases hrow.2 with⟨h,_⟩ | ⟨g2,c2,cur2,h,h3,_⟩
      ·cases h
      ·injection h with h;injection h with h;injection h with h;omega
     have HE:=qA (fun o=>(by intro e;injection e with e;omega:(⟨g,r,none⟩:Addr)≠⟨kb,o,none⟩))
     have cr:wr.cell? ⟨g,r,none⟩=some (.int .u32 (p.hart.regs.getD r 0)):=((HPr.out.box.cell r).trans (Q4 hh _ _ (by omega))).trans (Aq.cells_reg (by omega))
     have fr:=HPr.out.box.frozen r
     have t1:decide (1≤(r:Int))=true:=qF ha
     have t2:decide ((r:Int)≤31)=true:=qF ha2
     have hr32:(r:Int)<32:=by omega
     have hrn:((r:Int)).toNat=r:=by simp
     have HXX:=qA (HXS.out.trans (Adu p r b ⟨ha,ha2⟩))
     clear hcell hrow z9 HXS
     go_upto_region 31 with(fail)
     try go_simp
     go_region_held3 (fun w'=>w'.cell? ⟨kb,o,none⟩=some (.int .u32 r)∧w'.cell? ⟨kb,o+1,none⟩=some (.int .u32 b))
      (first
       |exact⟨cx,cy⟩
       |exact⟨(World.cell?_setCell_other _ _ _ _ (HE.out o)).trans cx,(World.cell?_setCell_other _ _ _ _ (HE.out (o+1))).trans cy⟩)
      ((first | fail))
     clear cx cy cr fr
     go_wp2_with(fail)
     rw [HPO.out,HXX.out]
     have hx8:=HPr.out.box.set r (.int .u32 b)
     rw [Q7 hh _ _ (by omega) _ (Akf (by omega) b)] at hx8
     have hfin:Ej 34 (wr.setCell ⟨g,r,none⟩ (.int .u32 b)).drew g { p with hart:={ p.hart with regs:=p.hart.regs.set ((r:Int)).toNat b } } vM vC:=by
      rw [hrn]
      exact⟨hx8,ownsRow_setCell_below HPr.out.mem (a:=⟨g,r,none⟩) (Nat.lt_succ_self g) _,ownsRow_setCell_below HPr.out.cho (a:=⟨g,r,none⟩) (Nat.lt_succ_self g) _⟩
     exact⟨(HB9.out.setCell (p:=⟨g,r,none⟩) (qC g) _).drew,rfl,_,_,hfin⟩
    ·have HX9:=qA (HXS.out.trans (V1 p a b hab))
     have HAB:=qA hab
     clear hcell hrow hab HXS cy
     by_cases h1:1≤a
     ·have t1:decide (1≤a)=true:=qF h1
      have t2:decide (a≤31)=false:=qG (fun h=>HAB.out ⟨h1,h⟩)
      clear h1
      clear z9 zg hll
      go_wp2_with(fail)
      rw [HPO.out,HX9.out]
      exact⟨HB9.out,rfl,_,_,HPr.out⟩
     ·have t1:decide (1≤a)=false:=qG h1
      clear h1
      clear z9 zg hll
      go_wp2_with(fail)
      rw [HPO.out,HX9.out]
      exact⟨HB9.out,rfl,_,_,HPr.out⟩
   ·as_aux_lemma=>
    have hh:=hp.hart.len
    obtain⟨kb,o,rfl,hkB,hcell⟩:=(Ar.own HROW.out) (by simp)
    have cx:wr.cell? ⟨kb,o,none⟩=some (.int .u32 a):=hcell 0 a rfl
    have cy:wr.cell? ⟨kb,o+1,none⟩=some (.int .u32 b):=hcell 1 b rfl
    have cz:wr.cell? ⟨kb,o+2,none⟩=some (.int .u32 c):=hcell 2 c rfl
    have CM:=qA (fun W=>Kq a b c W)
    have HSK:=qA (fun w' (q:Below wr.heap.size wr w')=>(⟨q,q.at_ hkB cx,q.at_ hkB cy,q.at_ hkB cz⟩:Below wr.heap.size wr w'∧w'.cell? ⟨kb,o,none⟩=some (.int .u32 a)∧w'.cell? ⟨kb,o+1,none⟩=some (.int .u32 b)∧w'.cell? ⟨kb,o+2,none⟩=some (.int .u32 c)))
    have hmd:Fh a b c=(decide (1≤a)&&decide (a≤32)&&decide (33≤b)&&decide (b≤96)&&decide (1≤c)&&decide (c≤4)):=rfl
    rw [←hmd] at CM
    have ha:=HNW.out a (by simp)
    have hb':=HNW.out b (by simp)
    have hc':=HNW.out c (by simp)
    have ea:IntKind.i64.wrap a=a:=IntWalk.i64_in a (by omega)
    have eb:IntKind.i64.wrap b=b:=IntWalk.i64_in b (by omega)
    have ec:IntKind.i64.wrap c=c:=IntWalk.i64_in c (by omega)
    have HXX:=qA (HXS.out.trans (Zj p a b c))
    clear hmd hcell HXS
    go_upto_region 35 with(fail)
    try go_simp
    go_region_held3 (fun w'=>Below wr.heap.size wr w'∧w'.cell? ⟨kb,o,none⟩=some (.int .u32 a)∧w'.cell? ⟨kb,o+1,none⟩=some (.int .u32 b)∧w'.cell? ⟨kb,o+2,none⟩=some (.int .u32 c))
      (first
       |(refine HSK.out _ ?_;(repeat (first | exact qB _ _ | refine Below.drew ?_ | refine Below.alloc ?_ (by first | (simp;done) | (simp;omega)) _))))
      ((first | fail))
    clear HSK ea eb ec cx cy cz
    have hb1:Below wr.heap.size wr (wr.alloc (.cells #[.int .i64 a, .int .i64 b, .int .i64 c] 26)).drew:=((qB _ _).alloc (qC _) _).drew
    have hC:Blk (wr.alloc (.cells #[.int .i64 a, .int .i64 b, .int .i64 c] 26)).drew wr.heap.size 26 #[.int .i64 a, .int .i64 b, .int .i64 c]:=Blk.new wr _ _
    have HP1:=qA (HPr.out.ext hb1)
    obtain⟨m,hm⟩:∃ m,Fh a b c=m:=⟨_,rfl⟩
    rw [hm] at CM HXX
    clear hm
    rcases m with _ | _
    ·go_wp2_with(first
      |(refine Ab rfl 26 _ rfl wr.heap.size rfl 26 _ _ hC Tryz.underlying26 rfl Hh ?_)
      |(go_at_call 10;(with_reducible refine(CM.out _).mono ?_);rintro e w2 ⟨rfl,hb2⟩))
     rw [HPO.out,HXX.out]
     exact⟨HB9.out.trans ((hb1.trans (hb2.mono hb1.size)).mono (by omega)),rfl,_,_,HP1.out.ext hb2⟩
    ·go_wp2_with(first
      |(refine Ab rfl 26 _ rfl wr.heap.size rfl 26 _ _ hC Tryz.underlying26 rfl Hh ?_)
      |(go_at_call 10;(with_reducible refine(CM.out _).mono ?_);rintro e w2 ⟨rfl,hb2⟩;have hC2:=hC.ext hb2;have HP2:=qA (HP1.out.ext hb2))
      |(refine Ab rfl 26 _ rfl wr.heap.size rfl 26 _ _ hC2 Tryz.underlying26 rfl Hh ?_)
      |(refine B7 rfl 26 _ _ rfl g 36 #[.int .i64 a, .int .i64 b, .int .i64 c] rfl rfl 34 _ HP2.out.box Hh (by rw [Q8 hh];show 36+3≤40;omega) (by simp [Value.oneCell']) ?_;intro w3 hX hg3))
     rw [Vk hh] at hX
     rw [HPO.out,HXX.out]
     have hz2:=hb2.size
     have hz1:=hb1.size
     exact⟨(HB9.out.trans ((hb1.trans (hb2.mono hb1.size)).mono (by omega))).grown hg3 (by omega) (fun q hq=>by cases hq;exact qC g),rfl,_,_,hX,HP2.out.mem.kept hg3 (Tv HP2.out.mem),HP2.out.cho.kept hg3 (Tv HP2.out.cho)⟩
   ·as_aux_lemma=>
    rename World=>wa
    have hh:=hp.hart.len
    obtain⟨AC0,cC0,rfl⟩:=Al HPr.out.cho
    have zg2:=HPr.out.box.lt
    have c39:wa.cell? ⟨g,39,none⟩=some (.slice AC0 p.choices.length cC0):=(HPr.out.box.cell 39).trans (D7 hh _ _ 4)
    have f39:=HPr.out.box.frozen 39
    obtain⟨j0,hj,hj0,hj1,hj2⟩:=info_parts Xp
    have HXX:=qA (HXS.out.trans (Si p L))
    have hx1:=HPr.out.box.set 39 (.slice none 0 0)
    rw [Q6 hh] at hx1
    have HX1:=qA (qL hx1 (qL (ownsRow_setCell_below HPr.out.mem (a:=⟨g,39,none⟩) (Nat.lt_succ_self g) (.slice none 0 0)) (ownsRow_setCell_below HROW.out (a:=⟨g,39,none⟩) (Nat.lt_succ_self g) (.slice none 0 0))))
    clear hx1 HXS HPr HROW
    go_wp2_with(fail)
    clear c39 f39
    go_loopw [15] (fun v15 wr=>∃ (k:Nat) (vC:Value),v15 = .int .i64 k∧k≤L.length∧Below g wa wr∧Hid (Ej 34 wr g { p with choices:=L.take k } vM vC∧wr.ownsRow (g+1) 27 1 (.slice AL L.length cL) L.length (L.map (.int .u32)))) (fun v _=>L.length - (intOf v).toNat)
    case atStart=>exact⟨0, .slice none 0 0,rfl,Nat.zero_le _,(qB _ _).setCell (qC g) _,qA ⟨⟨HX1.out.1,HX1.out.2.1,qT _ _ _ _⟩,HX1.out.2.2⟩⟩
    case round=>
     clear HX1
     obtain⟨k,vC,rfl,hk,hb,HP⟩:=hrel
     obtain⟨AC,cC,rfl⟩:=Al HP.out.1.cho
     have hbz:=hb.size
     have hlen:(L.take k).length=k:=by rw [List.length_take,Nat.min_eq_left hk]
     by_cases hlt9:k<L.length
     ·obtain⟨x,hx⟩:∃ x,L[k]? = some x:=⟨L[k],by simp [hlt9]⟩
      have hxb:=HNW.out x (List.mem_of_getElem? hx)
      obtain⟨b,o,rfl,hbB,hc⟩:=(Ar.own HP.out.2) (by intro e;simp [e] at hlt9)
      have hck:=qA (hc k x hx)
      have c39:=(HP.out.1.box.cell 39).trans (D7 (p:={ p with choices:=L.take k }) hh _ _ 4)
      have hcho:=HP.out.1.cho
      dsimp only at c39 hcho
      rw [hlen] at c39 hcho
      have HC39:=qA c39
      have HC:=qA hcho
      have ht:L.take (k+1)=L.take k++[x]:=by rw [List.take_add_one,hx];rfl
      have HT:=qA ht
      have hwr:IntKind.i64.wrap x=x:=IntWalk.i64_in x (by omega)
      have hk4:k<4294967296:=by omega
      have zb:=HP.out.1.box.lt
      have t0:decide ((k:Int)<(L.length:Int))=true:=qF (by omega)
      clear hc hx hcho ht hlen c39
      go_upto_region 44 with(fail)
      try go_simp
      refine Ad 13039 272 13311 [0,1,2,3,4,5,6,7,8,9,10,11,12,13,14] (by kernel_rfl) (by kernel_rfl) (by kernel_rfl) rfl ?_
      repeat'(first
       |refine rZ ?_
       |(refine' oR _ (by decide) (by decide) (by decide) (fun wq hwq K hK=>?_) ?_ ?_;rotate_left 1;(· have c39:=hwq.at_ zb HC39.out;have ck:=hwq.at_ hbB hck.out;go_wp2_with(fail);all_goals exact hK);rfl)
       |fail)
      refine oB (fun w1 hw1 K1 hK1=>?_)
      have hbw:Below wr.heap.size wr w1:=by rw [hw1];exact(qB _ _).drew
      have hP1:=HP.out.1.ext hbw
      have hC1:=Du HC.out hbw
      have hL1:=Du HP.out.2 hbw
      replace hb:=hb.trans (hbw.mono (by omega))
      clear hw1
      go_wp2_with(fail)
      refine hK1 _ _ (hbw.alloc hbw.size _) ?_
      simp only [Act.put,sA,sS,sZ]
      clear hK1 K1
      refine oQ rfl rfl ?_
      refine oS (fun wy hwy K1 hK1=>?_)
      subst hwy
      refine Fw (.tmp 172) (.tmp 178) 32 rfl (g+1) 3 j0 _ 1 8 Tryz.underlying32 hj hj0 hj1 hj2 rfl (by decide) (.slice AC k cC) k _ rfl (hC1.alloc _) (some ⟨w1.heap.size,0,none⟩) 1 1 [.int .i64 x] rfl rfl (fun h=>by cases h) (H8 w1 _ _) (by simp;rfl) (by unfold maxLen;omega) (by omega) (by have:=hP1.box.lt;simp;omega) ?_
      intro v7 w7 hown7 hg7
      obtain⟨A7,c7,rfl⟩:=Al hown7
      have hbx7:=(hP1.box.alloc (.cells #[.int .i64 x] 3)).grown hg7 (fun e=>by have:=(hC1.lt g e.symm).1;omega)
      have hbg:Below g wa w7:=(hb.alloc (by have:=hP1.box.lt;omega) _).grown hg7 (by have:=hP1.box.lt;simp;omega) (fun q hq=>by have:=(hC1.lt q hq).1;omega)
      have hown8:=ownsRow_setCell_below hown7 (a:=⟨g,39,none⟩) (Nat.lt_succ_self g) (.slice A7 (k+1) c7)
      have hm8:=ownsRow_setCell_below ((hP1.mem.alloc (.cells #[.int .i64 x] 3)).kept hg7 (Gg (hP1.mem.alloc _) (hC1.alloc (.cells #[] 5)) (by decide))) (a:=⟨g,39,none⟩) (Nat.lt_succ_self g) (.slice A7 (k+1) c7)
      have hl8:=ownsRow_setCell_below ((hL1.alloc (.cells #[.int .i64 x] 3)).kept hg7 (Gg (hL1.alloc _) (hC1.alloc (.cells #[] 5)) (by decide))) (a:=⟨g,39,none⟩) (Nat.lt_succ_self g) (.slice A7 (k+1) c7)
      have hx8:=hbx7.set 39 (.slice A7 (k+1) c7)
      have c397:=hbx7.cell 39
      rw [D7 (p:={ p with choices:=L.take k }) hh _ _ 4] at c397
      have f397:=hbx7.frozen 39
      rw [Q6 (p:={ p with choices:=L.take k }) hh] at hx8
      have hc8:(w7.setCell ⟨g,39,none⟩ (.slice A7 (k+1) c7)).ownsRow (g+1) 3 1 (.slice A7 (k+1) c7) (L.take (k+1)).length ((L.take (k+1)).map (.int .i64)):=by
       rw [HT.out,List.map_append,qO,List.length_take,Nat.min_eq_left hk]
       exact hown8
      have HN:=qA (qL (hbg.setCell (qC g) (p:=⟨g,39,none⟩) (.slice A7 (k+1) c7)) (qL hx8 (qL hm8 (qL hc8 hl8))))
      refine hK1 _ _ (fun _=>True) trivial ?_
      simp only [Act.put,sA,sS,sZ]
      clear hK1 K1 hown7 hg7 hown8 hm8 hl8 hx8 hc8 hbx7 hbg hP1 hC1 hL1
      refine rO ?_
      refine oS (fun wy hwy K1 hK1=>?_)
      subst hwy
      go_wp2_with(fail)
      refine hK1 undef _ (fun _=>True) trivial ?_
      simp only [Act.put,sA,sS,sZ]
      clear hK1 K1 c397 f397
      refine Aj ?_
      rintro w9 rfl
      go_wp2_with(fail)
      go_roundw
      case rel=>exact⟨.int .i64 ((k:Int)+1),_,_,_,_,_,_,_,_,_,_,_,_,_,_,_,_,_,_,_,⟨k+1,_,by go_num,by omega,HN.out.1,qA ⟨⟨HN.out.2.1,HN.out.2.2.1,HN.out.2.2.2.1⟩,HN.out.2.2.2.2⟩⟩,rfl⟩
      case measure=>simp [intOf];omega
     ·obtain rfl:k=L.length:=by omega
      have e1:decide ((L.length:Int)<(L.length:Int))=false:=by simp
      have hP:=HP.out.1
      rw [List.take_length] at hP
      have zg2:=hP.box.lt
      have CI:=qA (fun W A (hA:Ar W W.heap.size .i64 A [(L.length:Int)])=>Ls okB A [(L.length:Int)] 1 W (by simp) (by simp [okB]) (by simp only [List.mem_singleton];rintro n rfl;omega) hA)
      have HPP:=qA hP
      clear hP HP hlen
      go_wp2_with(go_at_call 9;(refine(CI.out _ _ (Ct [(L.length:Int)] (Blk.new wr _ _))).mono ?_);rintro e w5 ⟨rfl,hb5⟩)
      rw [HPO.out,HXX.out]
      have hb9:Below wr.heap.size wr w5:=((qB _ _).alloc (qC _) _).trans (hb5.mono (by simp))
      exact⟨(HB9.out.trans hb).trans (hb9.mono (by omega)),rfl,_,_,HPP.out.ext hb9⟩
   ·as_aux_lemma=>
    have hh:=hp.hart.len
    obtain⟨AM,cM,rfl⟩:=Al HPr.out.mem
    obtain⟨kb,o,rfl,hkB,hcell⟩:=(Ar.own HROW.out) (by simp)
    have cx:wr.cell? ⟨kb,o,none⟩=some (.int .u32 x):=hcell 0 x rfl
    have hx:=HNW.out x (by simp)
    have HT:=qA (H.tellM hp x)
    have HM:=qA (H.callM hp x)
    have hX9:=HXS.out.trans (V0 p x)
    generalize M p x=Y at HT HM hX9
    have HX9:=qA hX9
    have HC35:=qA ((HPr.out.box.cell 35).trans (D7 hh _ _ 0):wr.cell? ⟨g,35,none⟩=some (.slice AM p.mem.length cM))
    have zg3:=HPr.out.box.lt
    have CM:=qA (fun W (hW:Below wr.heap.size wr W)=>HM.out hx.1 hx.2 AM cM W (Du HPr.out.mem hW))
    have exw:IntKind.i64.wrap x=x:=IntWalk.i64_in x (by omega)
    clear hcell HXS hX9
    go_upto_region 48 with(fail)
    try go_simp
    refine kB (S:=fun w'=>Below wr.heap.size wr w') (by kernel_rfl) (qB _ _).drew (fun hHeld=>?_)
    refine tT 0 rfl ?_
    simp only [Act.put,sA,sS,sZ]
    refine tT 1 rfl ?_
    simp only [Act.put,sA,sS,sZ]
    refine tT 2 rfl ?_
    simp only [Act.put,sA,sS,sZ]
    refine tT 3 rfl ?_ (hy:=fun wq hwq=>Jt 30 _ rfl rfl (Q5 hh (HPr.out.box.ext hwq)))
    simp only [Act.put,sA,sS,sZ]
    refine tT 4 rfl ?_
    simp only [Act.put,sA,sS,sZ]
    refine tT 5 rfl ?_
    simp only [Act.put,sA,sS,sZ]
    refine tT 6 rfl ?_
    simp only [Act.put,sA,sS,sZ]
    refine tT 7 rfl ?_ (hy:=fun wq hwq=>by have c9:=hwq.at_ zg3 HC35.out;go_simp;(try with_reducible rfl))
    simp only [Act.put,sA,sS,sZ]
    refine tT 8 rfl ?_
    simp only [Act.put,sA,sS,sZ]
    refine tT 9 rfl ?_
    simp only [Act.put,sA,sS,sZ]
    refine tT 10 rfl ?_ (hy:=fun wq hwq=>by have c9:=hwq.at_ hkB cx;go_simp;(try with_reducible rfl))
    simp only [Act.put,sA,sS,sZ]
    refine tT 11 rfl ?_
    simp only [Act.put,sA,sS,sZ]
    generalize wr.drew=wd at hHeld ⊢
    refine k2 12 18 (by kernel_rfl) rfl rfl rfl rfl (fun K hK=>?_) (fun K hK=>?_)
    ·go_wp2_with(go_at_call 11;(refine(CM.out _ hHeld).mono ?_);rintro e w5 ⟨hb5,AL,cL,A2,n2,c2,rfl,hown⟩)
     refine hK.out _ _ (hHeld.trans (hb5.mono hHeld.size)) (fun hHeld=>?_)
     clear hK K
     refine tT 13 rfl ?_
     simp only [Act.put,sA,sS,sZ]
     refine tT 14 rfl ?_
     simp only [Act.put,sA,sS,sZ]
     refine tT 15 rfl ?_
     simp only [Act.put,sA,sS,sZ]
     refine tT 16 rfl ?_
     simp only [Act.put,sA,sS,sZ]
     refine tT 17 rfl ?_
     simp only [Act.put,sA,sS,sZ]
     refine k1 18 (by kernel_rfl) rfl rfl (fun K hK=>?_)
     go_wp2_with(fail)
     refine R6 fun w6 hq=>?_
     have hBH:Blk w6 w5.heap.size 30 Eq.cells:=by rw [hq];exact Blk.new w5 _ _
     have hb6:Below w5.heap.size w5 w6:=by rw [hq];exact(qB _ _).alloc (qC _) _
     have hne:(Value.slice AL Y.1.length cL).ownBlock=none∨(Value.slice AL Y.1.length cL).ownBlock≠some w5.heap.size:=Or.inr (fun q=>by have:=(hown.lt _ q).2;omega)
     have hgH:=hHeld.size
     refine hK.out _ _ (hHeld.trans (hb6.mono hHeld.size)) (fun hHeld=>?_)
     replace hown:=Du hown hb6
     clear hq hK K hb5 hb6
     generalize w5.heap.size=gH at *
     refine tT 19 rfl ?_
     simp only [Act.put,sA,sS,sZ]
     refine k1 20 (by kernel_rfl) rfl rfl (fun K hK=>?_)
     refine De 30 _ _ rfl gH Y.2.1.cells rfl rfl 30 _ hBH (Ca HT.out.hart.len) (by rw [Aq.cells_size HT.out.hart.len];rfl) (Fp _) ?_
     intro w8 hX hg8
     have hcm:=Dq.own (hown.kept hg8 hne)
     refine hK.out _ _ (hHeld.grown hg8 hHeld.size (fun k hk=>by cases hk;exact hgH)) (fun hHeld=>?_)
     clear hK K hBH hown hne hg8
     simp only [Act.put,sA,sS,sZ]
     refine tT 21 rfl ?_
     simp only [Act.put,sA,sS,sZ]
     refine tT 22 rfl ?_
     simp only [Act.put,sA,sS,sZ]
     refine kE (by kernel_rfl) ?_
     have hb8:=HB9.out.trans (hHeld.mono (qS zg3))
     have CT:=Qu AL Y cL w8 HT.out hcm
     have CTH:=qA CT
     clear CT c0 cx
     go_wp2_with(first
      |(refine Ab rfl 30 _ rfl gH rfl 30 _ _ hX Tryz.underlying30 rfl (Ca HT.out.hart.len) ?_)
      |(go_at_call 12;(with_reducible refine CTH.out.mono ?_);rintro e w9 ⟨rfl,hb9⟩))
     rw [HPO.out,HX9.out]
     exact⟨hb8.trans (hb9.mono (qD (qS zg3) hHeld.size)),rfl,_,_,HPr.out.ext (hHeld.trans (hb9.mono hHeld.size))⟩
    ·go_wp2_with(fail)
     refine R6 fun w5 hq=>?_
     have hBH:Blk w5 wd.heap.size 30 Eq.cells:=by rw [hq];exact Blk.new wd _ _
     have hb5:Below wd.heap.size wd w5:=by rw [hq];exact(qB _ _).alloc (qC _) _
     have zH:=hBH.lt
     have hgH:=hHeld.size
     refine hK.out _ _ (hHeld.trans (hb5.mono hHeld.size)) (fun hHeld=>?_)
     clear hq hK K hb5
     generalize wd.heap.size=gH at *
     refine k1 12 (by kernel_rfl) rfl rfl (fun K hK=>?_)
     go_wp2_with(go_at_call 11;(refine(CM.out _ hHeld).mono ?_);rintro e w6 ⟨hb6,AL,cL,A2,n2,c2,rfl,hown⟩)
     have hne:(Value.slice AL Y.1.length cL).ownBlock=none∨(Value.slice AL Y.1.length cL).ownBlock≠some gH:=Or.inr (fun q=>by have:=(hown.lt _ q).1;omega)
     refine hK.out _ _ (hHeld.trans (hb6.mono hHeld.size)) (fun hHeld=>?_)
     replace hBH:=hBH.ext hb6
     clear hK K hb6
     refine tT 13 rfl ?_
     simp only [Act.put,sA,sS,sZ]
     refine tT 14 rfl ?_
     simp only [Act.put,sA,sS,sZ]
     refine tT 15 rfl ?_
     simp only [Act.put,sA,sS,sZ]
     refine tT 16 rfl ?_
     simp only [Act.put,sA,sS,sZ]
     refine tT 17 rfl ?_
     simp only [Act.put,sA,sS,sZ]
     refine tT 19 rfl ?_
     simp only [Act.put,sA,sS,sZ]
     refine k1 20 (by kernel_rfl) rfl rfl (fun K hK=>?_)
     refine De 30 _ _ rfl gH Y.2.1.cells rfl rfl 30 _ hBH (Ca HT.out.hart.len) (by rw [Aq.cells_size HT.out.hart.len];rfl) (Fp _) ?_
     intro w8 hX hg8
     have hcm:=Dq.own (hown.kept hg8 hne)
     refine hK.out _ _ (hHeld.grown hg8 hHeld.size (fun k hk=>by cases hk;exact hgH)) (fun hHeld=>?_)
     clear hK K hBH hown hne hg8
     simp only [Act.put,sA,sS,sZ]
     refine tT 21 rfl ?_
     simp only [Act.put,sA,sS,sZ]
     refine tT 22 rfl ?_
     simp only [Act.put,sA,sS,sZ]
     refine kE (by kernel_rfl) ?_
     have hb8:=HB9.out.trans (hHeld.mono (qS zg3))
     have CT:=Qu AL Y cL w8 HT.out hcm
     have CTH:=qA CT
     clear CT c0 cx
     go_wp2_with(first
      |(refine Ab rfl 30 _ rfl gH rfl 30 _ _ hX Tryz.underlying30 rfl (Ca HT.out.hart.len) ?_)
      |(go_at_call 12;(with_reducible refine CTH.out.mono ?_);rintro e w9 ⟨rfl,hb9⟩))
     rw [HPO.out,HX9.out]
     exact⟨hb8.trans (hb9.mono (qD (qS zg3) hHeld.size)),rfl,_,_,HPr.out.ext (hHeld.trans (hb9.mono hHeld.size))⟩
   ·as_aux_lemma=>
    have hh:=hp.hart.len
    obtain⟨AM,cM,rfl⟩:=Al HPr.out.mem
    obtain⟨AC,cC,rfl⟩:=Al HPr.out.cho
    obtain⟨kb,o,rfl,hkB,hcell⟩:=(Ar.own HROW.out) (by simp)
    have cx:wr.cell? ⟨kb,o,none⟩=some (.int .u32 x):=hcell 0 x rfl
    have hx:=HNW.out x (by simp)
    have HT:=qA (H.tellR hp x)
    have HM:=qA (H.callR hp x)
    have hX9:=HXS.out.trans (Adt p x)
    generalize R p x=Y at HT HM hX9
    have HX9:=qA hX9
    have HC35:=qA (qL ((HPr.out.box.cell 35).trans (D7 hh _ _ 0):wr.cell? ⟨g,35,none⟩=some (.slice AM p.mem.length cM)) ((HPr.out.box.cell 39).trans (D7 hh _ _ 4):wr.cell? ⟨g,39,none⟩=some (.slice AC p.choices.length cC)))
    have zg3:=HPr.out.box.lt
    have CM:=qA (fun W (hW:Below wr.heap.size wr W)=>HM.out hx.1 hx.2 AM cM AC cC W (Du HPr.out.mem hW) (Du HPr.out.cho hW))
    have exw:IntKind.i64.wrap x=x:=IntWalk.i64_in x (by omega)
    clear hcell HXS hX9
    go_upto_region 52 with(fail)
    try go_simp
    refine kB (S:=fun w'=>Below wr.heap.size wr w') (by kernel_rfl) (qB _ _).drew (fun hHeld=>?_)
    refine tT 0 rfl ?_
    simp only [Act.put,sA,sS,sZ]
    refine tT 1 rfl ?_
    simp only [Act.put,sA,sS,sZ]
    refine tT 2 rfl ?_
    simp only [Act.put,sA,sS,sZ]
    refine tT 3 rfl ?_ (hy:=fun wq hwq=>Jt 26 _ rfl rfl (X8 hh (HPr.out.box.ext hwq)))
    simp only [Act.put,sA,sS,sZ]
    refine tT 4 rfl ?_
    simp only [Act.put,sA,sS,sZ]
    refine tT 5 rfl ?_
    simp only [Act.put,sA,sS,sZ]
    refine tT 6 rfl ?_
    simp only [Act.put,sA,sS,sZ]
    refine tT 7 rfl ?_ (hy:=fun wq hwq=>Jt 30 _ rfl rfl (Q5 hh (HPr.out.box.ext hwq)))
    simp only [Act.put,sA,sS,sZ]
    refine tT 8 rfl ?_
    simp only [Act.put,sA,sS,sZ]
    refine tT 9 rfl ?_
    simp only [Act.put,sA,sS,sZ]
    refine tT 10 rfl ?_
    simp only [Act.put,sA,sS,sZ]
    refine tT 11 rfl ?_ (hy:=fun wq hwq=>by have c9:=hwq.at_ zg3 HC35.out.1;go_simp;(try with_reducible rfl))
    simp only [Act.put,sA,sS,sZ]
    refine tT 12 rfl ?_
    simp only [Act.put,sA,sS,sZ]
    refine tT 13 rfl ?_
    simp only [Act.put,sA,sS,sZ]
    refine tT 14 rfl ?_
    simp only [Act.put,sA,sS,sZ]
    refine tT 15 rfl ?_ (hy:=fun wq hwq=>by have c9:=hwq.at_ zg3 HC35.out.2;go_simp;(try with_reducible rfl))
    simp only [Act.put,sA,sS,sZ]
    refine tT 16 rfl ?_
    simp only [Act.put,sA,sS,sZ]
    refine tT 17 rfl ?_
    simp only [Act.put,sA,sS,sZ]
    refine tT 18 rfl ?_ (hy:=fun wq hwq=>by have c9:=hwq.at_ hkB cx;go_simp;(try with_reducible rfl))
    simp only [Act.put,sA,sS,sZ]
    refine tT 19 rfl ?_
    simp only [Act.put,sA,sS,sZ]
    generalize wr.drew=wd at hHeld ⊢
    refine k2 20 24 (by kernel_rfl) rfl rfl rfl rfl (fun K hK=>?_) (fun K hK=>?_)
    ·go_wp2_with(go_at_call 13;(refine(CM.out _ hHeld).mono ?_);rintro e w5 ⟨hb5,AL,cL,A2,n2,c2,cy,tk,bk,T,hT,rfl,hown⟩;have HTT:=qA hT;clear hT)
     refine hK.out _ _ (hHeld.trans (hb5.mono hHeld.size)) (fun hHeld=>?_)
     clear hK K
     refine tT 21 rfl ?_
     simp only [Act.put,sA,sS,sZ]
     refine tT 22 rfl ?_
     simp only [Act.put,sA,sS,sZ]
     refine tT 23 rfl ?_
     simp only [Act.put,sA,sS,sZ]
     refine k1 24 (by kernel_rfl) rfl rfl (fun K hK=>?_)
     go_wp2_with(fail)
     refine R6 fun w6 hq=>?_
     have hBH:Blk w6 w5.heap.size 49 J7:=by rw [hq];exact Blk.new w5 _ _
     have hb6:Below w5.heap.size w5 w6:=by rw [hq];exact(qB _ _).alloc (qC _) _
     have hne:(Value.slice AL Y.1.length cL).ownBlock=none∨(Value.slice AL Y.1.length cL).ownBlock≠some w5.heap.size:=Or.inr (fun q=>by have:=(hown.lt _ q).2;omega)
     have hgH:=hHeld.size
     refine hK.out _ _ (hHeld.trans (hb6.mono hHeld.size)) (fun hHeld=>?_)
     replace hown:=Du hown hb6
     clear hq hK K hb5 hb6
     generalize w5.heap.size=gH at *
     have hTz:T.size=40:=by rw [HTT.out];exact It _ HT.out.hart.len _ _ _ _
     have hT1:T.all (·.oneCell')=true:=by rw [HTT.out];exact Ju _ _ _ _ _ _ _ _ _ _
     have hTx:T.extract 1 (1+35)=Y.2.1.cells:=by rw [HTT.out];exact Kz _ HT.out.hart.len _ _ _ _
     have hT0:T[0]? = some (.slice AL Y.1.length cL):=by rw [HTT.out];rfl
     refine k1 25 (by kernel_rfl) rfl rfl (fun K hK=>?_)
     refine De 49 _ _ rfl gH T rfl rfl 49 _ hBH (Gk hTz) (by rw [hTz];rfl) hT1 ?_
     intro w8 hX hg8
     have hcm:=Dq.own (hown.kept hg8 hne)
     refine hK.out _ _ (hHeld.grown hg8 hHeld.size (fun k hk=>by cases hk;exact hgH)) (fun hHeld=>?_)
     clear hK K hBH hown hne hg8
     simp only [Act.put,sA,sS,sZ]
     refine tT 26 rfl ?_
     simp only [Act.put,sA,sS,sZ]
     refine kE (by kernel_rfl) ?_
     have hb8:=HB9.out.trans (hHeld.mono (qS zg3))
     have CTH:=qA (Qu AL Y cL w8 HT.out hcm)
     have cX:=(hX.cell 0).trans hT0
     clear c0 cx hT0 hT1 hcm
     go_wp2_with(first
      |(refine Ai rfl 30 _ rfl gH 1 rfl 49 T 35 _ hX Tryz.underlying30 rfl Ux (by rw [hTz];decide) ?_;rw [hTx])
      |(go_at_call 12;(with_reducible refine CTH.out.mono ?_);rintro e w9 ⟨rfl,hb9⟩))
     rw [HPO.out,HX9.out]
     exact⟨hb8.trans (hb9.mono (qD (qS zg3) hHeld.size)),rfl,_,_,HPr.out.ext (hHeld.trans (hb9.mono hHeld.size))⟩
    ·go_wp2_with(fail)
     refine R6 fun w5 hq=>?_
     have hBH:Blk w5 wd.heap.size 49 J7:=by rw [hq];exact Blk.new wd _ _
     have hb5:Below wd.heap.size wd w5:=by rw [hq];exact(qB _ _).alloc (qC _) _
     have zH:=hBH.lt
     have hgH:=hHeld.size
     refine hK.out _ _ (hHeld.trans (hb5.mono hHeld.size)) (fun hHeld=>?_)
     clear hq hK K hb5
     generalize wd.heap.size=gH at *
     refine k1 20 (by kernel_rfl) rfl rfl (fun K hK=>?_)
     go_wp2_with(go_at_call 13;(refine(CM.out _ hHeld).mono ?_);rintro e w6 ⟨hb6,AL,cL,A2,n2,c2,cy,tk,bk,T,hT,rfl,hown⟩;have HTT:=qA hT;clear hT)
     have hne:(Value.slice AL Y.1.length cL).ownBlock=none∨(Value.slice AL Y.1.length cL).ownBlock≠some gH:=Or.inr (fun q=>by have:=(hown.lt _ q).1;omega)
     refine hK.out _ _ (hHeld.trans (hb6.mono hHeld.size)) (fun hHeld=>?_)
     replace hBH:=hBH.ext hb6
     clear hK K hb6
     refine tT 21 rfl ?_
     simp only [Act.put,sA,sS,sZ]
     refine tT 22 rfl ?_
     simp only [Act.put,sA,sS,sZ]
     refine tT 23 rfl ?_
     simp only [Act.put,sA,sS,sZ]
     have hTz:T.size=40:=by rw [HTT.out];exact It _ HT.out.hart.len _ _ _ _
     have hT1:T.all (·.oneCell')=true:=by rw [HTT.out];exact Ju _ _ _ _ _ _ _ _ _ _
     have hTx:T.extract 1 (1+35)=Y.2.1.cells:=by rw [HTT.out];exact Kz _ HT.out.hart.len _ _ _ _
     have hT0:T[0]? = some (.slice AL Y.1.length cL):=by rw [HTT.out];rfl
     refine k1 25 (by kernel_rfl) rfl rfl (fun K hK=>?_)
     refine De 49 _ _ rfl gH T rfl rfl 49 _ hBH (Gk hTz) (by rw [hTz];rfl) hT1 ?_
     intro w8 hX hg8
     have hcm:=Dq.own (hown.kept hg8 hne)
     refine hK.out _ _ (hHeld.grown hg8 hHeld.size (fun k hk=>by cases hk;exact hgH)) (fun hHeld=>?_)
     clear hK K hBH hown hne hg8
     simp only [Act.put,sA,sS,sZ]
     refine tT 26 rfl ?_
     simp only [Act.put,sA,sS,sZ]
     refine kE (by kernel_rfl) ?_
     have hb8:=HB9.out.trans (hHeld.mono (qS zg3))
     have CTH:=qA (Qu AL Y cL w8 HT.out hcm)
     have cX:=(hX.cell 0).trans hT0
     clear c0 cx hT0 hT1 hcm
     go_wp2_with(first
      |(refine Ai rfl 30 _ rfl gH 1 rfl 49 T 35 _ hX Tryz.underlying30 rfl Ux (by rw [hTz];decide) ?_;rw [hTx])
      |(go_at_call 12;(with_reducible refine CTH.out.mono ?_);rintro e w9 ⟨rfl,hb9⟩))
     rw [HPO.out,HX9.out]
     exact⟨hb8.trans (hb9.mono (qD (qS zg3) hHeld.size)),rfl,_,_,HPr.out.ext (hHeld.trans (hb9.mono hHeld.size))⟩
   ·as_aux_lemma=>
    obtain⟨kb,o,rfl,hkB,hcell⟩:=(Ar.own HROW.out) (by simp)
    have cx:wr.cell? ⟨kb,o,none⟩=some (.int .u32 x):=hcell 0 x rfl
    have hx:=HNW.out x (by simp)
    have CD:=qA (fun W=>Pl x W hx.1 hx.2)
    have hX9:=HXS.out.trans (Zl p x)
    clear hcell HXS
    rcases hd:Ns x with _ | i
    ·have hw:K0 Et x=noB:=by unfold K0 Et;rw [hd];rfl
     rw [hw] at hX9
     have HX9:=qA hX9
     rw [hd] at CD
     replace CD:Hid (∀ W,Calls Tryz.prog 14 #[.int .u32 x] W fun e w'=>e = .returned (.tuple #[.agg Wm.cells, .bool false])∧Below W.heap.size W w'):=CD
     clear hd hw hX9
     go_upto_region 57 with(go_at_call 14;go_loud ((with_reducible refine(CD.out _).mono ?_);rintro e w3 ⟨rfl,hb3⟩;have hq3:=fun o=>hb3.alloc hb3.size o))
     try go_simp
     repeat go_step
     go_ret
     rw [HPO.out,HX9.out]
     exact⟨HB9.out.trans ((hq3 _).mono (by omega)),rfl,_,_,HPr.out.ext (hq3 _)⟩
    ·obtain⟨op,rd,r1,r2,imm⟩:=i
     have hw:K0 Et x=Dz isB [op,rd,r1,r2,imm%4294967296]:=by unfold K0 Et;rw [hd];rfl
     rw [hw] at hX9
     have HX9:=qA hX9
     have him:=Uf hx.1 hx.2 hd
     obtain⟨⟨o1,o2⟩,⟨d1,d2⟩,⟨a1,a2⟩,b1,b2⟩:=Ho (Yv hd)
     dsimp only at o1 o2 d1 d2 a1 a2 b1 b2 him
     rw [hd] at CD
     replace CD:Hid (∀ W,Calls Tryz.prog 14 #[.int .u32 x] W fun e w'=>e = .returned (.tuple #[.agg (Ins.mk op rd r1 r2 imm).cells, .bool true])∧Below W.heap.size W w'):=CD
     have CI:=qA (fun W A (hA:Ar W W.heap.size .i64 A [op,rd,r1,r2,imm%4294967296])=>Ls isB A [op,rd,r1,r2,imm%4294967296] 5 W (by simp) (by simp [isB]) (by simp;omega) hA)
     obtain⟨j0,hj,hj0,hj1,hj2⟩:=info_parts Af6
     have hwr:IntKind.u32.wrap imm=imm%4294967296:=IntKind.wrap_u32 imm
     have hm0:0≤imm%4294967296:=by omega
     have hm1:imm%4294967296<4294967296:=by omega
     clear hd hw hX9 o1 o2 d1 d2 a1 a2 b1 b2 him
     go_upto_region 57 with(go_at_call 14;(with_reducible refine(CD.out _).mono ?_);rintro e w3 ⟨rfl,hb3⟩)
     try go_simp
     refine A1 fun W1 hq=>?_
     have hB1:Blk W1 w3.heap.size 53 (Ins.mk op rd r1 r2 imm).cells:=by rw [hq];exact Blk.new w3 _ _
     have hb1:Below wr.heap.size wr W1:=by rw [hq];exact hb3.alloc hb3.size _
     generalize w3.heap.size=gI at *
     clear hq hb3 CD
     have i0:W1.cell? ⟨gI,0,none⟩=some (.int .i64 op):=hB1.cell 0
     have i1:W1.cell? ⟨gI,1,none⟩=some (.int .i64 rd):=hB1.cell 1
     have i2:W1.cell? ⟨gI,2,none⟩=some (.int .i64 r1):=hB1.cell 2
     have i3:W1.cell? ⟨gI,3,none⟩=some (.int .i64 r2):=hB1.cell 3
     have i4:W1.cell? ⟨gI,4,none⟩=some (.int .i32 imm):=hB1.cell 4
     go_upto_region 59 with(fail)
     try go_simp
     iterate 37 go_step
     refine Sk rfl 60 2 5 _ rfl j0 hj hj0 hj1 Tryz.underlying60 [.int .i64 op, .int .i64 rd, .int .i64 r1, .int .i64 r2, .int .i64 (imm%4294967296)] rfl (by decide) (by decide) (by simp [Value.cells]) (by kernel_rfl) ?_
     have hb2:=hb1.alloc hb1.size (.cells [Value.int .i64 op, .int .i64 rd, .int .i64 r1, .int .i64 r2, .int .i64 (imm%4294967296)].toArray 2)
     have hA:Ar (W1.alloc (.cells [Value.int .i64 op, .int .i64 rd, .int .i64 r1, .int .i64 r2, .int .i64 (imm%4294967296)].toArray 2)) (W1.alloc (.cells [Value.int .i64 op, .int .i64 rd, .int .i64 r1, .int .i64 r2, .int .i64 (imm%4294967296)].toArray 2)).heap.size .i64 (some ⟨W1.heap.size,0,none⟩) [op,rd,r1,r2,imm%4294967296]:=by exact Ct [op,rd,r1,r2,imm%4294967296] (Blk.new W1 _ _)
     have CJ:=qA (CI.out _ _ hA)
     generalize W1.alloc (.cells [Value.int .i64 op, .int .i64 rd, .int .i64 r1, .int .i64 r2, .int .i64 (imm%4294967296)].toArray 2)=W2 at hb2 CJ ⊢
     clear hA CI
     simp only [Act.put,sA,sS,sZ]
     repeat go_step
     go_at_call 9
     refine CJ.out.mono ?_
     rintro e w5 ⟨rfl,hb5⟩
     dsimp only
     repeat go_step
     go_ret
     rw [HPO.out,HX9.out]
     have hq6:=hb2.trans (hb5.mono hb2.size)
     exact⟨HB9.out.trans (hq6.mono (qS (qE zg z9))),rfl,_,_,HPr.out.ext hq6⟩
   ·have hX9:=HXS.out.trans (Zk p hk)
    have HX9:=qA hX9
    clear hX9 HXS
    rcases hk with⟨h1,h2,h3,h4,h5,h6,h7,h8⟩ | ⟨rfl | rfl | rfl | rfl,hn1⟩ | ⟨rfl,hn2⟩ | ⟨rfl,hn3⟩
    ·as_aux_lemma=>
     have e1:(k0==[119,111,114,100,115])=false:=by simpa [Kf] using h1
     have e2:(k0==[112,99])=false:=by simpa [pcB] using h2
     have e3:(k0==[115,101,116])=false:=by simpa [Sd] using h3
     have e4:(k0==[99,111,114,101])=false:=by simpa [M0] using h4
     have e5:(k0==[99,104,111,111,115,101])=false:=by simpa [H5] using h5
     have e6:(k0==[109,111,100,101,108])=false:=by simpa [Jd] using h6
     have e7:(k0==[114,117,110])=false:=by simpa [Tm] using h7
     have e8:(k0==[119,104,97,116])=false:=by simpa [M7] using h8
     clear h1 h2 h3 h4 h5 h6 h7 h8
     clear z9 zg hll
     go_wp2_with(fail)
     rw [HPO.out,HX9.out]
     exact⟨HB9.out,rfl,_,_,HPr.out⟩
    ·as_aux_lemma=>
     have e1:((L.length:Int)==1)=false:=by simp;omega
     clear z9 zg hll
     go_wp2_with(fail)
     rw [HPO.out,HX9.out]
     exact⟨HB9.out,rfl,_,_,HPr.out⟩
    ·as_aux_lemma=>
     have e1:((L.length:Int)==1)=false:=by simp;omega
     clear z9 zg hll
     go_wp2_with(fail)
     rw [HPO.out,HX9.out]
     exact⟨HB9.out,rfl,_,_,HPr.out⟩
    ·as_aux_lemma=>
     have e1:((L.length:Int)==1)=false:=by simp;omega
     clear z9 zg hll
     go_wp2_with(fail)
     rw [HPO.out,HX9.out]
     exact⟨HB9.out,rfl,_,_,HPr.out⟩
    ·as_aux_lemma=>
     have e1:((L.length:Int)==1)=false:=by simp;omega
     clear z9 zg hll
     go_wp2_with(fail)
     rw [HPO.out,HX9.out]
     exact⟨HB9.out,rfl,_,_,HPr.out⟩
    ·as_aux_lemma=>
     have e1:((L.length:Int)==2)=false:=by simp;omega
     clear z9 zg hll
     go_wp2_with(fail)
     rw [HPO.out,HX9.out]
     exact⟨HB9.out,rfl,_,_,HPr.out⟩
    ·as_aux_lemma=>
     have e1:((L.length:Int)==3)=false:=by simp;omega
     clear z9 zg hll
     go_wp2_with(fail)
     rw [HPO.out,HX9.out]
     exact⟨HB9.out,rfl,_,_,HPr.out⟩
end Go.Proofs.YtapgojgcmlnbgaaGreatDoor
