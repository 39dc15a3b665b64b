/- Parts of a proof. -/
import Derived.Test.YtapgojgcmlnbgaaGreatDoorK00
import Derived.Test.YtapgojgcmlnbgaaGreatDoorK09
import Derived.Test.YtapgojgcmlnbgaaGreatDoorK07
import Derived.Test.YtapgojgcmlnbgaaGreatDoorK19
import Derived.Test.YtapgojgcmlnbgaaGreatDoorK18
import Derived.Test.YtapgojgcmlnbgaaGreatDoorK03
import Derived.Test.YtapgojgcmlnbgaaGreatDoorK02
import Derived.Test.YtapgojgcmlnbgaaGreatDoorRows
import Derived.Lib.LaidU8
import Derived.ShapedOpen
import Derived.LaidMore
import Derived.LaidLaws
set_option linter.unusedSimpArgs false
set_option linter.unusedVariables false
set_option maxRecDepth 100000
set_option maxHeartbeats 16000000
namespace Go.Proofs.YtapgojgcmlnbgaaGreatDoor
open Go
section
variable (M R:Plr→Int→List Com×Ap×Int) (D:Int→Option (List Int)) (may:Int→Int→Int→Bool)
def Dx (p:Plr) (k:List UInt8) (l:List Int):Plr×List UInt8:=
 if k=Iu then if 4096<p.mem.length+4*l.length then (p,I3) else ({ p with mem:=p.mem++l.flatMap Cq },D9 okB [((p.mem++l.flatMap Cq).length:Nat)])
 else if k=pcB∧l.length=1 then ({ p with hart:={ p.hart with pc:=l.getD 0 0 } },okB)
 else if k=Mz∧l.length=2∧1≤l.getD 0 0∧l.getD 0 0≤31 then ({ p with hart:={ p.hart with regs:=p.hart.regs.set (l.getD 0 0).toNat (l.getD 1 0) } },okB)
 else if k=Jv∧l.length=3 then if may (l.getD 0 0) (l.getD 1 0) (l.getD 2 0)=true then ({ p with window:=l.getD 0 0,phys:=l.getD 1 0,wide:=l.getD 2 0 },okB) else (p,I3)
 else if k=Gg then ({ p with choices:=l },D9 okB [(l.length:Nat)])
 else if k=G8∧l.length=1 then (p,Kp (M p (l.getD 0 0)).1 (M p (l.getD 0 0)).2.1 (M p (l.getD 0 0)).2.2)
 else if k=Pe∧l.length=1 then (p,Kp (R p (l.getD 0 0)).1 (R p (l.getD 0 0)).2.1 (R p (l.getD 0 0)).2.2)
 else if k=J8∧l.length=1 then (p,Mt D (l.getD 0 0))
 else (p,I3)
theorem T1 {p:Plr} {s k:List UInt8} {ws:List (List UInt8)} (h:Au 32 s=k::ws) (hn:Db ws=none):H7 M R D may p s=(p,I3):=by
 unfold H7
 rw [h,List.tail_cons,hn]
theorem T2 {p:Plr} {s k:List UInt8} {ws:List (List UInt8)} {l:List Int} (h:Au 32 s=k::ws) (hn:Db ws=some l):H7 M R D may p s=Dx M R D may p k l:=by
 unfold H7
 rw [h,List.tail_cons,hn]
 rfl
variable {M R D may}
theorem Aat (p:Plr) (l:List Int):Dx M R D may p Iu l=if 4096<p.mem.length+4*l.length then (p,I3) else ({ p with mem:=p.mem++l.flatMap Cq },D9 okB [((p.mem++l.flatMap Cq).length:Nat)]):=if_pos rfl
theorem Ajl (p:Plr) (x:Int):Dx M R D may p pcB [x]=({ p with hart:={ p.hart with pc:=x } },okB):=by unfold Dx;rw [if_neg (by decide),if_pos ⟨rfl,rfl⟩];rfl
theorem Ahv (p:Plr) (a b:Int) (h:1≤a∧a≤31):Dx M R D may p Mz [a,b]=({ p with hart:={ p.hart with regs:=p.hart.regs.set a.toNat b } },okB):=by
 unfold Dx;rw [if_neg (by decide),if_neg (fun h=>absurd h.1 (by decide)),if_pos ⟨rfl,rfl,h.1,h.2⟩];rfl
theorem Ado (p:Plr) (a b c:Int):Dx M R D may p Jv [a,b,c]=if may a b c=true then ({ p with window:=a,phys:=b,wide:=c },okB) else (p,I3):=by
 unfold Dx;rw [if_neg (by decide),if_neg (fun h=>absurd h.1 (by decide)),if_neg (fun h=>absurd h.1 (by decide)),if_pos ⟨rfl,rfl⟩];rfl
theorem Wy (p:Plr) (l:List Int):Dx M R D may p Gg l=({ p with choices:=l },D9 okB [(l.length:Nat)]):=by
 unfold Dx;rw [if_neg (by decide),if_neg (fun h=>absurd h.1 (by decide)),if_neg (fun h=>absurd h.1 (by decide)),if_neg (fun h=>absurd h.1 (by decide)),if_pos rfl]
theorem Aar (p:Plr) (x:Int):Dx M R D may p G8 [x]=(p,Kp (M p x).1 (M p x).2.1 (M p x).2.2):=by
 unfold Dx;rw [if_neg (by decide),if_neg (fun h=>absurd h.1 (by decide)),if_neg (fun h=>absurd h.1 (by decide)),if_neg (fun h=>absurd h.1 (by decide)),if_neg (by decide),if_pos ⟨rfl,rfl⟩];rfl
theorem Ahu (p:Plr) (x:Int):Dx M R D may p Pe [x]=(p,Kp (R p x).1 (R p x).2.1 (R p x).2.2):=by
 unfold Dx;rw [if_neg (by decide),if_neg (fun h=>absurd h.1 (by decide)),if_neg (fun h=>absurd h.1 (by decide)),if_neg (fun h=>absurd h.1 (by decide)),if_neg (by decide),if_neg (fun h=>absurd h.1 (by decide)),if_pos ⟨rfl,rfl⟩];rfl
theorem Adq (p:Plr) (x:Int):Dx M R D may p J8 [x]=(p,Mt D x):=by
 unfold Dx;rw [if_neg (by decide),if_neg (fun h=>absurd h.1 (by decide)),if_neg (fun h=>absurd h.1 (by decide)),if_neg (fun h=>absurd h.1 (by decide)),if_neg (by decide),if_neg (fun h=>absurd h.1 (by decide)),if_neg (fun h=>absurd h.1 (by decide)),if_pos ⟨rfl,rfl⟩];rfl
def Aga (k:List UInt8) (l:List Int):Prop:=
 (k≠Iu∧k≠pcB∧k≠Mz∧k≠Jv∧k≠Gg∧k≠G8∧k≠Pe∧k≠J8)∨((k=pcB∨k=G8∨k=Pe∨k=J8)∧l.length≠1)∨(k=Mz∧l.length≠2)∨(k=Jv∧l.length≠3)
theorem Adp (p:Plr) {k:List UInt8} {l:List Int} (h:Aga k l):Dx M R D may p k l=(p,I3):=by
 unfold Dx
 rcases h with⟨h1,h2,h3,h4,h5,h6,h7,h8⟩ | ⟨rfl | rfl | rfl | rfl,hn⟩ | ⟨rfl,hn⟩ | ⟨rfl,hn⟩
 ·simp [h1,h2,h3,h4,h5,h6,h7,h8]
 all_goals simp [hn,Iu,pcB,Mz,Jv,Gg,G8,Pe,J8]
theorem Aas (p:Plr) (a b:Int) (h:¬ (1≤a∧a≤31)):Dx M R D may p Mz [a,b]=(p,I3):=by
 unfold Dx
 have h':1≤a→¬ a≤31:=fun h1 h2=>h ⟨h1,h2⟩
 simp [Iu,pcB,Mz,Jv,Gg,G8,Pe,J8]
 omega
theorem Zn (k:List UInt8) (l:List Int):k=Iu∨(k=pcB∧∃ x,l=[x])∨(k=Mz∧∃ a b,l=[a,b])∨(k=Jv∧∃ a b c,l=[a,b,c])∨k=Gg∨(k=G8∧∃ x,l=[x])∨(k=Pe∧∃ x,l=[x])∨(k=J8∧∃ x,l=[x])∨Aga k l:=by
 have one:l.length=1→∃ x,l=[x]:=List.length_eq_one_iff.1
 have two:l.length=2→∃ a b,l=[a,b]:=fun h=>by
  match l,h with
  |[a,b],_=>exact⟨a,b,rfl⟩
 have three:l.length=3→∃ a b c,l=[a,b,c]:=fun h=>by
  match l,h with
  |[a,b,c],_=>exact⟨a,b,c,rfl⟩
 unfold Aga
 by_cases h1:k=Iu
 ·exact Or.inl h1
 by_cases h2:k=pcB
 ·by_cases n:l.length=1
  ·exact Or.inr (Or.inl ⟨h2,one n⟩)
  ·simp [h2,n]
 by_cases h3:k=Mz
 ·by_cases n:l.length=2
  ·exact Or.inr (Or.inr (Or.inl ⟨h3,two n⟩))
  ·simp [h3,n]
 by_cases h4:k=Jv
 ·by_cases n:l.length=3
  ·exact Or.inr (Or.inr (Or.inr (Or.inl ⟨h4,three n⟩)))
  ·simp [h4,n]
 by_cases h5:k=Gg
 ·simp [h5]
 by_cases h6:k=G8
 ·by_cases n:l.length=1
  ·exact Or.inr (Or.inr (Or.inr (Or.inr (Or.inr (Or.inl ⟨h6,one n⟩)))))
  ·simp [h6,n]
 by_cases h7:k=Pe
 ·by_cases n:l.length=1
  ·exact Or.inr (Or.inr (Or.inr (Or.inr (Or.inr (Or.inr (Or.inl ⟨h7,one n⟩))))))
  ·simp [h7,n]
 by_cases h8:k=J8
 ·by_cases n:l.length=1
  ·exact Or.inr (Or.inr (Or.inr (Or.inr (Or.inr (Or.inr (Or.inr (Or.inl ⟨h8,one n⟩)))))))
  ·simp [h8,n]
 simp [h1,h2,h3,h4,h5,h6,h7,h8]
end
end Go.Proofs.YtapgojgcmlnbgaaGreatDoor
namespace Go.Proofs.YtapgojgcmlnbgaaGreatDoor
open Go Go.RowKit
theorem Ah4 (x:Int) (h0:0≤x) (h1:x≤4294967295):(Mt Gt x).length≤1000:=by
 unfold Mt Gt
 rcases hd:Oe x with _ | ⟨op,rd,r1,r2,imm⟩
 ·exact Nat.le_of_ble_eq_true rfl
 ·have him:=Yz h0 h1 hd
  obtain⟨⟨o1,o2⟩,⟨d1,d2⟩,⟨a1,a2⟩,b1,b2⟩:=H6 (Abi hd)
  dsimp only at o1 o2 d1 d2 a1 a2 b1 b2 him
  have:=(J1 [op,rd,r1,r2,imm%4294967296] isB (by simp;omega)).2
  have hb:isB.length=2:=rfl
  simp only [List.length_cons,List.length_nil] at this
  show(D9 isB [op,rd,r1,r2,imm%4294967296]).length≤1000
  omega
theorem Aca {M R:Plr→Int→List Com×Ap×Int} (H:Adt M R) {p:Plr} (hp:Em p) (k:List UInt8) (l:List Int) (hr:∀ x∈l,0≤x∧x≤4294967295) (hl:l.length≤4294967296) :
  Em (Dx M R Gt Hy p k l).1∧(Dx M R Gt Hy p k l).2.length≤21002000:=by
 have say1:∀ n:Nat,n≤4294967296→(D9 okB [(n:Int)]).length≤21002000:=fun n hn=>by
  have:=(J1 [(n:Int)] okB (by simp;omega)).2
  have hb:okB.length=2:=rfl
  simp only [List.length_cons,List.length_nil] at this
  omega
 have ask:I3.length≤21002000:=Nat.le_of_ble_eq_true rfl
 have ok:okB.length≤21002000:=Nat.le_of_ble_eq_true rfl
 rcases Zn k l with rfl | ⟨rfl,x,rfl⟩ | ⟨rfl,a,b,rfl⟩ | ⟨rfl,a,b,c,rfl⟩ | rfl | ⟨rfl,x,rfl⟩ | ⟨rfl,x,rfl⟩ | ⟨rfl,x,rfl⟩ | hk
 ·rw [Aat]
  split
  ·exact⟨hp,ask⟩
  ·rename_i h
   have hlen:(p.mem++l.flatMap Cq).length=p.mem.length+4*l.length:=by rw [List.length_append,Ob]
   refine⟨⟨hp.hart,hp.state,hp.cause,hp.may,fun b hb=>?_,by show(p.mem++l.flatMap Cq).length≤4096;omega,hp.cho,hp.many⟩,say1 _ (by omega)⟩
   rcases List.mem_append.1 hb with hb | hb
   ·exact hp.mem b hb
   ·obtain⟨x,_,hx⟩:=List.mem_flatMap.1 hb
    exact Aea b hx
 ·rw [Ajl]
  have hx:=hr x (by simp)
  exact⟨⟨⟨hp.hart.len,hp.hart.word,hx.1,hx.2⟩,hp.state,hp.cause,hp.may,hp.mem,hp.room,hp.cho,hp.many⟩,ok⟩
 ·by_cases h:1≤a∧a≤31
  ·rw [Ahv p a b h]
   have hb:=hr b (by simp)
   have hm:=hp.may
   have h0:(p.hart.regs.set a.toNat b).getD 0 0=p.hart.regs.getD 0 0:=by
    rw [List.getD_eq_getElem?_getD,List.getElem?_set_ne (by omega),←List.getD_eq_getElem?_getD]
   refine⟨⟨⟨by show(p.hart.regs.set a.toNat b).length=32;rw [List.length_set];exact hp.hart.len,fun x hx=>?_,hp.hart.pc0,hp.hart.pc1⟩,hp.state,hp.cause,?_,hp.mem,hp.room,hp.cho,hp.many⟩,ok⟩
   ·rcases List.mem_or_eq_of_mem_set hx with hx | rfl
    ·exact hp.hart.word x hx
    ·exact hb
   ·unfold Im Ap.reg at hm ⊢
    rw [show((0:Int)).toNat=0 from rfl] at hm ⊢
    dsimp only at hm ⊢
    rw [h0]
    exact hm
  ·rw [Aas p a b h];exact⟨hp,ask⟩
 ·rw [Ado]
  split
  ·exact⟨⟨hp.hart,hp.state,hp.cause,hp.may,hp.mem,hp.room,hp.cho,hp.many⟩,ok⟩
  ·exact⟨hp,ask⟩
 ·rw [Wy]
  exact⟨⟨hp.hart,hp.state,hp.cause,hp.may,hp.mem,hp.room,hr,hl⟩,say1 _ hl⟩
 ·rw [Aar];exact⟨hp,Aav (H.tellM hp x)⟩
 ·rw [Ahu];exact⟨hp,Aav (H.tellR hp x)⟩
 ·rw [Adq]
  have hx:=hr x (by simp)
  exact⟨hp,Nat.le_trans (Ah4 x hx.1 hx.2) (by decide)⟩
 ·rw [Adp p hk];exact⟨hp,ask⟩
theorem Ahj {M R:Plr→Int→List Com×Ap×Int} (H:Adt M R) {p:Plr} (hp:Em p) (s:List UInt8) (hs:s.length≤2000000):Em (H7 M R Gt Hy p s).1∧(H7 M R Gt Hy p s).2.length≤21002000:=by
 obtain⟨k,ws,h⟩:=Sc 32 s
 have hlw:=Dn 32 s
 rw [h] at hlw
 simp only [List.length_cons] at hlw
 rcases hn:Db ws with _ | l
 ·rw [T1 M R Gt Hy h hn]
  exact⟨hp,Nat.le_of_ble_eq_true rfl⟩
 ·rw [T2 M R Gt Hy h hn]
  have:=Dg hn
  exact Aca H hp k l (D7 hn) (by omega)
theorem Ag2 {M R:Plr→Int→List Com×Ap×Int} (H:Adt M R) {B:Nat} (g:Nat) (p:Plr) (vM vC:Value) (s:List UInt8) (w:World) (V:F5 B w) (hB:B≤g) (hp:Em p) (hP:Ej 59 w g p vM vC) (hl:s.length≤2000000) :
  Calls Tryz.prog 16 #[.pointer (some ⟨g,0,none⟩),sV s] w (B8 59 w g (H7 M R Gt Hy p s)):=by
 obtain⟨k0,ws,hws⟩:=Sc 32 s
 rcases hn:Db ws with _ | l
 ·rw [T1 _ _ _ _ hws hn]
  exact Aio g p vM vC s k0 ws w V hB hP hl hws hn
 ·rw [T2 _ _ _ _ hws hn]
  rcases Zn k0 l with rfl | ⟨rfl,x,rfl⟩ | ⟨rfl,a,b,rfl⟩ | ⟨rfl,a,b,c,rfl⟩ | rfl | ⟨rfl,x,rfl⟩ | ⟨rfl,x,rfl⟩ | ⟨rfl,x,rfl⟩ | hk
  ·rw [Aat];exact Ab4 g p vM vC s ws l w V hB hp hP hl hws hn
  ·rw [Ajl];exact Aip g p vM vC s ws x w V hB hp hP hl hws hn
  ·by_cases h:1≤a∧a≤31
   ·rw [Ahv p a b h];exact Ag5 g p vM vC s ws a b w V hB hp hP hl hws hn h.1 h.2
   ·rw [Aas p a b h];exact Ab3 g p vM vC s ws a b w V hB hP hl hws hn h
  ·rw [Ado];exact Afc g p vM vC s ws a b c w V hB hp hP hl hws hn
  ·rw [Wy];exact Zq g p vM vC s ws l w V hB hp hP hl hws hn
  ·rw [Aar];exact Ab2 H g p vM vC s ws x w V hB hp hP hl hws hn
  ·rw [Ahu];exact Ag4 H g p vM vC s ws x w V hB hp hP hl hws hn
  ·rw [Adq];exact Afd g p vM vC s ws x w V hB hp hP hl hws hn
  ·rw [Adp p hk];exact Ag3 g p vM vC s k0 ws l w V hB hP hl hws hn hk
theorem Se (a b c:Int) (h:Ap) (m k:Nat) (cycles:Int) :
  ((a<1∨32<a∨b<33∨96<b∨c<1∨4<c∨Im h=false∨4096<m)→Hg a b c h m k cycles=2) ∧
  (¬ (a<1∨32<a∨b<33∨96<b∨c<1∨4<c∨Im h=false∨4096<m)→Hg a b c h m k cycles=if 3000<k then 1 else if cycles<0∨6000<cycles then 3 else 0):=by
 have hm:Ait a b c=false↔(a<1∨32<a∨b<33∨96<b∨c<1∨4<c):=by
  unfold Ait
  simp only [Bool.and_eq_false_iff,decide_eq_false_iff_not]
  omega
 unfold Hg
 constructor
 ·intro hh
  rw [if_pos]
  rw [hm]
  rcases hh with h1 | h1 | h1 | h1 | h1 | h1 | h1 | h1<;>simp [h1]
 ·intro hh
  rw [if_neg]
  rw [hm]
  intro h2
  apply hh
  rcases h2 with(h1 | h1 | h1 | h1 | h1 | h1) | h1 | h1<;>simp [h1]
theorem Yk {a b c:Int} {h:Ap} {m:List Int} {k:Nat} {cycles:Int} (hh:h.Wf) (hm:Bytes m) (hw:Hg a b c h m.length k cycles=0):Ac4 a b c h m∧k≤3000∧0≤cycles∧cycles≤6000:=by
 obtain⟨hx2,hxe⟩:=Se a b c h m.length k cycles
 by_cases h2:(a<1∨32<a∨b<33∨96<b∨c<1∨4<c∨Im h=false∨4096<m.length)
 ·rw [hx2 h2] at hw;cases hw
 ·have he:=hxe h2
  rw [hw] at he
  have hmay:Im h=true:=by
   rcases e:Im h with _ | _
   ·exact absurd (by simp [e]) h2
   ·rfl
  have h3:¬ 3000<k:=fun hk=>by rw [if_pos hk] at he;cases he
  rw [if_neg h3] at he
  have h4:¬ (cycles<0∨6000<cycles):=fun hk=>by rw [if_pos hk] at he;cases he
  exact⟨⟨by omega,by omega,by omega,hh,hmay,hm,by omega⟩,by omega,by omega,by omega⟩
end Go.Proofs.YtapgojgcmlnbgaaGreatDoor
namespace Go.Proofs.YtapgojgcmlnbgaaGreatDoor
open Go.RowKit
theorem Aju (h:Ap) (b:Nat) (T:TypeId) (A:Option Addr) (base cap:Nat) (m:List Int) (w:World) (hh:h.Wf) (hH:Blk w b T h.cells) (hl:m.length≤4294967291) (hm:Bytes m)
  (hown:w.ownsRow base 5 1 (.slice A m.length cap) m.length (m.map (.int .u8))) (hne:(Value.slice A m.length cap).ownBlock≠some b) :
  Calls Tryz.prog 20 #[.pointer (some ⟨b,0,none⟩), .slice A m.length cap] w fun e w'=>e = .returned (.agg (Kr h m).cells)∧Blk w' b T (goH h m).cells ∧
   w'.ownsRow base 5 1 (.slice A m.length cap) m.length ((goM h m).map (.int .u8))∧Two (some b) (Value.slice A m.length cap).ownBlock w w':=by
 obtain⟨i,cause,hf⟩:∃ i cause,Dp m h.pc=(i,cause):=⟨_,_,rfl⟩
 have hcom:=Aic hf
 have hcwf:=Lib.hid (Pw hh hm)
 have hcfit:=Lib.hid (Q0 h m)
 have hgoH:Oc h.cells 0 (Kr h m)=(goH h m).cells:=Vu h (Kr h m) hh.len hcwf.out.rd.1 hcwf.out.rd.2
 have hgoM:C9 (Kr h m) m=goM h m:=rfl
 have hcz:=Nu (m:=m) (pc:=h.pc)
 rw [hf] at hcz
 dsimp only at hcz
 have CF:=Lib.hid (fun W hW=>Nv A cap m h.pc W hh.pc0 hh.pc1 (by omega) hm hW)
 rw [hf] at CF
 dsimp only at CF
 have cpc:=(hH.cell 32).trans (Ap.cells_pc hh.len).1
 have HgH:=Lib.hid hgoH
 have HgM:=Lib.hid hgoM
 have Hcom:=Lib.hid hcom
 generalize goH h m=h' at *
 generalize goM h m=m' at *
 generalize Kr h m=cm at *
 clear hgoH hgoM hcom hf
 have zb:=hH.lt
 go_enter Tryz.func20,Tryz.ntmps20
 go_upto_region 1 with(fail)
 go_simp
 refine A4 fun wa hq=>?_
 have hR:Blk wa w.heap.size 65 #[.int .u32 0, .int .u32 0, .int .i64 0, .int .i64 0, .int .i64 0, .int .u32 0, .int .u32 0, .int .i64 0, .int .u32 0, .bool false, .int .u32 0]:=by rw [hq];exact Blk.new w _ _
 have hbl:Below w.heap.size w wa:=by rw [hq];exact(Below.refl _ _).alloc (Nat.le_refl _) _
 clear hq
 have hHa:=hH.ext hbl
 have hM:=Ci hown hbl
 have cpa:=(hbl.cell (p:=⟨b,32,none⟩) zb).trans cpc
 have hA:=As.own hM
 go_upto_region 2 with(go_at_call 33;(with_reducible refine(CF.out _ hA).mono ?_);rintro e w2 ⟨rfl,hb2⟩)
 try go_simp
 refine A4 fun wb hq=>?_
 have hI:Blk wb w2.heap.size 53 i.cells:=by rw [hq];exact Blk.new w2 _ _
 have hbb:Below wa.heap.size wa wb:=by rw [hq];exact hb2.alloc hb2.size _
 have hsz2:wa.heap.size≤w2.heap.size:=hb2.size
 generalize w2.heap.size=g5 at *
 clear hq hb2
 replace hbl:=hbl.trans (hbb.mono hbl.size)
 have hRb:=hR.ext hbb
 replace hHa:=hHa.ext hbb
 replace hM:=Ci hM hbb
 have cpb:=(hbl.cell (p:=⟨b,32,none⟩) zb).trans cpc
 have hRl:=hR.lt
 have hg5:w.heap.size<g5:=by omega
 clear hR hA cpa hbb CF
 go_upto_region 3 with(go_at_call 34;(with_reducible refine(J5 ⟨h.pc,0,0,0,0,0,0,0,0,false,0⟩ cause _).mono ?_);rintro e w2 ⟨rfl,hb2⟩)
 try go_simp
 refine A4 fun wc hq=>?_
 have hC:Blk wc w2.heap.size 65 (Bv h.pc cause).cells:=by rw [hq];exact Blk.new w2 _ _
 have hbb:Below wb.heap.size wb wc:=by rw [hq];exact hb2.alloc hb2.size _
 have hsz3:wb.heap.size≤w2.heap.size:=hb2.size
 have hI2:=hI.ext hbb
 have hR2:=hRb.ext hbb
 have hIl:=hI.lt
 generalize w2.heap.size=g7 at *
 clear hq hb2
 replace hbl:=hbl.trans (hbb.mono hbl.size)
 replace hHa:=hHa.ext hbb
 replace hM:=Ci hM hbb
 have hg7:g5<g7:=by omega
 clear hI hRb cpb hbb hIl hsz3 hsz2 hRl
 by_cases hz:cause=0
 ·subst hz
  obtain⟨hI3,_,_⟩:=hcz rfl
  have hcmd:Ck i h m=cm:=(show cm=Ck i h m from Hcom.out).symm
  obtain⟨_,_,⟨hs0,hs1⟩,ht0,ht1⟩:=H6 hI3
  have CD:=Lib.hid (fun W (hW:F6 W b 0 h) hA=>Tf i h b 0 A cap m W hh hs0 hs1 ht0 ht1 hW (by omega) hm hA)
  rw [hcmd] at CD
  have hHt:=F6.of_blk hh.len hHa
  have hA:=As.own hM
  clear hcz Hcom hcmd hI3 hs0 hs1 ht0 ht1
  go_upto_region 5 with(first
   |(refine Ac rfl 53 _ rfl g5 rfl 53 _ _ hI2 Tryz.underlying53 rfl Ct ?_)
   |(go_at_call 35;(with_reducible refine(CD.out _ hHt hA).mono ?_);rintro e w3 ⟨rfl,hb3⟩;replace hbl:=hbl.trans (hb3.mono hbl.size);replace hR2:=hR2.ext hb3;replace hC:=hC.ext hb3;replace hHa:=hHa.ext hb3;replace hM:=Ci hM hb3;clear hb3)
   |(refine Ae rfl 65 _ _ rfl g7 cm.cells rfl rfl 65 _ hC Al rfl (cells_one cm) ?_;intro w5 hB5 hg5';replace hR2:=hR2.grown hg5' (fun e=>by injection e;omega);replace hHa:=hHa.grown hg5' (fun e=>by injection e;omega);replace hM:=hM.kept hg5' (Or.inr (fun e=>by have:=(hown.lt g7 e).2;omega));replace hbl:=below_grown hbl hg5' hbl.size (by omega);replace hC:=hB5;clear hg5' hB5))
  try go_simp
  have hcw:=hcwf.out
  have hcf:=hcfit.out
  have hcr0:=hcw.rd.1
  have hcr1:=hcw.rd.2
  have hcd0:=hcw.data.1
  have hcd1:=hcw.data.2
  have hcm:=hcw.many
  have hfit:cm.many=0∨(0≤cm.at_∧cm.at_+cm.many≤m.length∧cm.at_≤4294967291):=by
   have h1:=hcw.at_
   rcases hcf with h | h
   ·exact Or.inl h
   ·rcases hcm with h' | h' | h' | h'
    ·exact Or.inl h'
    ·exact Or.inr (by omega)
    ·exact Or.inr (by omega)
    ·exact Or.inr (by omega)
  have CA:=Lib.hid (Qx cm b 0 T h.cells A base cap m _ hHa (by rw [Ap.cells_size hh.len];omega) hcr0 hcr1 hM hne (by omega) hcm hfit hcd0 hcd1)
  clear hcw hcf hcr0 hcr1 hcd0 hcd1 hcm hfit
  have hR0:=hR2.lt
  have hR7:=hC.lt
  go_upto_region 6 with(first
   |(refine Ac rfl 65 _ rfl g7 rfl 65 _ _ hC Tryz.underlying65 rfl Al ?_)
   |(go_at_call 36;(with_reducible refine CA.out.mono ?_);rintro e w9 ⟨rfl,w8,hg8,hH8,hM9,hg9⟩;have hTw:=Two.of hg8 hg9;replace hR2:=hTw.blk hR2 (fun e=>by injection e;omega) (fun e=>by have:=(hown.lt w.heap.size e.symm).2;omega);replace hC:=hTw.blk hC (fun e=>by injection e;omega) (fun e=>by have:=(hown.lt g7 e.symm).2;omega)))
  replace hTw:=Two.after hbl (Nat.le_refl _) hTw
  have hH9:=hH8.grown hg9 (fun e=>hne e.symm)
  rw [HgH.out] at hH9
  rw [HgM.out] at hM9
  clear CA hH8 hg8 hg9
  go_wp2_with(first
   |(refine Ac rfl 65 _ rfl g7 rfl 65 _ _ hC Tryz.underlying65 rfl Al ?_)
   |(refine Ae rfl 65 _ _ rfl w.heap.size cm.cells rfl rfl 65 _ hR2 Al rfl (cells_one cm) ?_;intro w5 hB5 hg5'))
  exact bodyPost_ret (v := .agg cm.cells) (Bn rfl _ _ w.heap.size 65 _ _ rfl hB5 Tryz.underlying65 rfl Al) rfl ⟨rfl,hH9.grown hg5' (fun e=>by injection e;omega),hM9.kept hg5' (Or.inr (fun e=>by have:=(hown.lt w.heap.size e).2;omega)),hTw.grown hg5' (fun j hj=>by injection hj;omega)⟩
 ·obtain rfl:cm=Bv h.pc cause:=by have h:=Hcom.out;rw [if_neg hz] at h;exact h
  have hz':(cause==0)=false:=by simpa using hz
  clear Hcom hcz
  have hRx:=hR2
  go_upto_region 5 with(fail)
  try go_simp
  clear hz hz' hRx
  have hcw:=hcwf.out
  have hcf:=hcfit.out
  have hcr0:=hcw.rd.1
  have hcr1:=hcw.rd.2
  have hcd0:=hcw.data.1
  have hcd1:=hcw.data.2
  have hcm:=hcw.many
  have hfit:(Bv h.pc cause).many=0∨(0≤(Bv h.pc cause).at_∧(Bv h.pc cause).at_+(Bv h.pc cause).many≤m.length∧(Bv h.pc cause).at_≤4294967291):=by
   have h1:=hcw.at_
   rcases hcf with h | h
   ·exact Or.inl h
   ·rcases hcm with h' | h' | h' | h'
    ·exact Or.inl h'
    ·exact Or.inr (by omega)
    ·exact Or.inr (by omega)
    ·exact Or.inr (by omega)
  have CA:=Lib.hid (Qx (Bv h.pc cause) b 0 T h.cells A base cap m _ hHa (by rw [Ap.cells_size hh.len];omega) hcr0 hcr1 hM hne (by omega) hcm hfit hcd0 hcd1)
  clear hcw hcf hcr0 hcr1 hcd0 hcd1 hcm hfit
  have hR0:=hR2.lt
  have hR7:=hC.lt
  go_upto_region 6 with(first
   |(refine Ac rfl 65 _ rfl g7 rfl 65 _ _ hC Tryz.underlying65 rfl Al ?_)
   |(go_at_call 36;(with_reducible refine CA.out.mono ?_);rintro e w9 ⟨rfl,w8,hg8,hH8,hM9,hg9⟩;have hTw:=Two.of hg8 hg9;replace hR2:=hTw.blk hR2 (fun e=>by injection e;omega) (fun e=>by have:=(hown.lt w.heap.size e.symm).2;omega);replace hC:=hTw.blk hC (fun e=>by injection e;omega) (fun e=>by have:=(hown.lt g7 e.symm).2;omega)))
  replace hTw:=Two.after hbl (Nat.le_refl _) hTw
  have hH9:=hH8.grown hg9 (fun e=>hne e.symm)
  rw [HgH.out] at hH9
  rw [HgM.out] at hM9
  clear CA hH8 hg8 hg9
  go_wp2_with(first
   |(refine Ac rfl 65 _ rfl g7 rfl 65 _ _ hC Tryz.underlying65 rfl Al ?_)
   |(refine Ae rfl 65 _ _ rfl w.heap.size (Bv h.pc cause).cells rfl rfl 65 _ hR2 Al rfl (cells_one (Bv h.pc cause)) ?_;intro w5 hB5 hg5'))
  exact bodyPost_ret (v := .agg (Bv h.pc cause).cells) (Bn rfl _ _ w.heap.size 65 _ _ rfl hB5 Tryz.underlying65 rfl Al) rfl ⟨rfl,hH9.grown hg5' (fun e=>by injection e;omega),hM9.kept hg5' (Or.inr (fun e=>by have:=(hown.lt w.heap.size e).2;omega)),hTw.grown hg5' (fun j hj=>by injection hj;omega)⟩
def Hh (h:Ap) (m:List Int) (steps:Int):Int:=if Im h=false∨4096<m.length then 2 else if steps<0∨2000<steps then 3 else 0
section
variable {P:Program} {fn:Func} {tmps:Array Value} {w:World} {ad:Addr} {v x y z:Value} {p a b c:Tmp} {ty:TypeId}
theorem Gl (h:fn.results=#[.tmp a, .cell p ty, .tmp b, .tmp c]) (hp:tmps.getD p undef = .pointer (some ad)) (ha:tmps.getD a undef=x) (hb:tmps.getD b undef=y) (hc:tmps.getD c undef=z)
  (hl:(loadVar ty ad).run P w = .ok v w):(results fn tmps).run P w = .ok (.tuple #[x,v,y,z]) w:=by
 have hp':tmps[p]?.getD undef = .pointer (some ad):=by simpa using hp
 have ha':tmps[a]?.getD undef=x:=by simpa using ha
 have hb':tmps[b]?.getD undef=y:=by simpa using hb
 have hc':tmps[c]?.getD undef=z:=by simpa using hc
 simp [results,h,hp',ha',hb',hc',asAddr,hl]
end
theorem Adh {w w':World} {base:Nat} {e:TypeId} {size:Nat} {v:Value} {n:Nat} {xs:List Value} (ho:w.ownsRow base e size v n xs) {b:Nat} {mo:Option Nat} (k:Two (some b) mo w w') (hb:b<base) (hm:∀ j,mo=some j→j<base):w'.ownsRow base e size v n xs:=
 ⟨ho.1,ho.2.imp id fun⟨g,cap,cur,e,l,hh,r⟩=>⟨g,cap,cur,e,l,by
  have hg:g<w.heap.size:=by
   rcases Nat.lt_or_ge g w.heap.size with h' | h'
   ·exact h'
   ·rw [Array.getElem?_eq_none h'] at hh;cases hh
  rw [←hh]
  exact k.block g hg (fun e=>by injection e;omega) (fun e=>by have:=hm g e.symm;omega),r⟩⟩
theorem Sr {w w':World} {base:Nat} {e:TypeId} {size:Nat} {v:Value} {n:Nat} {xs:List Value} (ho:w.ownsRow base e size v n xs) {g:Nat} (k:w.grownBy w' (some g)) (hg:g<base):w'.ownsRow base e size v n xs:=
 Adh ho (b:=g) (mo:=none) ⟨k.os,k.tape,k.output,k.size,fun j hj h1 _=>k.block j hj h1⟩ hg (fun j hj=>by cases hj)
def sliceLen:Value→Nat
 |.slice _ n _=>n
 |_=>0
theorem Aj6 (h:Ap) (A:Option Addr) (cap:Nat) (m:List Int) (steps:Int) (w:World) (hh:h.Wf) (hl:m.length≤140737488351232) (s0 : -9223372036854775808≤steps) (s1:steps≤9223372036854775807) (hno:Hh h m steps≠0) :
  Calls Tryz.prog 11 #[.agg h.cells, .slice A m.length cap, .int .i64 steps] w fun e w'=>e = .returned (.tuple #[.slice none 0 0, .agg E7.cells, .slice none 0 0, .int .i64 (Hh h m steps)])∧Below w.heap.size w w':=by
 have CM:=Lib.hid (fun W=>Qa h W hh.len)
 obtain⟨X,hx⟩:∃ X,Hh h m steps=X:=⟨_,rfl⟩
 rw [hx] at hno ⊢
 unfold Hh at hx
 obtain⟨N,hN⟩:∃ N,N=m.length:=⟨_,rfl⟩
 rw [←hN] at hx hl ⊢
 clear hN
 rcases hm:Im h with _ | _
 ·rw [hm] at CM hx
  obtain rfl:X=2:=by rw [←hx,if_pos (Or.inl rfl)]
  clear hx hno hm
  go_enter Tryz.func11,Tryz.ntmps11
  go_upto_region 1 with(fail)
  go_simp
  refine A4 fun wa hq=>?_
  have hH:Blk wa w.heap.size 30 h.cells:=by rw [hq];exact(Blk.new w _ _).alloc _
  have hR:Blk wa (w.heap.size+1) 30 E7.cells:=by rw [hq];exact Blk.newAt (w.alloc _) 30 _ (by simp)
  have hbl:Below w.heap.size w wa:=by rw [hq];exact((Below.refl _ _).alloc (Nat.le_refl _) _).alloc (by simp) _
  clear hq
  go_wp2_with(first
   |(refine Ac rfl 30 _ rfl w.heap.size rfl 30 _ _ hH Tryz.underlying30 rfl (Cl hh.len) ?_)
   |(go_at_call 18;(with_reducible refine(CM.out _).mono ?_);rintro e w2 ⟨rfl,hb2⟩;replace hbl:=hbl.trans (hb2.mono hbl.size);replace hR:=hR.ext hb2;clear hb2)
   |(refine Ao rfl 30 _ rfl [] rfl _ Kg ?_)
   |(refine Ae rfl 30 _ _ rfl (w.heap.size+1) E7.cells rfl rfl 30 _ hR (Cl Hj) rfl (Gx E7) ?_;intro w6 hB6 hg6))
  refine bodyPost_ret (Gl rfl rfl rfl rfl rfl (Jn Hj hB6)) rfl ?_
  exact⟨rfl,below_grown hbl hg6 hbl.size (by omega)⟩
 rw [hm] at CM hx
 by_cases hN:4096<N
 ·obtain rfl:X=2:=by rw [←hx,if_pos (Or.inr hN)]
  have f1:decide ((4096:Int)<(N:Int))=true:=decide_eq_true (by omega)
  clear hx hno hm
  go_enter Tryz.func11,Tryz.ntmps11
  go_upto_region 1 with(fail)
  go_simp
  refine A4 fun wa hq=>?_
  have hH:Blk wa w.heap.size 30 h.cells:=by rw [hq];exact(Blk.new w _ _).alloc _
  have hR:Blk wa (w.heap.size+1) 30 E7.cells:=by rw [hq];exact Blk.newAt (w.alloc _) 30 _ (by simp)
  have hbl:Below w.heap.size w wa:=by rw [hq];exact((Below.refl _ _).alloc (Nat.le_refl _) _).alloc (by simp) _
  clear hq
  go_wp2_with(first
   |(refine Ac rfl 30 _ rfl w.heap.size rfl 30 _ _ hH Tryz.underlying30 rfl (Cl hh.len) ?_)
   |(go_at_call 18;(with_reducible refine(CM.out _).mono ?_);rintro e w2 ⟨rfl,hb2⟩;replace hbl:=hbl.trans (hb2.mono hbl.size);replace hR:=hR.ext hb2;clear hb2)
   |(refine Ao rfl 30 _ rfl [] rfl _ Kg ?_)
   |(refine Ae rfl 30 _ _ rfl (w.heap.size+1) E7.cells rfl rfl 30 _ hR (Cl Hj) rfl (Gx E7) ?_;intro w6 hB6 hg6))
  refine bodyPost_ret (Gl rfl rfl rfl rfl rfl (Jn Hj hB6)) rfl ?_
  exact⟨rfl,below_grown hbl hg6 hbl.size (by omega)⟩
 rw [if_neg (by simp;omega)] at hx
 have f1:decide ((4096:Int)<(N:Int))=false:=decide_eq_false (by omega)
 by_cases hs:steps<0
 ·obtain rfl:X=3:=by rw [←hx,if_pos (Or.inl hs)]
  have f2:decide (steps<0)=true:=decide_eq_true hs
  clear hx hno hm hs
  go_enter Tryz.func11,Tryz.ntmps11
  go_upto_region 1 with(fail)
  go_simp
  refine A4 fun wa hq=>?_
  have hH:Blk wa w.heap.size 30 h.cells:=by rw [hq];exact(Blk.new w _ _).alloc _
  have hR:Blk wa (w.heap.size+1) 30 E7.cells:=by rw [hq];exact Blk.newAt (w.alloc _) 30 _ (by simp)
  have hbl:Below w.heap.size w wa:=by rw [hq];exact((Below.refl _ _).alloc (Nat.le_refl _) _).alloc (by simp) _
  clear hq
  go_wp2_with(first
   |(refine Ac rfl 30 _ rfl w.heap.size rfl 30 _ _ hH Tryz.underlying30 rfl (Cl hh.len) ?_)
   |(go_at_call 18;(with_reducible refine(CM.out _).mono ?_);rintro e w2 ⟨rfl,hb2⟩;replace hbl:=hbl.trans (hb2.mono hbl.size);replace hR:=hR.ext hb2;clear hb2)
   |(refine Ao rfl 30 _ rfl [] rfl _ Kg ?_)
   |(refine Ae rfl 30 _ _ rfl (w.heap.size+1) E7.cells rfl rfl 30 _ hR (Cl Hj) rfl (Gx E7) ?_;intro w6 hB6 hg6))
  refine bodyPost_ret (Gl rfl rfl rfl rfl rfl (Jn Hj hB6)) rfl ?_
  exact⟨rfl,below_grown hbl hg6 hbl.size (by omega)⟩
 by_cases hs2:2000<steps
 ·obtain rfl:X=3:=by rw [←hx,if_pos (Or.inr hs2)]
  have f2:decide (steps<0)=false:=decide_eq_false hs
  have f3:decide (2000<steps)=true:=decide_eq_true hs2
  clear hx hno hm hs hs2
  go_enter Tryz.func11,Tryz.ntmps11
  go_upto_region 1 with(fail)
  go_simp
  refine A4 fun wa hq=>?_
  have hH:Blk wa w.heap.size 30 h.cells:=by rw [hq];exact(Blk.new w _ _).alloc _
  have hR:Blk wa (w.heap.size+1) 30 E7.cells:=by rw [hq];exact Blk.newAt (w.alloc _) 30 _ (by simp)
  have hbl:Below w.heap.size w wa:=by rw [hq];exact((Below.refl _ _).alloc (Nat.le_refl _) _).alloc (by simp) _
  clear hq
  go_wp2_with(first
   |(refine Ac rfl 30 _ rfl w.heap.size rfl 30 _ _ hH Tryz.underlying30 rfl (Cl hh.len) ?_)
   |(go_at_call 18;(with_reducible refine(CM.out _).mono ?_);rintro e w2 ⟨rfl,hb2⟩;replace hbl:=hbl.trans (hb2.mono hbl.size);replace hR:=hR.ext hb2;clear hb2)
   |(refine Ao rfl 30 _ rfl [] rfl _ Kg ?_)
   |(refine Ae rfl 30 _ _ rfl (w.heap.size+1) E7.cells rfl rfl 30 _ hR (Cl Hj) rfl (Gx E7) ?_;intro w6 hB6 hg6))
  refine bodyPost_ret (Gl rfl rfl rfl rfl rfl (Jn Hj hB6)) rfl ?_
  exact⟨rfl,below_grown hbl hg6 hbl.size (by omega)⟩
 exact absurd (by rw [←hx,if_neg (by omega)]) hno
theorem Aj7 (h:Ap) (A:Option Addr) (cap:Nat) (m:List Int) (steps:Int) (w:World) (hh:h.Wf) (hl:m.length≤140737488351232) (hm:Bytes m) (hA:As w w.heap.size .u8 A m) (hnil:A=none→m=[]) (hno:Hh h m steps=0) :
  Calls Tryz.prog 11 #[.agg h.cells, .slice A m.length cap, .int .i64 steps] w fun e w'=>∃ AL cL A2 c2,e = .returned (.tuple #[.slice AL (C4 steps.toNat h m).1.length cL, .agg (C4 steps.toNat h m).2.1.cells, .slice A2 m.length c2, .int .i64 0])∧Below w.heap.size w w' ∧
   w'.ownsRow w.heap.size 65 11 (.slice AL (C4 steps.toNat h m).1.length cL) (C4 steps.toNat h m).1.length (Eb (C4 steps.toNat h m).1)∧w'.ownsRow w.heap.size 5 1 (.slice A2 m.length c2) m.length ((C4 steps.toNat h m).2.2.map (.int .u8)):=by
 obtain⟨⟨hmay,hlen⟩,hs0,hs1⟩:(Im h=true∧m.length≤4096)∧0≤steps∧steps≤2000:=by
  unfold Hh at hno
  split at hno
  ·cases hno
  ·rename_i h1
   split at hno
   ·cases hno
   ·exact⟨by cases hh:Im h<;>simp_all<;>omega,by omega⟩
 obtain⟨N,rfl⟩:=Int.eq_ofNat_of_zero_le hs0
 rw [Int.toNat_natCast]
 have CM:=Lib.hid (fun W=>Qa h W hh.len)
 rw [hmay] at CM
 have f1:decide ((4096:Int)<(m.length:Int))=false:=decide_eq_false (by omega)
 have f2:decide ((2000:Int)<(N:Int))=false:=decide_eq_false (by omega)
 have CC:=Lib.hid (fun W (hW:As W W.heap.size .u8 A m)=>M1 A m.length cap (m.map (.int .u8)) W (by omega) (by simp) (ints_oneCell _ _) hW.cells (fun e=>by rw [hnil e];rfl))
 obtain⟨R,hRn⟩:∃ R,C4 N h m=R:=⟨_,rfl⟩
 have hrun:Rl h m∧m.length=m.length∧C4 N h m=([]++(C4 (N - 0) h m).1,(C4 (N - 0) h m).2):=⟨⟨hh,hmay,hm⟩,rfl,by simp⟩
 rw [hRn] at hrun ⊢
 clear hno hRn
 obtain⟨i0,hi,hz0,hz1,hz2⟩:=info_parts Vz
 go_enter Tryz.func11,Tryz.ntmps11
 go_upto_region 1 with(fail)
 go_simp
 refine A4 fun wa hq=>?_
 have hH:Blk wa w.heap.size 30 h.cells:=by rw [hq];exact(Blk.new w _ _).alloc _
 have hR:Blk wa (w.heap.size+1) 30 E7.cells:=by rw [hq];exact Blk.newAt (w.alloc _) 30 _ (by simp)
 have hbl:Below w.heap.size w wa:=by rw [hq];exact((Below.refl _ _).alloc (Nat.le_refl _) _).alloc (by simp) _
 clear hq
 go_upto_region 5 with(first
  |(refine Ac rfl 30 _ rfl w.heap.size rfl 30 _ _ hH Tryz.underlying30 rfl (Cl hh.len) ?_)
  |(go_at_call 18;(with_reducible refine(CM.out _).mono ?_);rintro e w2 ⟨rfl,hb2⟩;replace hbl:=hbl.trans (hb2.mono hbl.size);replace hR:=hR.ext hb2;replace hH:=hH.ext hb2;clear hb2))
 try go_simp
 clear f1 f2 CM
 have hA3:=(hA.below hbl).mono hbl.size
 have hz2':=hR.lt
 go_upto_region 6 with(go_at_call 19;(with_reducible refine(CC.out _ hA3).mono ?_);rintro e w3 ⟨v,rfl,hM,hb3⟩;obtain⟨A3,cap3,rfl⟩:=Aq hM)
 try go_simp
 replace hbl:=hbl.trans (hb3.mono hbl.size)
 replace hH:=hH.ext hb3
 replace hR:=hR.ext hb3
 have hzM:=hb3.size
 have hmb:∀ j,(Value.slice A3 m.length cap3).ownBlock=some j→w2.heap.size≤j∧j<w3.heap.size:=fun j hj=>hM.lt j hj
 obtain⟨B1,hB1⟩:∃ B1,B1=w2.heap.size:=⟨_,rfl⟩
 obtain⟨B2,hB2⟩:∃ B2,B2=w3.heap.size:=⟨_,rfl⟩
 rw [←hB1] at hM hmb hz2' hzM
 rw [←hB2] at hmb hzM
 have hB2':B2≤w3.heap.size:=by omega
 clear hB1 hB2 hA3 hb3 CC
 have HRUN:=Lib.hid hrun
 clear hrun
 go_upto_region 7 with(fail)
 go_loopw [11] (fun v wr=>∃ (k:Nat) (AL:Option Addr) (cL:Nat) (ls:List Com) (h':Ap) (m':List Int),v = .slice AL k cL∧k≤N∧Below w.heap.size w wr∧Blk wr w.heap.size 30 h'.cells∧Blk wr (w.heap.size+1) 30 E7.cells∧wr.ownsRow B1 5 1 (.slice A3 m.length cap3) m.length (m'.map (.int .u8))∧wr.ownsRow B2 65 11 (.slice AL k cL) k (Eb ls)∧B2≤wr.heap.size∧Hid (Rl h' m'∧m'.length=m.length∧R=(ls++(C4 (N - k) h' m').1,(C4 (N - k) h' m').2))) (fun v _=>N+1 - sliceLen v)
 case atStart=>exact⟨0,none,0,[],h,m,rfl,Nat.zero_le _,hbl,hH,hR,hM,World.ownsRow_nil _ _ _ _,hB2',Lib.hid ⟨HRUN.out.1,rfl,HRUN.out.2.2⟩⟩
 case round=>
  clear hbl hH hR hM hB2' HRUN
  obtain⟨k,AL,cL,ls,h',m',rfl,hk,hb,hH,hR,hM,hL,hB2',Hrel⟩:=hrel
  obtain⟨hok,hml,Hr⟩:=Hrel.out
  clear Hrel
  have c33:=(hH.cell 33).trans (Ap.cells_pc hok.hart.len).2.1
  by_cases hlt:k<N
  ·have t1:decide ((k:Int)<(N:Int))=true:=decide_eq_true (by omega)
   by_cases hst:h'.state=0
   ·have t2:(h'.state==0)=true:=by simpa using hst
    have hnx:=hok.next
    rw [show N - k=(N - (k+1))+1 by omega,Gm hst] at Hr
    have hml2:(goM h' m').length=m.length:=(Iy _ _).trans hml
    have CG:Calls Tryz.prog 20 #[.pointer (some ⟨w.heap.size,0,none⟩), .slice A3 m.length cap3] wr fun e w'=>e = .returned (.agg (Kr h' m').cells)∧Blk w' w.heap.size 30 (goH h' m').cells∧w'.ownsRow B1 5 1 (.slice A3 m.length cap3) m.length ((goM h' m').map (.int .u8))∧Two (some w.heap.size) (Value.slice A3 m.length cap3).ownBlock wr w':=by
     rw [←hml] at hM ⊢
     exact Aju h' w.heap.size 30 A3 B1 cap3 m' wr hok.hart hH (by omega) hok.bytes hM (fun e=>by have:=hM.lt _ e;omega)
    have CG:=Lib.hid CG
    generalize Kr h' m'=C at *
    generalize goH h' m'=h9 at *
    generalize goM h' m'=m9 at *
    obtain⟨HR,hHR⟩:∃ HR,HR=C4 (N - (k+1)) h9 m9:=⟨_,rfl⟩
    rw [←hHR] at Hr
    have Hnew:Hid (Rl h9 m9∧m9.length=m.length∧R=((ls++[C])++(C4 (N - (k+1)) h9 m9).1,(C4 (N - (k+1)) h9 m9).2)):=Lib.hid ⟨hnx,hml2,by rw [Hr,←hHR];simp⟩
    clear Hr hHR HR hnx hml2 hok hst
    go_upto_region 8 with(fail)
    try go_simp
    clear c33 t1 t2
    go_wp2_with(first
     |(go_at_call 20;(with_reducible refine CG.out.mono ?_);rintro e w7 ⟨rfl,hH7,hM7,hT⟩;have hL7:=Adh hL hT (by omega) (fun j hj=>(hmb j hj).2);have hR7:=hT.blk hR (fun e=>by injection e;omega) (fun e=>by have:=(hmb _ e.symm).1;omega);have hb7:=Two.below hb hT hb.size (fun j hj=>by injection hj;omega) (fun j hj=>by have:=(hmb j hj).1;omega);have hz7:=hT.size)
     |(at_builtin;refine Cu rfl (.tmp 41) (.tmp 44) 43 rfl B2 65 i0 _ 11 64 Tryz.underlying43 hi hz0 hz1 hz2 rfl (by decide) (.slice AL k cL) k (Eb ls) rfl (hL7.alloc _) (some ⟨w7.heap.size,0,none⟩) 1 1 C.cells.toList rfl (Sm C) (fun h=>by cases h) (Jo w7 C.cells _) (fun u hu=>Oi [C] u (by rw [Nq];exact hu)) (by unfold maxLen;omega) (by omega) (by simp;omega) ?_;intro v8 w8 hL8 hg8))
    have hzl:∀ j,(Value.slice AL k cL).ownBlock=some j→B2≤j:=fun j hj=>(hL7.lt j hj).1
    have hH8:=(hH7.alloc (.cells C.cells 65)).grown hg8 (fun e=>by have:=hzl _ e.symm;omega)
    have hR8:=(hR7.alloc (.cells C.cells 65)).grown hg8 (fun e=>by have:=hzl _ e.symm;omega)
    have hb8:=(hb7.alloc hb7.size (.cells C.cells 65)).grown hg8 (by have:=hb7.size;simp;omega) (fun j hj=>by have:=hzl j hj;omega)
    have hM8:=(hM7.alloc (.cells C.cells 65)).kept hg8 (by
     rcases hv:(Value.slice A3 m.length cap3).ownBlock with _ | b
     ·exact Or.inl rfl
     ·right;intro e;have:=hzl b e.symm;have:=(hmb b hv).2;omega)
    have hz8:=hg8.size
    simp only [World.size_alloc] at hz8
    rw [←Nq C,←Px] at hL8
    obtain⟨A8,cap8,rfl⟩:=Aq hL8
    go_roundw
    case rel=>exact⟨k+1,A8,cap8,ls++[C],h9,m9,rfl,by omega,hb8,hH8,hR8,hM8,hL8,by omega,Hnew⟩
    case measure=>simp [sliceLen];omega
   ·have t2:(h'.state==0)=false:=by simpa using hst
    have hfin:(ls++(C4 (N - k) h' m').1,(C4 (N - k) h' m').2)=(ls,h',m'):=by rw [Lj hst];simp
    clear hst
    rw [hfin] at Hr
    have HF:=Lib.hid Hr
    clear Hr
    have hhl:=hok.hart.len
    go_upto_region 9 with(fail)
    try go_simp
    refine Ad 109 2 111 [0,1,2,3,4,5,6] (by kernel_rfl) (by kernel_rfl) (by kernel_rfl) rfl ?_
    repeat'(first
     |refine rZ ?_
     |(refine' oR _ (by decide) (by decide) (by decide) (fun wq hwq K hK=>?_) ?_ ?_;rotate_left 1;(· first | ((refine Ez 30 _ rfl w.heap.size rfl 30 _ _ (hH.ext hwq) Tryz.underlying30 rfl (Cl hhl) ?_;exact hK)) | (go_wp2_with(fail);all_goals exact hK));rfl)
     |fail)
    refine oS (fun w1 hw1 K1 hK1=>?_)
    have hR1:Blk w1 (w.heap.size+1) 30 E7.cells:=by rw [hw1];exact hR.ext (Below.refl _ _).drew
    have hM1:=Ci hM (w':=w1) (by rw [hw1];exact(Below.refl _ _).drew)
    have hL1:=Ci hL (w':=w1) (by rw [hw1];exact(Below.refl _ _).drew)
    have hb1:Below w.heap.size w w1:=by rw [hw1];exact hb.drew
    clear hw1
    refine Cg 30 _ _ rfl (w.heap.size+1) 0 h'.cells rfl rfl 30 _ hR1 (Cl hhl) (by rw [Ap.cells_size hhl];decide) (Gx h') ?_
    intro w2 hB2 hg2
    rw [Jk _ _ (by rw [Ap.cells_size hhl];rfl)] at hB2
    refine hK1 _ _ (fun _=>True) trivial ?_
    simp only [Act.put,sA,sS,sZ]
    refine rO ?_
    refine Ai ?_
    rintro w3 rfl
    go_wp2
    refine bodyPost_ret (Gl (x := .slice AL k cL) (y := .slice A3 m.length cap3) (z := .int .i64 0) rfl rfl rfl rfl rfl (Jn hhl hB2)) rfl ?_
    have e1:=congrArg (·.1) HF.out
    have e2:=congrArg (·.2.1) HF.out
    have e3:=congrArg (·.2.2) HF.out
    dsimp only at e1 e2 e3
    refine⟨AL,cL,A3,cap3,?_,below_grown hb1 hg2 hb1.size (by omega),?_,?_⟩
    ·rw [e1,e2,←El.len hL1]
    ·rw [e1,←El.len hL1]
     exact Lh (Sr hL1 hg2 (by omega)) (by omega)
    ·rw [e3]
     exact Lh (Sr hM1 hg2 (by omega)) (by omega)
  ·obtain rfl:k=N:=by omega
   have t1:decide ((k:Int)<(k:Int))=false:=by simp
   have hfin:(ls++(C4 (k - k) h' m').1,(C4 (k - k) h' m').2)=(ls,h',m'):=by rw [Nat.sub_self];simp [C4]
   rw [hfin] at Hr
   have HF:=Lib.hid Hr
   clear Hr
   have hhl:=hok.hart.len
   go_upto_region 9 with(fail)
   try go_simp
   refine Ad 109 2 111 [0,1,2,3,4,5,6] (by kernel_rfl) (by kernel_rfl) (by kernel_rfl) rfl ?_
   repeat'(first
    |refine rZ ?_
    |(refine' oR _ (by decide) (by decide) (by decide) (fun wq hwq K hK=>?_) ?_ ?_;rotate_left 1;(· first | ((refine Ez 30 _ rfl w.heap.size rfl 30 _ _ (hH.ext hwq) Tryz.underlying30 rfl (Cl hhl) ?_;exact hK)) | (go_wp2_with(fail);all_goals exact hK));rfl)
    |fail)
   refine oS (fun w1 hw1 K1 hK1=>?_)
   have hR1:Blk w1 (w.heap.size+1) 30 E7.cells:=by rw [hw1];exact hR.ext (Below.refl _ _).drew
   have hM1:=Ci hM (w':=w1) (by rw [hw1];exact(Below.refl _ _).drew)
   have hL1:=Ci hL (w':=w1) (by rw [hw1];exact(Below.refl _ _).drew)
   have hb1:Below w.heap.size w w1:=by rw [hw1];exact hb.drew
   clear hw1
   refine Cg 30 _ _ rfl (w.heap.size+1) 0 h'.cells rfl rfl 30 _ hR1 (Cl hhl) (by rw [Ap.cells_size hhl];decide) (Gx h') ?_
   intro w2 hB2 hg2
   rw [Jk _ _ (by rw [Ap.cells_size hhl];rfl)] at hB2
   refine hK1 _ _ (fun _=>True) trivial ?_
   simp only [Act.put,sA,sS,sZ]
   refine rO ?_
   refine Ai ?_
   rintro w3 rfl
   go_wp2
   refine bodyPost_ret (Gl (x := .slice AL k cL) (y := .slice A3 m.length cap3) (z := .int .i64 0) rfl rfl rfl rfl rfl (Jn hhl hB2)) rfl ?_
   have e1:=congrArg (·.1) HF.out
   have e2:=congrArg (·.2.1) HF.out
   have e3:=congrArg (·.2.2) HF.out
   dsimp only at e1 e2 e3
   refine⟨AL,cL,A3,cap3,?_,below_grown hb1 hg2 hb1.size (by omega),?_,?_⟩
   ·rw [e1,e2,←El.len hL1]
   ·rw [e1,←El.len hL1]
    exact Lh (Sr hL1 hg2 (by omega)) (by omega)
   ·rw [e3]
    exact Lh (Sr hM1 hg2 (by omega)) (by omega)
end Go.Proofs.YtapgojgcmlnbgaaGreatDoor
namespace Go.Proofs.YtapgojgcmlnbgaaGreatDoor
open Go Go.RowKit
def Rc (p:Plr) (n:Int):List Com×Ap×Int:=
 if Hh p.hart p.mem n=0 then ((C4 n.toNat p.hart p.mem).1,(C4 n.toNat p.hart p.mem).2.1,0) else ([],E7,Hh p.hart p.mem n)
def Re (p:Plr) (n:Int):List Com×Ap×Int:=
 if Hg p.window p.phys p.wide p.hart p.mem.length p.choices.length n=0 then ((Jj p.window p.phys p.wide p.hart p.mem p.choices n.toNat).commits,(Jj p.window p.phys p.wide p.hart p.mem p.choices n.toNat).hart,0) else ([],E7,Hg p.window p.phys p.wide p.hart p.mem.length p.choices.length n)
theorem P9:(0:Int)≤0∧(0:Int)≤1000:=by decide
theorem Ag9 {h:Ap} (hm:Im h=true):(0≤h.state∧h.state≤1000)∧0≤h.cause∧h.cause≤1000:=by
 unfold Im at hm
 simp at hm
 omega
theorem Aco {p:Plr} (hp:Em p) (n:Int):K5 (Rc p n):=by
 unfold Rc
 by_cases h:Hh p.hart p.mem n=0
 ·rw [if_pos h]
  have hn:n≤2000:=by
   unfold Hh at h
   split at h
   ·cases h
   ·split at h
    ·cases h
    ·omega
  obtain⟨k1,k2,k3,k4,_⟩:=Ss n.toNat (h:=p.hart) (m:=p.mem) ⟨hp.hart,hp.may,hp.mem⟩
  obtain⟨b1,b2⟩:=Ag9 k1.may
  exact⟨by show(C4 n.toNat p.hart p.mem).1.length≤1000000;omega,fun c hc=>(k3 c hc).1,k1.hart,b1,b2,by simp⟩
 ·rw [if_neg h]
  have hb:0≤Hh p.hart p.mem n∧Hh p.hart p.mem n≤1000:=by unfold Hh;split;omega;split<;>omega
  exact⟨by simp,fun c hc=>(by cases hc),Zk,P9,P9,hb⟩
theorem Afw {p:Plr} (hp:Em p) (n:Int):K5 (Re p n):=by
 unfold Re
 by_cases h:Hg p.window p.phys p.wide p.hart p.mem.length p.choices.length n=0
 ·rw [if_pos h]
  obtain⟨ask,hk,n0,n1⟩:=Yk hp.hart hp.mem h
  have S:=Afn ask p.choices n.toNat
  generalize Jj p.window p.phys p.wide p.hart p.mem p.choices n.toNat=C at S ⊢
  obtain⟨k1,_,k3,_,_⟩:=Ss C.commits.length (h:=p.hart) (m:=p.mem) ⟨hp.hart,hp.may,hp.mem⟩
  rw [S.run] at k1 k3
  dsimp only at k1 k3
  obtain⟨b1,b2⟩:=Ag9 k1.may
  have h1:=S.few
  have h2:=S.cycles
  have h3:C.cycles*p.wide≤6000*4:=Int.mul_le_mul (by omega) ask.wide.2 (by have:=ask.wide.1;omega) (by omega)
  exact⟨by show C.commits.length≤1000000;omega,fun c hc=>(k3 c hc).1,k1.hart,b1,b2,by simp⟩
 ·rw [if_neg h]
  have hb:0≤Hg p.window p.phys p.wide p.hart p.mem.length p.choices.length n∧Hg p.window p.phys p.wide p.hart p.mem.length p.choices.length n≤1000:=by
   obtain⟨q1,q2⟩:=Se p.window p.phys p.wide p.hart p.mem.length p.choices.length n
   by_cases hq:(p.window<1∨32<p.window∨p.phys<33∨96<p.phys∨p.wide<1∨4<p.wide∨Im p.hart=false∨4096<p.mem.length)
   ·rw [q1 hq];decide
   ·rw [q2 hq];split;decide;split<;>decide
  exact⟨by simp,fun c hc=>(by cases hc),Zk,P9,P9,hb⟩
theorem Ud {w:World} {base:Nat} {e:TypeId} {A:Option Addr} {cap n:Nat} {l:List Int} {k:IntKind} (h:w.ownsRow base e 1 (.slice A n cap) n (l.map (.int k))):(A=none→l=[]∧cap=0)∧n≤cap∧cap≤9223372036854775807:=by
 have hl:l.length=n:=by simpa using h.1
 rcases h.2 with⟨hv,rfl⟩ | ⟨g,c,cur,hv,_,_,h1,h2,_⟩
 ·injection hv with _ _ hc
  subst hc
  exact⟨fun _=>⟨List.eq_nil_of_length_eq_zero hl,rfl⟩,Nat.le_refl _,Nat.zero_le _⟩
 ·injection hv with ha _ hc
  subst ha hc
  exact⟨fun e=>(by cases e),h1,h2⟩
theorem Ahb {p:Plr} (hp:Em p) (n:Int) (n0:0≤n) (n1:n≤4294967295) {base:Nat} (A:Option Addr) (cap:Nat) (w:World) (hA:w.ownsRow base 5 1 (.slice A p.mem.length cap) p.mem.length (p.mem.map (.int .u8))) :
  Calls Tryz.prog 11 #[.agg p.hart.cells, .slice A p.mem.length cap, .int .i64 n] w (Yh w (Rc p n)):=by
 have hr:=hp.room
 by_cases h:Hh p.hart p.mem n=0
 ·have e:Rc p n=((C4 n.toNat p.hart p.mem).1,(C4 n.toNat p.hart p.mem).2.1,0):=by unfold Rc;rw [if_pos h]
  rw [e]
  refine(Aj7 p.hart A cap p.mem n w hp.hart (by omega) hp.mem (As.own hA) (fun e=>((Ud hA).1 e).1) h).mono ?_
  rintro e w' ⟨AL,cL,A2,c2,rfl,hb,hL,_⟩
  exact⟨hb,AL,cL,_,_,_,rfl,hL⟩
 ·have e:Rc p n=([],E7,Hh p.hart p.mem n):=by unfold Rc;rw [if_neg h]
  rw [e]
  refine(Aj6 p.hart A cap p.mem n w hp.hart (by omega) (by omega) (by omega) h).mono ?_
  rintro e w' ⟨rfl,hb⟩
  exact⟨hb,none,0,none,0,0,rfl,World.ownsRow_nil _ _ _ _⟩
theorem Agg {p:Plr} (hp:Em p) (n:Int) (n0:0≤n) (n1:n≤4294967295) {base:Nat} (A:Option Addr) (cap:Nat) (A2:Option Addr) (cap2:Nat) (w:World) (hA:w.ownsRow base 5 1 (.slice A p.mem.length cap) p.mem.length (p.mem.map (.int .u8))) (hC:w.ownsRow base 3 1 (.slice A2 p.choices.length cap2) p.choices.length (p.choices.map (.int .i64))) :
  Calls Tryz.prog 13 #[.agg #[.int .i64 p.window, .int .i64 p.phys, .int .i64 p.wide], .agg p.hart.cells, .slice A p.mem.length cap, .slice A2 p.choices.length cap2, .int .i64 n] w (Yf w (Re p n)):=by
 have hr:=hp.room
 have hm:=hp.many
 by_cases h:Hg p.window p.phys p.wide p.hart p.mem.length p.choices.length n=0
 ·obtain⟨ask,hk,n0,n1⟩:=Yk hp.hart hp.mem h
  have e:Re p n=((Jj p.window p.phys p.wide p.hart p.mem p.choices n.toNat).commits,(Jj p.window p.phys p.wide p.hart p.mem p.choices n.toNat).hart,0):=by unfold Re;rw [if_pos h]
  rw [e]
  obtain⟨q1,q2,q3⟩:=Ud hC
  refine(Ai9 p.window p.phys p.wide p.hart A cap p.mem A2 cap2 p.choices n w ask (As.own hA) (fun e=>((Ud hA).1 e).1) (As.own hC) q1 q2 q3 hk (fun x hx=>by have:=hp.cho x hx;omega) n0 n1).mono ?_
  rintro e w' ⟨hb,vc,vm,rfl,hL,hM⟩
  obtain⟨AL,cL,rfl⟩:=Aq hL
  obtain⟨AM,cM,rfl⟩:=Aq hM
  exact⟨hb,AL,cL,AM,_,cM,_,_,_,_,rfl,rfl,hL⟩
 ·have e:Re p n=([],E7,Hg p.window p.phys p.wide p.hart p.mem.length p.choices.length n):=by unfold Re;rw [if_neg h]
  rw [e]
  refine(Ai8 p.window p.phys p.wide p.hart A cap p.mem.length A2 cap2 p.choices.length n w hp.hart.len (by omega) (by omega) (by omega) (by omega) h).mono ?_
  rintro e w' ⟨rfl,hb⟩
  exact⟨hb,none,0,none,0,0,0,0,0,_,rfl,rfl,World.ownsRow_nil _ _ _ _⟩
theorem runs:Adt Rc Re:=⟨Aco,Afw,Ahb,Agg⟩
theorem Ag1:Aa1 Rc Re:=fun _ s hp hs=>Ahj runs hp s hs
theorem Afb:Vq 16 59 Rc Re:=fun _ g p vM vC s w V hB hp hP hl=>Ag2 runs g p vM vC s w V hB hp hP hl
def Wo (s:List UInt8):List UInt8:=Ov Rc Re Gt Hy s
theorem Uf {B:Nat} (s:List UInt8) (w:World) (V:F5 B w) (hB:B≤w.heap.size) (hl:s.length≤2000000) :
  Calls Tryz.prog 7 #[sV s] w fun e w'=>e = .returned (sV (Wo s))∧Below w.heap.size w w':=Ai4 Ag1 Afb s w V hB hl
theorem Ug {M R:Plr→Int→List Com×Ap×Int} (HO:Aa1 M R):∀ (K:List (List UInt8)) (p:Plr),Em p→(∀ x∈K,x.length≤2000000)→(H8 M R Gt Hy p K).length≤K.length*21002001
 |[],_,_,_=>Nat.zero_le _
 |x::K,p,hp,h=>by
  obtain⟨h1,h2⟩:=HO p x hp (h x List.mem_cons_self)
  have ih:=Ug HO K _ h1 (fun y hy=>h y (List.mem_cons_of_mem _ hy))
  rw [Nc]
  simp only [List.length_append,List.length_cons]
  omega
theorem Afi (s:List UInt8) (hl:s.length≤2000000):(Wo s).length≤1000000000:=by
 obtain⟨D,z,hDz⟩:=Wx 10 s
 have hpart:=B0 10 s
 rw [hDz] at hpart
 unfold Wo Ov
 rw [Wr hDz]
 obtain⟨K,hK⟩:∃ K,K=(if z=[] then D else D++[z]).take 40:=⟨_,rfl⟩
 rw [←hK]
 have h40:K.length≤40:=by rw [hK,List.length_take];exact Nat.min_le_left _ _
 have:=Ug Ag1 K Ra Xv (fun x hx=>by
  rw [hK] at hx
  have hx:=List.mem_of_mem_take hx
  have:x∈D++[z]:=by split at hx;exact List.mem_append_left _ hx;exact hx
  exact Nat.le_trans (hpart x this) hl)
 omega
theorem Abl {B:Nat} (a b:List UInt8) (w:World) (V:F5 B w) (hB:B≤w.heap.size) (hl:a.length+b.length≤1900000) :
  Calls Tryz.prog 4 #[sV a,sV b] w fun e w'=>e = .returned (.bool true)∧Below w.heap.size w w':=by
 obtain⟨r,hr⟩:=Ab8 Rc Re Gt Hy a b
 have hA:=Ahi Rc Re Gt Hy
 obtain⟨X,hX⟩:∃ X,Wo (a++[10])=X:=⟨_,rfl⟩
 have C1:=Lib.hid (fun W (hW:Below w.heap.size w W)=>Uf (a++[10]) W (V.ext (hW.mono hB)) (Nat.le_trans hB hW.size) (by simp;omega))
 have C2:=Lib.hid (fun W (hW:Below w.heap.size w W)=>Uf (a++10::b) W (V.ext (hW.mono hB)) (Nat.le_trans hB hW.size) (by simp;omega))
 have C3:=Lib.hid (fun W (hW:Below w.heap.size w W)=>Uf [63] W (V.ext (hW.mono hB)) (Nat.le_trans hB hW.size) (by simp))
 have e2:Wo (a++10::b)=X++r:=by rw [←hX,show a++10::b=a++[10]++b by simp];exact hr
 have e3:Wo [63]=[63,10]:=hA
 have hn:=Afi (a++10::b) (by simp;omega)
 rw [hX] at C1
 rw [e2] at C2 hn
 rw [e3] at C3
 simp only [List.length_append] at hn
 clear hr hA hX e2 e3
 have hcat:=Kq
 have hcat2:∀ a:List UInt8,Value.string (⟨a.toArray⟩++⟨#[10]⟩)=sV (a++[10]):=fun a=>Kq a [10]
 have hlen1:a.length+1≤9223372036854775807:=by omega
 have hlen2:a.length+1+b.length≤9223372036854775807:=by omega
 have hle:decide ((X.length:Int)≤(X.length:Int)+(r.length:Int))=true:=decide_eq_true (by omega)
 have hle2:X.length≤X.length+r.length:=by omega
 have hcut:(ByteArray.mk (X++r).toArray).extract 0 X.length=ByteArray.mk X.toArray:=ByteArray.ext (by rw [ByteArray.data_extract];simp)
 go_enter Tryz.func4,Tryz.ntmps4
 go_upto_region 3 with(go_at_call 7;(with_reducible refine(C1.out _ (Below.refl _ _)).mono ?_);rintro e w1 ⟨rfl,hb1⟩)
 try go_simp
 go_upto_region 4 with(go_at_call 7;(with_reducible refine(C2.out _ hb1).mono ?_);rintro e w2 ⟨rfl,hb2⟩)
 try go_simp
 replace hb2:=hb1.trans (hb2.mono hb1.size)
 go_wp2_with(go_at_call 7;(with_reducible refine(C3.out _ hb2).mono ?_);rintro e w3 ⟨rfl,hb3⟩)
 go_ret
 exact⟨rfl,hb2.trans (hb3.mono hb2.size)⟩
end Go.Proofs.YtapgojgcmlnbgaaGreatDoor
namespace Go.Proofs.YtapgojgcmlnbgaaGreatDoor
open Go Go.Lib Go.RowKit
theorem iface_of_trod {H:Type} {enc:TypeId×Value→H} {P:Program} {w:World} {base:Nat} {sp:Nat→Bool} {t:TypeId} {ms:Array (String×TypeId)} (ht:P.underlying t=some (.interface ms)) {n:Nat} {cs:List Value} {x:DataW H×List MemPlace}
  (h:DataW.trod enc P w base sp false n t cs=some x):∃ E,cs=[E]∧(E = .nilIface∨∃ u v,E = .iface u v):=by
 cases n with
 |zero=>simp [DataW.trod] at h
 |succ n=>
  match cs,h with
  |[],h=>simp [DataW.trod,ht] at h
  |[E],h=>
   refine⟨E,rfl,?_⟩
   cases E with
   |nilIface=>exact Or.inl rfl
   |iface u v=>exact Or.inr ⟨u,v,rfl⟩
   |_=>simp [DataW.trod,ht] at h
  |_::_::_,h=>simp [DataW.trod,ht] at h
theorem var?_below {P:Program} {w w':World} {n:String} {cs:Array Value} (h:w.var? P n=some cs) (hb:Below w.heap.size w w'):w'.var? P n=some cs:=by
 unfold World.var? at h ⊢
 cases hg:P.globalNamed n with
 |none=>simp [hg] at h
 |some g=>
  simp only [hg,Option.bind_some] at h ⊢
  have hlt:g<w.heap.size:=by
   rcases Nat.lt_or_ge g w.heap.size with h' | h'
   ·exact h'
   ·simp [Array.getElem?_eq_none h'] at h
  rw [hb.block g hlt]
  exact h
theorem Ahm:(Rows.laid_internal_strconv_uint64pow10:DataW Unit)=tabData .u64 pow10Tab:=by kernel_rfl
theorem Alx : Tryz.prog.globalNamed "strconv.ErrSyntax" = some 3 := by kernel_rfl
theorem Alw : Tryz.prog.globalNamed "strconv.ErrRange" = some 4 := by kernel_rfl
theorem Alv : Tryz.prog.globalNamed "internal/strconv.uint64pow10" = some 5 := by kernel_rfl
theorem Alp:(Tryz.prog.globals[3]?).map (·.type)=some 119:=by kernel_rfl
theorem Alq:(Tryz.prog.globals[4]?).map (·.type)=some 119:=by kernel_rfl
theorem Y5 {W:World} {n:String} {g:Nat} {t:TypeId} {ms:Array (String×TypeId)} {d:DataW Unit} (hg:Tryz.prog.globalNamed n=some g) (hty:(Tryz.prog.globals[g]?).map (·.type)=some t) (ht:Tryz.prog.underlying t=some (.interface ms)) (h:VarReads Tryz.prog W n d) :
  ∃ ev,W.cell? ⟨g,0,none⟩=some ev∧(ev = .nilIface∨∃ te pe,ev = .iface te pe):=by
 obtain⟨g',t',cs,fuel,p,hg',ht',hv,hd⟩:=h
 obtain rfl:=Option.some.inj (hg.symm.trans hg')
 obtain rfl:=Option.some.inj (hty.symm.trans ht')
 obtain⟨E,hE,hE2⟩:=iface_of_trod ht hd
 refine⟨E,?_,hE2⟩
 have:=World.var?_cell hg hv 0
 rw [←Array.getElem?_toList,hE] at this
 exact this
theorem Xl {P:Program} {w:World} {g:Nat} {t:TypeId} {k:IntKind} {zero:Array Value} (h:w.ShapedOpen P) (hg:g<P.globals.size)
  (h0:((begin P (fun _ _=>0) default).world.heap[g]?).bind Obj.row? = some (zero,t)) (hz:zero.size=1) (hb:P.buildable t=true) (hc:P.cellTypes P.depth t=some [t]) (hu:P.underlying t=some (.int k)):∃ m,w.cell? ⟨g,0,none⟩=some (.int k m):=by
 obtain⟨cs,hh,hs,hr⟩:=h.1 g zero t hg h0
 obtain⟨ts,hts,_,hall⟩:=hr hb
 rw [hc] at hts
 cases hts
 have h1:0<cs.size:=by omega
 obtain⟨u,hu',hok⟩:=hall 0 cs[0] (by simp [h1])
 have:u=t:=by simpa using hu'.symm
 subst this
 have hcell:w.cell? ⟨g,0,none⟩=some cs[0]:=by simp [World.cell?,hh,h1]
 rw [hcell]
 unfold Cell.ok at hok
 rw [hu] at hok
 cases hv:cs[0] with
 |int k' m=>
  rw [hv] at hok
  obtain rfl:k'=k:=hok.1
  exact⟨_,rfl⟩
 |_=>rw [hv] at hok;simp at hok
theorem Ag8 {W:World} (h:W.ShapedOpen Tryz.prog):∃ m,W.cell? ⟨0,0,none⟩=some (.int .i64 m):=
 Xl (zero:=#[.int .i64 0]) (t:=3) h (of_decide_eq_true (by kernel_rfl)) (by kernel_rfl) rfl (by kernel_rfl) (by kernel_rfl) Tryz.underlying3
theorem Amd:(Tryz.prog.globals[5]?).map (·.type)=some 223:=by kernel_rfl
theorem Akg:Tryz.prog.cellsOf 117=1:=by kernel_rfl
theorem Alr:Tryz.prog.cellsOf 223=20:=by kernel_rfl
theorem Amc:((begin Tryz.prog (fun _ _=>0) default).world.heap[7]?).bind Obj.row? = some ((List.replicate 64 (Value.int .u8 0)).toArray,237):=by kernel_rfl
theorem Ajg {W : World} {l : List (String × DataW Unit)} (hL : laidMet Tryz.prog l W) (h1 : ("internal/strconv.uint64pow10", Rows.laid_internal_strconv_uint64pow10) ∈ l) (h2 : ("strconv.ErrRange", Rows.laid_strconv_ErrRange) ∈ l) (h3 : ("strconv.ErrSyntax", Rows.laid_strconv_ErrSyntax) ∈ l) (hS : W.ShapedOpen Tryz.prog) : F5 W.heap.size W := by
 have hsyn:=Y5 Alx Alp Tryz.underlying119 (Lib.laidMet.reads hL h3)
 have hrng:=Y5 Alw Alq Tryz.underlying119 (Lib.laidMet.reads hL h2)
 obtain⟨g',t',cs,fuel,p,hg',ht',hv,hd⟩:=Lib.laidMet.reads hL h1
 obtain rfl:=Option.some.inj (Alv.symm.trans hg')
 obtain rfl:=Option.some.inj (Amd.symm.trans ht')
 rw [Ahm] at hd
 have hcs:=cells_of_tab Tryz.underlying223 Tryz.underlying117 Akg Alr hd
 refine⟨fun w' hb=>?_,hsyn,hrng,Ag8 hS,?_⟩
 ·show w'.var? _ _=_
  rw [var?_below hv hb,←hcs]
 ·obtain⟨o,ho⟩:∃ o,W.heap[7]? = some o:=by
   obtain⟨cs,h,_⟩:=hS.1 7 _ _ (of_decide_eq_true (by kernel_rfl)) Amc
   exact⟨_,h⟩
  rcases Nat.lt_or_ge 7 W.heap.size with h | h
  ·exact h
  ·rw [Array.getElem?_eq_none h] at ho;cases ho
end Go.Proofs.YtapgojgcmlnbgaaGreatDoor
namespace Go.Proofs.YtapgojgcmlnbgaaGreatDoor
open Go
noncomputable def Ld (os:Os):World:=
 let w0:=World.doorLaid Tryz.prog 72 os
 { w0 with heap:=w0.heap.modify 1 fun
   |.cells _ t frozen => .cells (match (Rows.laid_unicode_utf8_first) with | .agg l=>(l.map fun | .lit (.int k z)=>Value.int k z | _ => .nilIface).toArray | _=>#[]) t frozen
   |o=>o }
set_option maxRecDepth 100000
theorem Agy (os:Os) (args:Array Value):laidMet Tryz.prog Rows.driveOnUptoRow.laid ((Ld os).forCall (fun _ _=>0) ⟨#[],args,[]⟩).memory:=
 laidMet_of_run' 8 (by kernel_rfl) (by kernel_rfl)
theorem Afa (os:Os) (args:Array Value):((Ld os).forCall (fun _ _=>0) ⟨#[],args,[]⟩).variablesRefB Tryz.prog=true:=by kernel_rfl
theorem Ae9 (os:Os) (args:Array Value):(((Ld os).forCall (fun _ _=>0) ⟨#[],args,[]⟩).heap.toList.drop Tryz.prog.globals.size).take ((begin Tryz.prog (fun _ _=>0) default).world.heap.size - Tryz.prog.globals.size) =
  (begin Tryz.prog (fun _ _=>0) default).world.heap.toList.drop Tryz.prog.globals.size:=by kernel_rfl
end Go.Proofs.YtapgojgcmlnbgaaGreatDoor
