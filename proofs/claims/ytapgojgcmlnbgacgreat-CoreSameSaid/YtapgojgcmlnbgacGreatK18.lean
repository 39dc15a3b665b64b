/- Parts of a proof. -/
import Derived.Test.YtapgojgcmlnbgacGreatK17
import Derived.Laws.AppendOwnNone
import Derived.Deep.AppendLies
import Derived.Test.YtapgojgcmlnbgacGreatK02
import Derived.LoopTactic
set_option linter.unusedSimpArgs false
set_option linter.unusedVariables false
set_option maxRecDepth 100000
set_option maxHeartbeats 16000000
namespace Go.Proofs.YtapgojgcmlnbgacGreat
open Go.RowKit
theorem Kz:(Tryz.prog.info? 5).map (fun i=>(i.zero,i.size,i.bytes))=some (some (.int .u8 0),1,1):=by kernel_rfl
theorem Nk (A:Option Addr) (cap:Nat) (m:List Int) (op p x:Int) (w:World) (h0:0≤p) (h1:p≤4294967295) (hl:m.length≤140737488351232) (hx0:0≤x) (hx1:x≤4294967295)
  (hA:Aq w w.heap.size .u8 A m) (hok:Ga m.length op p=true) :
  Calls Tryz.prog 26 #[.slice A m.length cap, .int .i64 op, .int .u32 p, .int .u32 x] w fun e w'=>∃ v,e = .returned (.tuple #[v, .bool true])∧Below w.heap.size w w' ∧
   w'.ownsRow w.heap.size 5 1 v m.length ((O4 m op p.toNat x).map (.int .u8)):=by
 obtain⟨n,rfl⟩:=Int.eq_ofNat_of_zero_le h0
 have hth:Bv m.length n (B1 op)=true:=by unfold Ga at hok;simp at hok;exact hok.2
 have ho:16≤op∧op≤18:=by unfold Ga at hok;simp at hok;exact hok.1
 clear hok
 have hin:(n:Int)+B1 op≤m.length:=by unfold Bv at hth;simp at hth;exact hth.2
 obtain⟨ho1,ho2⟩:=ho
 obtain rfl | rfl | rfl:op=16∨op=17∨op=18:=by omega
 ·
  have s:Ce 16 true=1:=rfl
  have s':B1 16=1:=rfl
  rw [s'] at hin hth
  have hn:(n:Int)+(1 - 1)≤4294967295:=by unfold Bv at hth;simp at hth;omega
  have hne:m≠[]:=by intro e;subst e;simp at hin;omega
  obtain⟨b0,o0,rfl,hbB,_⟩:=hA hne
  obtain⟨i0,hi,hz0,hz1,hz2⟩:=info_parts Kz
  have Hc:=Lib.hid (hA.cells _ rfl)
  have hown0:=World.ownsRow_lit (base:=w.heap.size) (e:=5) (size:=1) w #[] 0 (Nat.le_refl _) (by unfold maxLen;omega) rfl
  have hS:=Lib.hid s
  clear s s' hA
  go_enter Tryz.func26,Tryz.ntmps26
  go_wp2_with(first
   |(go_at_call 27;refine(Dn _ _ _).mono ?_;rintro e w1 ⟨rfl,rfl⟩;rw [hS.out])
   |(go_at_call 55;refine(D5 _ _ _ _ 1 _ (by omega) (by omega) (by omega) (by omega) (by omega)).mono ?_;rintro e w1 ⟨rfl,rfl⟩;rw [hth])
   |(at_builtin;refine wpList_append_own _ rfl (.tmp 21) (.tmp 22) 28 rfl w.heap.size 5 i0 _ 1 1 Tryz.underlying28 hi hz0 hz1 hz2 rfl (by decide) _ 0 [] rfl hown0 ⟨b0,o0,none⟩ m.length cap (m.map (.int .u8)) rfl (by simp) (fun j u hu=>(World.cell?_alloc_lt _ _ _ (World.block_lt_of_cell? _ _ (Hc.out j u hu))).trans (Hc.out j u hu)) (ints_oneCell _ _) (by unfold maxLen;omega) (by omega) (by simp) ?_;intro v1 w1 hown1 hg1 hat1))
  have hown2:w1.ownsRow w.heap.size 5 1 v1 m.length (m.map (.int .u8)):=by simpa using hown1
  have hb1:Below w.heap.size w w1:=((Below.refl _ _).alloc (Nat.le_refl _) _).grown hg1 (by simp) (fun k hk=>by cases hk;exact Nat.le_refl _)
  clear hown1 hg1 hat1
  obtain⟨g,c1,hv,hgb,hgl⟩:=hown2.form (by omega)
  rw [hv] at hown2 ⊢
  clear hv
  have hc:=fun j (hj:j<m.length)=>(hown2.cellAt j (by omega)).trans (show(m.map (Value.int .u8))[j]? = some (.int .u8 (m.getD j 0)) by simp [List.getD,hj])
  have hfz:=hown2.frozenAt
  have c0:=hc n (by omega)
  have d1:1>1→w1.cell? ⟨g,n+1,none⟩=some (.int .u8 (m.getD (n+1) 0)):=fun h=>hc (n+1) (by omega)
  have d2:1>2→w1.cell? ⟨g,n+2,none⟩=some (.int .u8 (m.getD (n+2) 0)):=fun h=>hc (n+2) (by omega)
  have d3:1>3→w1.cell? ⟨g,n+3,none⟩=some (.int .u8 (m.getD (n+3) 0)):=fun h=>hc (n+3) (by omega)
  have Hown:=Lib.hid hown2
  clear hc hown2
  generalize m.getD n 0=x0 at c0
  generalize m.getD (n+1) 0=x1 at d1
  generalize m.getD (n+2) 0=x2 at d2
  generalize m.getD (n+3) 0=x3 at d3
  refine wp_loop_rounds 2 ?_
  repeat any_goals (rw [rounds_succ];go_wp2)
  all_goals
   go_ret2
   have e1:=Hown.out.stored n (.int .u8 (x%256));exact⟨_,rfl,hb1.setCell hgb _,by simpa [O4,Nj,List.map_set] using e1.1⟩
 ·
  have s:Ce 17 true=2:=rfl
  have s':B1 17=2:=rfl
  rw [s'] at hin hth
  have hn:(n:Int)+(2 - 1)≤4294967295:=by unfold Bv at hth;simp at hth;omega
  have hne:m≠[]:=by intro e;subst e;simp at hin;omega
  obtain⟨b0,o0,rfl,hbB,_⟩:=hA hne
  obtain⟨i0,hi,hz0,hz1,hz2⟩:=info_parts Kz
  have Hc:=Lib.hid (hA.cells _ rfl)
  have hown0:=World.ownsRow_lit (base:=w.heap.size) (e:=5) (size:=1) w #[] 0 (Nat.le_refl _) (by unfold maxLen;omega) rfl
  have hS:=Lib.hid s
  clear s s' hA
  go_enter Tryz.func26,Tryz.ntmps26
  go_wp2_with(first
   |(go_at_call 27;refine(Dn _ _ _).mono ?_;rintro e w1 ⟨rfl,rfl⟩;rw [hS.out])
   |(go_at_call 55;refine(D5 _ _ _ _ 2 _ (by omega) (by omega) (by omega) (by omega) (by omega)).mono ?_;rintro e w1 ⟨rfl,rfl⟩;rw [hth])
   |(at_builtin;refine wpList_append_own _ rfl (.tmp 21) (.tmp 22) 28 rfl w.heap.size 5 i0 _ 1 1 Tryz.underlying28 hi hz0 hz1 hz2 rfl (by decide) _ 0 [] rfl hown0 ⟨b0,o0,none⟩ m.length cap (m.map (.int .u8)) rfl (by simp) (fun j u hu=>(World.cell?_alloc_lt _ _ _ (World.block_lt_of_cell? _ _ (Hc.out j u hu))).trans (Hc.out j u hu)) (ints_oneCell _ _) (by unfold maxLen;omega) (by omega) (by simp) ?_;intro v1 w1 hown1 hg1 hat1))
  have hown2:w1.ownsRow w.heap.size 5 1 v1 m.length (m.map (.int .u8)):=by simpa using hown1
  have hb1:Below w.heap.size w w1:=((Below.refl _ _).alloc (Nat.le_refl _) _).grown hg1 (by simp) (fun k hk=>by cases hk;exact Nat.le_refl _)
  clear hown1 hg1 hat1
  obtain⟨g,c1,hv,hgb,hgl⟩:=hown2.form (by omega)
  rw [hv] at hown2 ⊢
  clear hv
  have hc:=fun j (hj:j<m.length)=>(hown2.cellAt j (by omega)).trans (show(m.map (Value.int .u8))[j]? = some (.int .u8 (m.getD j 0)) by simp [List.getD,hj])
  have hfz:=hown2.frozenAt
  have c0:=hc n (by omega)
  have d1:2>1→w1.cell? ⟨g,n+1,none⟩=some (.int .u8 (m.getD (n+1) 0)):=fun h=>hc (n+1) (by omega)
  have d2:2>2→w1.cell? ⟨g,n+2,none⟩=some (.int .u8 (m.getD (n+2) 0)):=fun h=>hc (n+2) (by omega)
  have d3:2>3→w1.cell? ⟨g,n+3,none⟩=some (.int .u8 (m.getD (n+3) 0)):=fun h=>hc (n+3) (by omega)
  have Hown:=Lib.hid hown2
  clear hc hown2
  generalize m.getD n 0=x0 at c0
  generalize m.getD (n+1) 0=x1 at d1
  generalize m.getD (n+2) 0=x2 at d2
  generalize m.getD (n+3) 0=x3 at d3
  refine wp_loop_rounds 3 ?_
  repeat any_goals (rw [rounds_succ];go_wp2)
  all_goals
   go_ret2
   have e1:=Hown.out.stored n (.int .u8 (x%256));have e2:=e1.1.stored (n+1) (.int .u8 (x / 256%256));exact⟨_,rfl,(hb1.setCell hgb _).setCell hgb _,by simpa [O4,Qh,Nj,List.map_set] using e2.1⟩
 ·
  have s:Ce 18 true=4:=rfl
  have s':B1 18=4:=rfl
  rw [s'] at hin hth
  have hn:(n:Int)+(4 - 1)≤4294967295:=by unfold Bv at hth;simp at hth;omega
  have hne:m≠[]:=by intro e;subst e;simp at hin;omega
  obtain⟨b0,o0,rfl,hbB,_⟩:=hA hne
  obtain⟨i0,hi,hz0,hz1,hz2⟩:=info_parts Kz
  have Hc:=Lib.hid (hA.cells _ rfl)
  have hown0:=World.ownsRow_lit (base:=w.heap.size) (e:=5) (size:=1) w #[] 0 (Nat.le_refl _) (by unfold maxLen;omega) rfl
  have hS:=Lib.hid s
  clear s s' hA
  go_enter Tryz.func26,Tryz.ntmps26
  go_wp2_with(first
   |(go_at_call 27;refine(Dn _ _ _).mono ?_;rintro e w1 ⟨rfl,rfl⟩;rw [hS.out])
   |(go_at_call 55;refine(D5 _ _ _ _ 4 _ (by omega) (by omega) (by omega) (by omega) (by omega)).mono ?_;rintro e w1 ⟨rfl,rfl⟩;rw [hth])
   |(at_builtin;refine wpList_append_own _ rfl (.tmp 21) (.tmp 22) 28 rfl w.heap.size 5 i0 _ 1 1 Tryz.underlying28 hi hz0 hz1 hz2 rfl (by decide) _ 0 [] rfl hown0 ⟨b0,o0,none⟩ m.length cap (m.map (.int .u8)) rfl (by simp) (fun j u hu=>(World.cell?_alloc_lt _ _ _ (World.block_lt_of_cell? _ _ (Hc.out j u hu))).trans (Hc.out j u hu)) (ints_oneCell _ _) (by unfold maxLen;omega) (by omega) (by simp) ?_;intro v1 w1 hown1 hg1 hat1))
  have hown2:w1.ownsRow w.heap.size 5 1 v1 m.length (m.map (.int .u8)):=by simpa using hown1
  have hb1:Below w.heap.size w w1:=((Below.refl _ _).alloc (Nat.le_refl _) _).grown hg1 (by simp) (fun k hk=>by cases hk;exact Nat.le_refl _)
  clear hown1 hg1 hat1
  obtain⟨g,c1,hv,hgb,hgl⟩:=hown2.form (by omega)
  rw [hv] at hown2 ⊢
  clear hv
  have hc:=fun j (hj:j<m.length)=>(hown2.cellAt j (by omega)).trans (show(m.map (Value.int .u8))[j]? = some (.int .u8 (m.getD j 0)) by simp [List.getD,hj])
  have hfz:=hown2.frozenAt
  have c0:=hc n (by omega)
  have d1:4>1→w1.cell? ⟨g,n+1,none⟩=some (.int .u8 (m.getD (n+1) 0)):=fun h=>hc (n+1) (by omega)
  have d2:4>2→w1.cell? ⟨g,n+2,none⟩=some (.int .u8 (m.getD (n+2) 0)):=fun h=>hc (n+2) (by omega)
  have d3:4>3→w1.cell? ⟨g,n+3,none⟩=some (.int .u8 (m.getD (n+3) 0)):=fun h=>hc (n+3) (by omega)
  have Hown:=Lib.hid hown2
  clear hc hown2
  generalize m.getD n 0=x0 at c0
  generalize m.getD (n+1) 0=x1 at d1
  generalize m.getD (n+2) 0=x2 at d2
  generalize m.getD (n+3) 0=x3 at d3
  refine wp_loop_rounds 5 ?_
  repeat any_goals (rw [rounds_succ];go_wp2)
  all_goals
   go_ret2
   have e1:=Hown.out.stored n (.int .u8 (x%256));have e2:=e1.1.stored (n+1) (.int .u8 (x / 256%256));have e3:=e2.1.stored (n+2) (.int .u8 (x / 256 / 256%256));have e4:=e3.1.stored (n+3) (.int .u8 (x / 256 / 256 / 256%256));have ex:x / 16777216%256=x / 256 / 256 / 256%256:=(by omega);have ey:x / 65536%256=x / 256 / 256%256:=(by omega);exact⟨_,rfl,(((hb1.setCell hgb _).setCell hgb _).setCell hgb _).setCell hgb _,by unfold O4;simp only [show ¬((18:Int)=16) by omega,show ¬((18:Int)=17) by omega,if_false];unfold Xe;rw [ex,ey];simpa [Qh,Nj,List.map_set] using e4.1⟩
theorem Mf (A:Option Addr) (len cap:Nat) (op p x:Int) (w:World) (h0:0≤p) (h1:p≤4294967295) (hl:len≤140737488351232) (hok:Ga len op p=false) :
  Calls Tryz.prog 26 #[.slice A len cap, .int .i64 op, .int .u32 p, .int .u32 x] w fun e w'=>e = .returned (.tuple #[.slice none 0 0, .bool false])∧w=w':=by
 have hth:Bv len p (Ce op true)=false:=by
  by_cases h:16≤op∧op≤18
  ·have hs:Ce op true=B1 op:=by
    unfold Ce B1
    simp only [if_true]
    (repeat' split)<;>first | rfl | omega
   rw [hs]
   unfold Ga at hok
   simpa [h.1,h.2] using hok
  ·have:Ce op true=0:=by
    unfold Ce
    simp only [if_true]
    (repeat' split)<;>omega
   rw [this]
   rfl
 have s0:0≤Ce op true:=by unfold Ce;(repeat' split)<;>omega
 have s1:Ce op true≤4:=by unfold Ce;(repeat' split)<;>omega
 obtain⟨sz,hsz⟩:∃ z,Ce op true=z:=⟨_,rfl⟩
 rw [hsz] at hth s0 s1
 have Hsz:=Lib.hid hsz
 clear hsz hok
 go_enter Tryz.func26,Tryz.ntmps26
 go_wp2_with(first
  |(go_at_call 27;refine(Dn _ _ _).mono ?_;rintro e w1 ⟨rfl,rfl⟩;rw [Hsz.out])
  |(go_at_call 55;refine(D5 _ _ _ _ sz _ (by omega) (by omega) (by omega) (by omega) (by omega)).mono ?_;rintro e w1 ⟨rfl,rfl⟩;rw [hth]))
 go_ret2
 exact⟨rfl,rfl⟩
theorem Bp (x:Int) (K:Int) (w:World) (h0:0≤x) (h1:x≤61) (hK:((2 ^ x.toNat:Nat):Int)=K) :
  Calls Tryz.prog 28 #[.int .i64 x] w fun e w'=>e = .returned (.int .i64 K)∧w=w':=by
 subst hK
 obtain⟨k,rfl⟩:=Int.eq_ofNat_of_zero_le h0
 exact H4 k w (by omega)
abbrev RcutT (a b:Int) (f t:Nat):Prop:=∀ (x:Int) (w:World),0≤x→x≤4294967295→Calls Tryz.prog 57 #[.int .u32 x, .int .i64 a, .int .i64 b] w fun e w'=>e = .returned (.int .i64 (Ap x f t))∧w=w'
theorem J6 (a b k:Int) (f t:Nat) (D M:Int) (HX:Hid (∀ x,Ap x f t=x / D%M)) (H1:Hid (∀ W,Calls Tryz.prog 28 #[.int .i64 a] W fun e w'=>e = .returned (.int .i64 D)∧W=w')) (H2:Hid (∀ W,Calls Tryz.prog 28 #[.int .i64 k] W fun e w'=>e = .returned (.int .i64 M)∧W=w'))
  (H:(∀ x,Hid (Ap x f t=x / D%M))→Hid (∀ W,Calls Tryz.prog 28 #[.int .i64 a] W fun e w'=>e = .returned (.int .i64 D)∧W=w')→Hid (∀ W,Calls Tryz.prog 28 #[.int .i64 k] W fun e w'=>e = .returned (.int .i64 M)∧W=w')→RcutT a b f t:=by
    intro HX H1 H2 x w h0 h1
    replace HX:=HX x
    go_enter Tryz.func57,Tryz.ntmps57
    go_wp2_with(first
     |(go_at_call 28;(with_reducible refine(H1.out _).mono ?_);rintro e w1 ⟨rfl,rfl⟩)
     |(go_at_call 28;(with_reducible refine(H2.out _).mono ?_);rintro e w1 ⟨rfl,rfl⟩))
    go_ret
    refine⟨?_,rfl⟩
    rw [HX.out]
    refine Ca ?_
    first | rfl | omega):RcutT a b f t:=H (fun x=>Lib.hid (HX.out x)) H1 H2
theorem D9:RcutT 0 6 0 6:=J6 0 6 7 0 6 1 128 (Lib.hid fun x=>De x _ _ _ _ (by decide) (by decide)) (Lib.hid fun W=>Bp 0 1 W (by decide) (by decide) (by decide)) (Lib.hid fun W=>Bp 7 128 W (by decide) (by decide) (by decide))
theorem Cy:RcutT 12 14 12 14:=J6 12 14 3 12 14 4096 8 (Lib.hid fun x=>De x _ _ _ _ (by decide) (by decide)) (Lib.hid fun W=>Bp 12 4096 W (by decide) (by decide) (by decide)) (Lib.hid fun W=>Bp 3 8 W (by decide) (by decide) (by decide))
theorem Cw:RcutT 25 31 25 31:=J6 25 31 7 25 31 33554432 128 (Lib.hid fun x=>De x _ _ _ _ (by decide) (by decide)) (Lib.hid fun W=>Bp 25 33554432 W (by decide) (by decide) (by decide)) (Lib.hid fun W=>Bp 7 128 W (by decide) (by decide) (by decide))
theorem I0:RcutT 7 11 7 11:=J6 7 11 5 7 11 128 32 (Lib.hid fun x=>De x _ _ _ _ (by decide) (by decide)) (Lib.hid fun W=>Bp 7 128 W (by decide) (by decide) (by decide)) (Lib.hid fun W=>Bp 5 32 W (by decide) (by decide) (by decide))
theorem Ha:RcutT 15 19 15 19:=J6 15 19 5 15 19 32768 32 (Lib.hid fun x=>De x _ _ _ _ (by decide) (by decide)) (Lib.hid fun W=>Bp 15 32768 W (by decide) (by decide) (by decide)) (Lib.hid fun W=>Bp 5 32 W (by decide) (by decide) (by decide))
theorem Hh:RcutT 20 24 20 24:=J6 20 24 5 20 24 1048576 32 (Lib.hid fun x=>De x _ _ _ _ (by decide) (by decide)) (Lib.hid fun W=>Bp 20 1048576 W (by decide) (by decide) (by decide)) (Lib.hid fun W=>Bp 5 32 W (by decide) (by decide) (by decide))
theorem Hj:RcutT 31 31 31 31:=J6 31 31 1 31 31 2147483648 2 (Lib.hid fun x=>De x _ _ _ _ (by decide) (by decide)) (Lib.hid fun W=>Bp 31 2147483648 W (by decide) (by decide) (by decide)) (Lib.hid fun W=>Bp 1 2 W (by decide) (by decide) (by decide))
theorem Abp:RcutT 12 19 12 19:=J6 12 19 8 12 19 4096 256 (Lib.hid fun x=>De x _ _ _ _ (by decide) (by decide)) (Lib.hid fun W=>Bp 12 4096 W (by decide) (by decide) (by decide)) (Lib.hid fun W=>Bp 8 256 W (by decide) (by decide) (by decide))
theorem Abq:RcutT 20 20 20 20:=J6 20 20 1 20 20 1048576 2 (Lib.hid fun x=>De x _ _ _ _ (by decide) (by decide)) (Lib.hid fun W=>Bp 20 1048576 W (by decide) (by decide) (by decide)) (Lib.hid fun W=>Bp 1 2 W (by decide) (by decide) (by decide))
theorem Abs:RcutT 21 30 21 30:=J6 21 30 10 21 30 2097152 1024 (Lib.hid fun x=>De x _ _ _ _ (by decide) (by decide)) (Lib.hid fun W=>Bp 21 2097152 W (by decide) (by decide) (by decide)) (Lib.hid fun W=>Bp 10 1024 W (by decide) (by decide) (by decide))
theorem Abr:RcutT 20 31 20 31:=J6 20 31 12 20 31 1048576 4096 (Lib.hid fun x=>De x _ _ _ _ (by decide) (by decide)) (Lib.hid fun W=>Bp 20 1048576 W (by decide) (by decide) (by decide)) (Lib.hid fun W=>Bp 12 4096 W (by decide) (by decide) (by decide))
theorem Ag0:RcutT 7 7 7 7:=J6 7 7 1 7 7 128 2 (Lib.hid fun x=>De x _ _ _ _ (by decide) (by decide)) (Lib.hid fun W=>Bp 7 128 W (by decide) (by decide) (by decide)) (Lib.hid fun W=>Bp 1 2 W (by decide) (by decide) (by decide))
theorem Abt:RcutT 25 30 25 30:=J6 25 30 6 25 30 33554432 64 (Lib.hid fun x=>De x _ _ _ _ (by decide) (by decide)) (Lib.hid fun W=>Bp 25 33554432 W (by decide) (by decide) (by decide)) (Lib.hid fun W=>Bp 6 64 W (by decide) (by decide) (by decide))
theorem Ae0:RcutT 8 11 8 11:=J6 8 11 4 8 11 256 16 (Lib.hid fun x=>De x _ _ _ _ (by decide) (by decide)) (Lib.hid fun W=>Bp 8 256 W (by decide) (by decide) (by decide)) (Lib.hid fun W=>Bp 4 16 W (by decide) (by decide) (by decide))
theorem Aez:RcutT 0 11 0 11:=J6 0 11 12 0 11 1 4096 (Lib.hid fun x=>De x _ _ _ _ (by decide) (by decide)) (Lib.hid fun W=>Bp 0 1 W (by decide) (by decide) (by decide)) (Lib.hid fun W=>Bp 12 4096 W (by decide) (by decide) (by decide))
theorem Abx (x:Int) (w:World) (h0:0≤x) (h1:x<2097152) :
  Calls Tryz.prog 59 #[.int .i64 x, .int .i64 21] w fun e w'=>e = .returned (.int .i32 (Fx x 21))∧w=w':=by
 have HX:=Lib.hid (show Fx x 21=if x<1048576 then x else x - 2097152 by unfold Fx;rw [show(2:Int) ^ (21 - 1)=1048576 by decide,show(2:Int) ^ 21=2097152 by decide])
 go_enter Tryz.func59,Tryz.ntmps59
 go_wp2_with(go_at_call 28;(with_reducible refine(Bp 20 1048576 _ (by decide) (by decide) (by decide)).mono ?_);rintro e w1 ⟨rfl,rfl⟩)
 all_goals
  go_ret
  refine⟨Ca ?_,rfl⟩
  rw [HX.out]
  split<;>first | rfl | omega | (unfold wrap32;omega)
theorem Abw (x:Int) (w:World) (h0:0≤x) (h1:x<8192) :
  Calls Tryz.prog 59 #[.int .i64 x, .int .i64 13] w fun e w'=>e = .returned (.int .i32 (Fx x 13))∧w=w':=by
 have HX:=Lib.hid (show Fx x 13=if x<4096 then x else x - 8192 by unfold Fx;rw [show(2:Int) ^ (13 - 1)=4096 by decide,show(2:Int) ^ 13=8192 by decide])
 go_enter Tryz.func59,Tryz.ntmps59
 go_wp2_with(go_at_call 28;(with_reducible refine(Bp 12 4096 _ (by decide) (by decide) (by decide)).mono ?_);rintro e w1 ⟨rfl,rfl⟩)
 all_goals
  go_ret
  refine⟨Ca ?_,rfl⟩
  rw [HX.out]
  split<;>first | rfl | omega | (unfold wrap32;omega)
theorem Uh (x:Int) (w:World) (h0:0≤x) (h1:x<4096) :
  Calls Tryz.prog 59 #[.int .i64 x, .int .i64 12] w fun e w'=>e = .returned (.int .i32 (Fx x 12))∧w=w':=by
 have HX:=Lib.hid (show Fx x 12=if x<2048 then x else x - 4096 by unfold Fx;rw [show(2:Int) ^ (12 - 1)=2048 by decide,show(2:Int) ^ 12=4096 by decide])
 go_enter Tryz.func59,Tryz.ntmps59
 go_wp2_with(go_at_call 28;(with_reducible refine(Bp 11 2048 _ (by decide) (by decide) (by decide)).mono ?_);rintro e w1 ⟨rfl,rfl⟩)
 all_goals
  go_ret
  refine⟨Ca ?_,rfl⟩
  rw [HX.out]
  split<;>first | rfl | omega | (unfold wrap32;omega)
theorem Abm (n:Int) (l:List (Int×Int)) (k:Nat) (hk:k<l.length):Ew n (l.drop k)=if (l.getD k (0,0)).1=n then (l.getD k (0,0)).2 else Ew n (l.drop (k+1)):=by
 rw [List.drop_eq_getElem_cons hk]
 have:l.getD k (0,0)=l[k]:=by simp [List.getD,List.getElem?_eq_getElem hk]
 rw [this]
 rfl
theorem Agu (n:Int) (l:List (Int×Int)) (len:Nat) (g g2:Nat) (w:World) (hl:l.length=len) (hll:len≤100) (hg:∀ k:Nat,k<len→w.cell? ⟨g,k,none⟩=some (.int .i64 (l.getD k (0,0)).1)) (hg2:∀ k:Nat,k<len→w.cell? ⟨g2,k,none⟩=some (.int .i64 (l.getD k (0,0)).2)) :
  Calls Tryz.prog 93 #[.int .i64 n, .slice (some ⟨g,0,none⟩) len len, .slice (some ⟨g2,0,none⟩) len len] w fun e w'=>e = .returned (.int .i64 (Ew n l))∧w=w':=by
 generalize hX:Ew n l=X
 have HX:Hid (Ew n (l.drop 0)=X):=Lib.hid hX
 have Hl:=Lib.hid hl
 have Hg:=Lib.hid hg
 have Hg2:=Lib.hid hg2
 clear hX hl hg hg2
 go_enter Tryz.func93,Tryz.ntmps93
 go_wp2_with(fail)
 go_loop [7] (fun v=>∃ k:Nat,v = .int .i64 k∧k≤len∧Hid (Ew n (l.drop k)=X)) (fun v=>len+1 - (intOf v).toNat)
 case atStart=>exact⟨0,rfl,by omega,HX⟩
 case round=>
  obtain⟨k,rfl,hk,HR⟩:=hrel
  by_cases hlt:k<len
  ·have hs:=Abm n l k (by rw [Hl.out];exact hlt)
   have c1:=Hg.out k hlt
   have c2:=Hg2.out k hlt
   generalize l.getD k (0,0)=p at hs c1 c2
   obtain⟨a,b⟩:=p
   dsimp only at hs c1 c2
   by_cases he:a=n
   ·have HR2:b=X:=by have h:=HR.out;rw [hs,if_pos he] at h;exact h
    have Hb:=Lib.hid HR2
    have e1:(a==n)=true:=by simp [he]
    clear HR hs HR2 he
    go_wp2_with(fail)
    go_ret
    exact⟨Ca Hb.out,rfl⟩
   ·have HR2:Hid (Ew n (l.drop (k+1))=X):=by have h:=HR.out;rw [hs,if_neg he] at h;exact Lib.hid h
    have e1:(a==n)=false:=by simp [he]
    clear HR hs he c2
    go_wp2_with(fail)
    go_round
    case rel=>exact⟨k+1,by go_num,by omega,HR2⟩
    case measure=>simp [intOf];omega
  ·obtain rfl:k=len:=by omega
   have HR2 : -1=X:=by have h:=HR.out;rw [List.drop_of_length_le (by rw [Hl.out];omega)] at h;exact h
   have Hb:=Lib.hid HR2
   clear HR HR2
   go_wp2_with(fail)
   go_ret
   exact⟨Ca Hb.out,rfl⟩
def W7 (f:Int):Int:=if f=0 then 85 else if f=1 then 74 else if f=2 then 73 else if f=3 then 72 else if f=4 then 66 else if f=5 then 83 else if f=6 then 82 else 69
theorem D8 (n:Int) (l:List (Int×Int)) (len:Nat) (g g2:Nat) (t t2:TypeId) (w:World) (hl:l.length=len) (hll:len≤100) (hg:Blk w g t (l.map fun p=>Value.int .i64 p.1).toArray) (hg2:Blk w g2 t2 (l.map fun p=>Value.int .i64 p.2).toArray) :
  Calls Tryz.prog 93 #[.int .i64 n, .slice (some ⟨g,0,none⟩) len len, .slice (some ⟨g2,0,none⟩) len len] w fun e w'=>e = .returned (.int .i64 (Ew n l))∧w=w':=
 Agu n l len g g2 w hl hll (fun k hk=>by rw [hg.cell];simp [List.getD,show k<l.length by omega]) (fun k hk=>by rw [hg2.cell];simp [List.getD,show k<l.length by omega])
theorem Af7 (x:Int) (w:World) (h0:0≤x) (h1:x≤4294967295) :
  Calls Tryz.prog 56 #[.int .u32 x] w fun e w'=>e = .returned (.tuple #[.int .i64 (Fp (Ap x 0 6) (Ap x 12 14) (Ap x 25 31) x).1, .int .u8 (W7 (Fp (Ap x 0 6) (Ap x 12 14) (Ap x 25 31) x).2)])∧Below w.heap.size w w':=by
 obtain⟨u0,u1⟩:=Av x 25 31 128 (by decide)
 obtain⟨m0,m1⟩:=Av x 12 14 8 (by decide)
 generalize hl:Ap x 0 6=low
 generalize hm:Ap x 12 14=mid at m0 m1 ⊢
 generalize hu:Ap x 25 31=up at u0 u1 ⊢
 have Hl:=Lib.hid hl
 have Hm:=Lib.hid hm
 have Hu:=Lib.hid hu
 clear hl hm hu
 by_cases h:low=55
 ·subst h
  go_enter Tryz.func56,Tryz.ntmps56
  go_wp2_with(first
   |(go_at_call 57;(with_reducible refine(D9 x _ h0 h1).mono ?_);rintro e w1 ⟨rfl,rfl⟩;rw [Hl.out])
   |(go_at_call 57;(with_reducible refine(Cy x _ h0 h1).mono ?_);rintro e w1 ⟨rfl,rfl⟩;rw [Hm.out])
   |(go_at_call 57;(with_reducible refine(Cw x _ h0 h1).mono ?_);rintro e w1 ⟨rfl,rfl⟩;rw [Hu.out])
   |(go_at_call 93;refine(D8 (0) [] 0 w.heap.size (w.heap.size+1) 2 3 _ rfl (by decide) ((Blk.new w _ _).alloc _) (Blk.newAt _ _ _ (by simp))).mono ?_;rintro e w1 ⟨rfl,rfl⟩))
  go_ret2
  refine⟨?_,Below.refl _ _⟩
  skip
  rfl
 by_cases h:low=23
 ·subst h
  go_enter Tryz.func56,Tryz.ntmps56
  go_wp2_with(first
   |(go_at_call 57;(with_reducible refine(D9 x _ h0 h1).mono ?_);rintro e w1 ⟨rfl,rfl⟩;rw [Hl.out])
   |(go_at_call 57;(with_reducible refine(Cy x _ h0 h1).mono ?_);rintro e w1 ⟨rfl,rfl⟩;rw [Hm.out])
   |(go_at_call 57;(with_reducible refine(Cw x _ h0 h1).mono ?_);rintro e w1 ⟨rfl,rfl⟩;rw [Hu.out])
   |(go_at_call 93;refine(D8 (0) [] 0 w.heap.size (w.heap.size+1) 2 3 _ rfl (by decide) ((Blk.new w _ _).alloc _) (Blk.newAt _ _ _ (by simp))).mono ?_;rintro e w1 ⟨rfl,rfl⟩))
  go_ret2
  refine⟨?_,Below.refl _ _⟩
  skip
  rfl
 by_cases h:low=111
 ·subst h
  go_enter Tryz.func56,Tryz.ntmps56
  go_wp2_with(first
   |(go_at_call 57;(with_reducible refine(D9 x _ h0 h1).mono ?_);rintro e w1 ⟨rfl,rfl⟩;rw [Hl.out])
   |(go_at_call 57;(with_reducible refine(Cy x _ h0 h1).mono ?_);rintro e w1 ⟨rfl,rfl⟩;rw [Hm.out])
   |(go_at_call 57;(with_reducible refine(Cw x _ h0 h1).mono ?_);rintro e w1 ⟨rfl,rfl⟩;rw [Hu.out])
   |(go_at_call 93;refine(D8 (0) [] 0 w.heap.size (w.heap.size+1) 2 3 _ rfl (by decide) ((Blk.new w _ _).alloc _) (Blk.newAt _ _ _ (by simp))).mono ?_;rintro e w1 ⟨rfl,rfl⟩))
  go_ret2
  refine⟨?_,Below.refl _ _⟩
  skip
  rfl
 by_cases h:low=103
 ·subst h
  go_enter Tryz.func56,Tryz.ntmps56
  go_wp2_with(first
   |(go_at_call 57;(with_reducible refine(D9 x _ h0 h1).mono ?_);rintro e w1 ⟨rfl,rfl⟩;rw [Hl.out])
   |(go_at_call 57;(with_reducible refine(Cy x _ h0 h1).mono ?_);rintro e w1 ⟨rfl,rfl⟩;rw [Hm.out])
   |(go_at_call 57;(with_reducible refine(Cw x _ h0 h1).mono ?_);rintro e w1 ⟨rfl,rfl⟩;rw [Hu.out])
   |(go_at_call 93;refine(D8 (mid) [(0,4)] 1 w.heap.size (w.heap.size+1) 2 3 _ rfl (by decide) ((Blk.new w _ _).alloc _) (Blk.newAt _ _ _ (by simp))).mono ?_;rintro e w1 ⟨rfl,rfl⟩))
  go_ret2
  refine⟨?_,((Below.refl _ _).alloc (Nat.le_refl _) _).alloc (by simp) _⟩
  skip
  rfl
 by_cases h:low=99
 ·subst h
  go_enter Tryz.func56,Tryz.ntmps56
  go_wp2_with(first
   |(go_at_call 57;(with_reducible refine(D9 x _ h0 h1).mono ?_);rintro e w1 ⟨rfl,rfl⟩;rw [Hl.out])
   |(go_at_call 57;(with_reducible refine(Cy x _ h0 h1).mono ?_);rintro e w1 ⟨rfl,rfl⟩;rw [Hm.out])
   |(go_at_call 57;(with_reducible refine(Cw x _ h0 h1).mono ?_);rintro e w1 ⟨rfl,rfl⟩;rw [Hu.out])
   |(go_at_call 93;refine(D8 (mid) [(0,5),(1,6),(4,7),(5,8),(6,9),(7,10)] 6 w.heap.size (w.heap.size+1) 2 3 _ rfl (by decide) ((Blk.new w _ _).alloc _) (Blk.newAt _ _ _ (by simp))).mono ?_;rintro e w1 ⟨rfl,rfl⟩))
  go_ret2
  refine⟨?_,((Below.refl _ _).alloc (Nat.le_refl _) _).alloc (by simp) _⟩
  skip
  rfl
 by_cases h:low=3
 ·subst h
  go_enter Tryz.func56,Tryz.ntmps56
  go_wp2_with(first
   |(go_at_call 57;(with_reducible refine(D9 x _ h0 h1).mono ?_);rintro e w1 ⟨rfl,rfl⟩;rw [Hl.out])
   |(go_at_call 57;(with_reducible refine(Cy x _ h0 h1).mono ?_);rintro e w1 ⟨rfl,rfl⟩;rw [Hm.out])
   |(go_at_call 57;(with_reducible refine(Cw x _ h0 h1).mono ?_);rintro e w1 ⟨rfl,rfl⟩;rw [Hu.out])
   |(go_at_call 93;refine(D8 (mid) [(0,11),(1,12),(2,13),(4,14),(5,15)] 5 w.heap.size (w.heap.size+1) 2 3 _ rfl (by decide) ((Blk.new w _ _).alloc _) (Blk.newAt _ _ _ (by simp))).mono ?_;rintro e w1 ⟨rfl,rfl⟩))
  go_ret2
  refine⟨?_,((Below.refl _ _).alloc (Nat.le_refl _) _).alloc (by simp) _⟩
  skip
  rfl
 by_cases h:low=35
 ·subst h
  go_enter Tryz.func56,Tryz.ntmps56
  go_wp2_with(first
   |(go_at_call 57;(with_reducible refine(D9 x _ h0 h1).mono ?_);rintro e w1 ⟨rfl,rfl⟩;rw [Hl.out])
   |(go_at_call 57;(with_reducible refine(Cy x _ h0 h1).mono ?_);rintro e w1 ⟨rfl,rfl⟩;rw [Hm.out])
   |(go_at_call 57;(with_reducible refine(Cw x _ h0 h1).mono ?_);rintro e w1 ⟨rfl,rfl⟩;rw [Hu.out])
   |(go_at_call 93;refine(D8 (mid) [(0,16),(1,17),(2,18)] 3 w.heap.size (w.heap.size+1) 2 3 _ rfl (by decide) ((Blk.new w _ _).alloc _) (Blk.newAt _ _ _ (by simp))).mono ?_;rintro e w1 ⟨rfl,rfl⟩))
  go_ret2
  refine⟨?_,((Below.refl _ _).alloc (Nat.le_refl _) _).alloc (by simp) _⟩
  skip
  rfl
 by_cases h:low=15
 ·subst h
  go_enter Tryz.func56,Tryz.ntmps56
  go_wp2_with(first
   |(go_at_call 57;(with_reducible refine(D9 x _ h0 h1).mono ?_);rintro e w1 ⟨rfl,rfl⟩;rw [Hl.out])
   |(go_at_call 57;(with_reducible refine(Cy x _ h0 h1).mono ?_);rintro e w1 ⟨rfl,rfl⟩;rw [Hm.out])
   |(go_at_call 57;(with_reducible refine(Cw x _ h0 h1).mono ?_);rintro e w1 ⟨rfl,rfl⟩;rw [Hu.out])
   |(go_at_call 93;refine(D8 (mid) [(0,46)] 1 w.heap.size (w.heap.size+1) 2 3 _ rfl (by decide) ((Blk.new w _ _).alloc _) (Blk.newAt _ _ _ (by simp))).mono ?_;rintro e w1 ⟨rfl,rfl⟩))
  go_ret2
  refine⟨?_,((Below.refl _ _).alloc (Nat.le_refl _) _).alloc (by simp) _⟩
  skip
  rfl
 by_cases h:low=115
 ·subst h
  go_enter Tryz.func56,Tryz.ntmps56
  go_wp2_with(first
   |(go_at_call 57;(with_reducible refine(D9 x _ h0 h1).mono ?_);rintro e w1 ⟨rfl,rfl⟩;rw [Hl.out])
   |(go_at_call 57;(with_reducible refine(Cy x _ h0 h1).mono ?_);rintro e w1 ⟨rfl,rfl⟩;rw [Hm.out])
   |(go_at_call 57;(with_reducible refine(Cw x _ h0 h1).mono ?_);rintro e w1 ⟨rfl,rfl⟩;rw [Hu.out])
   |(go_at_call 93;refine(D8 (x) [(115,47),(1048691,48)] 2 w.heap.size (w.heap.size+1) 2 3 _ rfl (by decide) ((Blk.new w _ _).alloc _) (Blk.newAt _ _ _ (by simp))).mono ?_;rintro e w1 ⟨rfl,rfl⟩))
  go_ret2
  refine⟨?_,((Below.refl _ _).alloc (Nat.le_refl _) _).alloc (by simp) _⟩
  skip
  rfl
 by_cases h:low=19
 ·subst h
  by_cases hm1:mid=1
  ·subst hm1
   go_enter Tryz.func56,Tryz.ntmps56
   go_wp2_with(first
    |(go_at_call 57;(with_reducible refine(D9 x _ h0 h1).mono ?_);rintro e w1 ⟨rfl,rfl⟩;rw [Hl.out])
    |(go_at_call 57;(with_reducible refine(Cy x _ h0 h1).mono ?_);rintro e w1 ⟨rfl,rfl⟩;rw [Hm.out])
    |(go_at_call 57;(with_reducible refine(Cw x _ h0 h1).mono ?_);rintro e w1 ⟨rfl,rfl⟩;rw [Hu.out])
    |(go_at_call 93;refine(D8 (8*up+1) [(1,25),(5,26),(261,27)] 3 w.heap.size (w.heap.size+1) 2 3 _ rfl (by decide) ((Blk.new w _ _).alloc _) (Blk.newAt _ _ _ (by simp))).mono ?_;rintro e w1 ⟨rfl,rfl⟩))
   go_ret2
   refine⟨?_,((Below.refl _ _).alloc (Nat.le_refl _) _).alloc (by simp) _⟩
   skip
   rfl
  by_cases hm5:mid=5
  ·subst hm5
   go_enter Tryz.func56,Tryz.ntmps56
   go_wp2_with(first
    |(go_at_call 57;(with_reducible refine(D9 x _ h0 h1).mono ?_);rintro e w1 ⟨rfl,rfl⟩;rw [Hl.out])
    |(go_at_call 57;(with_reducible refine(Cy x _ h0 h1).mono ?_);rintro e w1 ⟨rfl,rfl⟩;rw [Hm.out])
    |(go_at_call 57;(with_reducible refine(Cw x _ h0 h1).mono ?_);rintro e w1 ⟨rfl,rfl⟩;rw [Hu.out])
    |(go_at_call 93;refine(D8 (8*up+5) [(1,25),(5,26),(261,27)] 3 w.heap.size (w.heap.size+1) 2 3 _ rfl (by decide) ((Blk.new w _ _).alloc _) (Blk.newAt _ _ _ (by simp))).mono ?_;rintro e w1 ⟨rfl,rfl⟩))
   go_ret2
   refine⟨?_,((Below.refl _ _).alloc (Nat.le_refl _) _).alloc (by simp) _⟩
   skip
   rfl
  have e1:(mid==1)=false:=by simp [hm1]
  have e5:(mid==5)=false:=by simp [hm5]
  have Hmm:=Lib.hid (show ¬ (mid=1∨mid=5) by omega)
  clear hm1 hm5
  go_enter Tryz.func56,Tryz.ntmps56
  go_wp2_with(first
   |(go_at_call 57;(with_reducible refine(D9 x _ h0 h1).mono ?_);rintro e w1 ⟨rfl,rfl⟩;rw [Hl.out])
   |(go_at_call 57;(with_reducible refine(Cy x _ h0 h1).mono ?_);rintro e w1 ⟨rfl,rfl⟩;rw [Hm.out])
   |(go_at_call 57;(with_reducible refine(Cw x _ h0 h1).mono ?_);rintro e w1 ⟨rfl,rfl⟩;rw [Hu.out])
   |(go_at_call 93;refine(D8 (mid) [(0,19),(2,20),(3,21),(4,22),(6,23),(7,24)] 6 w.heap.size (w.heap.size+1) 2 3 _ rfl (by decide) ((Blk.new w _ _).alloc _) (Blk.newAt _ _ _ (by simp))).mono ?_;rintro e w1 ⟨rfl,rfl⟩))
  go_ret2
  refine⟨?_,((Below.refl _ _).alloc (Nat.le_refl _) _).alloc (by simp) _⟩
  show _=Ending.returned (.tuple #[.int .i64 (if mid=1∨mid=5 then _ else _:Int×Int).1, .int .u8 (W7 (if mid=1∨mid=5 then _ else _:Int×Int).2)]);rw [if_neg Hmm.out]
  rfl
 by_cases h:low=51
 ·subst h
  by_cases hu0:up=0
  ·subst hu0
   go_enter Tryz.func56,Tryz.ntmps56
   go_wp2_with(first
    |(go_at_call 57;(with_reducible refine(D9 x _ h0 h1).mono ?_);rintro e w1 ⟨rfl,rfl⟩;rw [Hl.out])
    |(go_at_call 57;(with_reducible refine(Cy x _ h0 h1).mono ?_);rintro e w1 ⟨rfl,rfl⟩;rw [Hm.out])
    |(go_at_call 57;(with_reducible refine(Cw x _ h0 h1).mono ?_);rintro e w1 ⟨rfl,rfl⟩;rw [Hu.out])
    |(go_at_call 93;refine(D8 (mid) [(0,28),(1,30),(2,31),(3,32),(4,33),(5,34),(6,36),(7,37)] 8 w.heap.size (w.heap.size+1) 2 3 _ rfl (by decide) ((Blk.new w _ _).alloc _) (Blk.newAt _ _ _ (by simp))).mono ?_;rintro e w1 ⟨rfl,rfl⟩))
   go_ret2
   refine⟨?_,((Below.refl _ _).alloc (Nat.le_refl _) _).alloc (by simp) _⟩
   skip
   rfl
  by_cases hu32:up=32
  ·subst hu32
   go_enter Tryz.func56,Tryz.ntmps56
   go_wp2_with(first
    |(go_at_call 57;(with_reducible refine(D9 x _ h0 h1).mono ?_);rintro e w1 ⟨rfl,rfl⟩;rw [Hl.out])
    |(go_at_call 57;(with_reducible refine(Cy x _ h0 h1).mono ?_);rintro e w1 ⟨rfl,rfl⟩;rw [Hm.out])
    |(go_at_call 57;(with_reducible refine(Cw x _ h0 h1).mono ?_);rintro e w1 ⟨rfl,rfl⟩;rw [Hu.out])
    |(go_at_call 93;refine(D8 (mid) [(0,29),(5,35)] 2 w.heap.size (w.heap.size+1) 2 3 _ rfl (by decide) ((Blk.new w _ _).alloc _) (Blk.newAt _ _ _ (by simp))).mono ?_;rintro e w1 ⟨rfl,rfl⟩))
   go_ret2
   refine⟨?_,((Below.refl _ _).alloc (Nat.le_refl _) _).alloc (by simp) _⟩
   skip
   rfl
  by_cases hu1:up=1
  ·subst hu1
   go_enter Tryz.func56,Tryz.ntmps56
   go_wp2_with(first
    |(go_at_call 57;(with_reducible refine(D9 x _ h0 h1).mono ?_);rintro e w1 ⟨rfl,rfl⟩;rw [Hl.out])
    |(go_at_call 57;(with_reducible refine(Cy x _ h0 h1).mono ?_);rintro e w1 ⟨rfl,rfl⟩;rw [Hm.out])
    |(go_at_call 57;(with_reducible refine(Cw x _ h0 h1).mono ?_);rintro e w1 ⟨rfl,rfl⟩;rw [Hu.out])
    |(go_at_call 93;refine(D8 (mid) [(0,38),(1,39),(2,40),(3,41),(4,42),(5,43),(6,44),(7,45)] 8 w.heap.size (w.heap.size+1) 2 3 _ rfl (by decide) ((Blk.new w _ _).alloc _) (Blk.newAt _ _ _ (by simp))).mono ?_;rintro e w1 ⟨rfl,rfl⟩))
   go_ret2
   refine⟨?_,((Below.refl _ _).alloc (Nat.le_refl _) _).alloc (by simp) _⟩
   skip
   rfl
  have e0:(up==0)=false:=by simp [hu0]
  have e32:(up==32)=false:=by simp [hu32]
  have e1:(up==1)=false:=by simp [hu1]
  have Hv:=Lib.hid (show ¬ up=0∧¬ up=32∧¬ up=1 by omega)
  clear hu0 hu32 hu1
  go_enter Tryz.func56,Tryz.ntmps56
  go_wp2_with(first
   |(go_at_call 57;(with_reducible refine(D9 x _ h0 h1).mono ?_);rintro e w1 ⟨rfl,rfl⟩;rw [Hl.out])
   |(go_at_call 57;(with_reducible refine(Cy x _ h0 h1).mono ?_);rintro e w1 ⟨rfl,rfl⟩;rw [Hm.out])
   |(go_at_call 57;(with_reducible refine(Cw x _ h0 h1).mono ?_);rintro e w1 ⟨rfl,rfl⟩;rw [Hu.out])
   |(go_at_call 93;refine(D8 (0) [] 0 w.heap.size (w.heap.size+1) 2 3 _ rfl (by decide) ((Blk.new w _ _).alloc _) (Blk.newAt _ _ _ (by simp))).mono ?_;rintro e w1 ⟨rfl,rfl⟩))
  go_ret2
  refine⟨?_,Below.refl _ _⟩
  show _=Ending.returned (.tuple #[.int .i64 (if up=0 then _ else if up=32 then _ else if up=1 then _ else _:Int×Int).1, .int .u8 (W7 (if up=0 then _ else if up=32 then _ else if up=1 then _ else _:Int×Int).2)]);rw [if_neg Hv.out.1,if_neg Hv.out.2.1,if_neg Hv.out.2.2]
  rfl
 have f55:(low==55)=false:=by simp [*]
 have f23:(low==23)=false:=by simp [*]
 have f111:(low==111)=false:=by simp [*]
 have f103:(low==103)=false:=by simp [*]
 have f99:(low==99)=false:=by simp [*]
 have f3:(low==3)=false:=by simp [*]
 have f35:(low==35)=false:=by simp [*]
 have f15:(low==15)=false:=by simp [*]
 have f115:(low==115)=false:=by simp [*]
 have f19:(low==19)=false:=by simp [*]
 have f51:(low==51)=false:=by simp [*]
 have Hf:=Lib.hid (show ¬ low=55∧¬ low=23∧¬ low=111∧¬ low=103∧¬ low=99∧¬ low=3∧¬ low=35∧¬ low=15∧¬ low=115∧¬ low=19∧¬ low=51 by refine⟨?_,?_,?_,?_,?_,?_,?_,?_,?_,?_,?_⟩<;>assumption)
 clear h
 go_enter Tryz.func56,Tryz.ntmps56
 go_wp2_with(first
  |(go_at_call 57;(with_reducible refine(D9 x _ h0 h1).mono ?_);rintro e w1 ⟨rfl,rfl⟩;rw [Hl.out])
  |(go_at_call 57;(with_reducible refine(Cy x _ h0 h1).mono ?_);rintro e w1 ⟨rfl,rfl⟩;rw [Hm.out])
  |(go_at_call 57;(with_reducible refine(Cw x _ h0 h1).mono ?_);rintro e w1 ⟨rfl,rfl⟩;rw [Hu.out])
  |(go_at_call 93;refine(D8 (0) [] 0 w.heap.size (w.heap.size+1) 2 3 _ rfl (by decide) ((Blk.new w _ _).alloc _) (Blk.newAt _ _ _ (by simp))).mono ?_;rintro e w1 ⟨rfl,rfl⟩))
 go_ret2
 refine⟨?_,Below.refl _ _⟩
 unfold Fp;simp only [Hf.out,if_false]
 rfl
end Go.Proofs.YtapgojgcmlnbgacGreat
