/- CoreAlike: what is committed of the one core is what is committed first of the other one; no condition. -/
import Derived.Test.YtapgojgcmlnbgacRows
import Derived.Test.YtapgojgcmlnbgacK00
import Derived.Test.YtapgojgcmlnbgacK16
import Derived.Test.YtapgojgcmlnbgacK53
import Derived.WalkKit
import Derived.ProofKit
import Derived.OpenShut
import Derived.ShutString
import Derived.ChangeOld
import Derived.Below
import Derived.SizedLaws
set_option linter.unusedSimpArgs false
set_option linter.unusedVariables false
set_option maxRecDepth 100000
set_option maxHeartbeats 16000000
namespace Go.Proofs.Ytapgojgcmlnbgac
open Go.ChangeShapes Go.WideShapes Go.ChangeAt Go.RowKit
open Go.ChangeMaps (open_string shut_string)
theorem coreAlike_walk (a b c a' b' c':Int) (h:Hart) (A:Option Addr) (cap:Nat) (m:List Int) (A2:Option Addr) (cap2:Nat) (sc:List Int) (A3:Option Addr) (cap3:Nat) (sc':List Int) (n1 n2:Int) (w:World) (hh:h.Wf) (hl:m.length≤140737488351232) (hm:Bytes m) (hA:IntsAt w w.heap.size .u8 A m) (hnil:A=none→m=[])
  (hl2:sc.length*8≤140737488351232) (hS:IntsAt w w.heap.size .i64 A2 sc) (hSn:A2=none→sc=[]∧cap2=0) (hS1:sc.length≤cap2) (hS2:cap2≤maxLen) (hSb:∀ x∈sc,x≤9223372036854775807)
  (hl3:sc'.length*8≤140737488351232) (hT:IntsAt w w.heap.size .i64 A3 sc') (hTn:A3=none→sc'=[]∧cap3=0) (hT1:sc'.length≤cap3) (hT2:cap3≤maxLen) (hTb:∀ x∈sc',x≤9223372036854775807)
  (s0 : -9223372036854775808≤n1) (s1:n1≤9223372036854775807) (u0 : -9223372036854775808≤n2) (u1:n2≤9223372036854775807) :
  Calls Try.prog 4 #[.agg #[.int .i64 a, .int .i64 b, .int .i64 c], .agg #[.int .i64 a', .int .i64 b', .int .i64 c'], .agg h.cells, .slice A m.length cap, .slice A2 sc.length cap2, .slice A3 sc'.length cap3, .int .i64 n1, .int .i64 n2] w fun e w'=>e = .returned (.bool true)∧Below w.heap.size w w':=by
 have hmx:maxLen=9223372036854775807:=rfl
 rw [hmx] at hS2 hT2
 have C1:=fun W (hb:Below w.heap.size w W)=>runC_any a b c h A cap m A2 cap2 sc n1 W hh hl hm ((hA.below hb).mono hb.size) hnil (by omega) ((hS.below hb).mono hb.size) hSn hS1 hS2 hSb s0 s1
 have C2:=fun W (hb:Below w.heap.size w W)=>runC_any a' b' c' h A cap m A3 cap3 sc' n2 W hh hl hm ((hA.below hb).mono hb.size) hnil (by omega) ((hT.below hb).mono hb.size) hTn hT1 hT2 hTb u0 u1
 by_cases hno:wrongC a b c h m.length sc.length n1=0∧wrongC a' b' c' h m.length sc'.length n2=0
 ·obtain⟨no1,no2⟩:=hno
  obtain⟨ask1,h1,h2,h3⟩:=asked_of hh hm no1
  obtain⟨ask2,_,_,_⟩:=asked_of hh hm no2
  rw [no1] at C1
  rw [no2] at C2
  have r1:=run_shown ask1 sc n1.toNat
  have r2:=run_shown ask2 sc' n2.toNat
  obtain⟨L,R1,R2,e1,e2,e3⟩:=alike_front r1.run r2.run
  have hok:=runP_ok (runCore a b c h m sc n1.toNat).commits.length (h:=h) (m:=m) ⟨ask1.hart,ask1.may,ask1.bytes⟩
  rw [r1.run] at hok
  have hfew:=r1.few
  have hcy:=r1.cycles
  have hwide:=ask1.wide
  have hmul:(runCore a b c h m sc n1.toNat).cycles*c≤24000:=by
   have h9:(runCore a b c h m sc n1.toNat).cycles*c≤6000*c:=Int.mul_le_mul_of_nonneg_right (by omega) (by omega)
   omega
  refine coreAlike_ok a b c a' b' c' h A cap m.length A2 cap2 sc.length A3 cap3 sc'.length n1 n2 _ _ L.length L R1 R2 w hh.len C1 C2 e1 e2 rfl e3 (fun x hx=>(hok.2.2.1 x (by rw [e1];exact List.mem_append_left _ hx)).1) (by omega) hok.2.1 ?_
  by_cases g1:n1<200
  ·exact Or.inl g1
  ·by_cases g2:h.state=0
   ·refine Or.inr (Or.inr ?_)
    have hmany:=r1.many
    by_cases g3:(runCore a b c h m sc n1.toNat).cycles<n1.toNat
    ·have hst:=r1.all g3
     rcases Nat.eq_zero_or_pos (runCore a b c h m sc n1.toNat).commits.length with h0 | h0
     ·exfalso
      have h9:=r1.run
      rw [h0] at h9
      have h10:=congrArg (fun x=>x.2.1) h9
      have h11:h=(runCore a b c h m sc n1.toNat).hart:=h10
      exact hst (by rw [←h11];exact g2)
     ·exact h0
    ·omega
   ·exact Or.inr (Or.inl g2)
 ·exact coreAlike_no a b c a' b' c' h A cap m.length A2 cap2 sc.length A3 cap3 sc'.length n1 n2 _ _ _ _ w hh.len (by omega) C1 C2
theorem coreAlike_own:ownKnob Try.prog.godebug=none:=by kernel_rfl
theorem coreAlike_laidOut:laidOutB Try.prog=true:=by kernel_rfl
theorem coreAlike_lifted (os:Os) (started:os.Started) (H:Type) (enc:TypeId×Value→H) :
  ReturnsInHanded {} Try.checked os 4 .any (Rows.coreAlikeSpec.pre6 enc Try.prog Try.f4 Rows.coreAlikeRow.domain false) (Rows.coreAlikeSpec.post enc Try.prog Try.f4 false true false false):=by
 refine returnsInHanded_of_change_sized (C:=Try.checked) coreAlike_own started (by kernel_rfl) Try.func4
  (ChangeSpec.witness6 (enc:=enc) (C:=Try.checked) false ⟨#[],#[.agg #[.int .i64 0, .int .i64 0, .int .i64 0], .agg #[.int .i64 0, .int .i64 0, .int .i64 0], .agg ((List.replicate 32 (Value.int .u32 0))++[Value.int .u32 0,Value.int .i64 0,Value.int .i64 0]).toArray, .slice none 0 0, .slice none 0 0, .slice none 0 0, .int .i64 0, .int .i64 0],[]⟩ 8 (by kernel_rfl) (by kernel_rfl) (by kernel_rfl) (by kernel_rfl)) ?_
 intro W base args ds gs before hval0 hW hcnd hsz _
 have hval:∀ (j:Nat) t v,Try.f4.params[j]? = some t→args[j]? = some v→Value.okWide Try.prog W .any base t v:=hval0
 have hW':=hW
 obtain⟨p,q,hA0,hV,rfl,hfz,hnd⟩:=hW
 have hA:DataW.TrodAll enc Try.prog W 0 (fun _=>true) true Try.f4.params.toList args.toList ds p:=hA0
 rw [Try.params4] at hA hval
 obtain⟨v0,vs0,d0,ds0,p0,q0,hargs,rfl,rfl,h0,r0⟩:=trodAll_cons hA
 obtain⟨v1,vs1,d1,ds1,p1,q1,rfl,rfl,rfl,h1,r1⟩:=trodAll_cons r0
 obtain⟨v2,vs2,d2,ds2,p2,q2,rfl,rfl,rfl,h2,r2⟩:=trodAll_cons r1
 obtain⟨v3,vs3,d3,ds3,p3,q3,rfl,rfl,rfl,h3,r3⟩:=trodAll_cons r2
 obtain⟨v4,vs4,d4,ds4,p4,q4,rfl,rfl,rfl,h4,r4⟩:=trodAll_cons r3
 obtain⟨v5,vs5,d5,ds5,p5,q5,rfl,rfl,rfl,h5,r5⟩:=trodAll_cons r4
 obtain⟨v6,vs6,d6,ds6,p6,q6,rfl,rfl,rfl,h6,r6⟩:=trodAll_cons r5
 obtain⟨v7,vs7,d7,ds7,p7,q7,rfl,rfl,rfl,h7,r7⟩:=trodAll_cons r6
 obtain⟨rfl,rfl,rfl⟩:=trodAll_nil r7
 obtain rfl:args=#[v0,v1,v2,v3,v4,v5,v6,v7]:=by cases args;simp_all
 obtain⟨rfl,rfl⟩:=trodVars_none hV
 have k0:=h0
 have lt0:∀ x∈p0,x.block<W.heap.size:=by obtain⟨m,hm⟩:=k0;exact DataW.trod_lt m _ _ _ hm
 obtain⟨cs0,rfl⟩:=okWide_cfg Try.underlying23 (hval 0 23 v0 rfl rfl)
 obtain⟨wa0,wb0,wc0,rfl⟩:∃ a b c:Int,cs0=#[.int .i64 a, .int .i64 b, .int .i64 c]:=by obtain⟨fuel,hf⟩:=h0;exact open_cfg hf
 have k1:=h1
 have lt1:∀ x∈p1,x.block<W.heap.size:=by obtain⟨m,hm⟩:=k1;exact DataW.trod_lt m _ _ _ hm
 obtain⟨cs1,rfl⟩:=okWide_cfg Try.underlying23 (hval 1 23 v1 rfl rfl)
 obtain⟨wa1,wb1,wc1,rfl⟩:∃ a b c:Int,cs1=#[.int .i64 a, .int .i64 b, .int .i64 c]:=by obtain⟨fuel,hf⟩:=h1;exact open_cfg hf
 have k2:=h2
 have lt2:∀ x∈p2,x.block<W.heap.size:=by obtain⟨m,hm⟩:=k2;exact DataW.trod_lt m _ _ _ hm
 obtain⟨cs2,rfl⟩:=okWide_struct Try.underlying27 (hval 2 27 v2 rfl rfl)
 obtain⟨a2,wf2,num2,rfl⟩:∃ hh:Hart,hh.Wf∧hh.Num∧cs2=hh.cells:=by obtain⟨fuel,hf⟩:=h2;exact open_hart hf
 have k3:=h3
 have lt3:∀ x∈p3,x.block<W.heap.size:=by obtain⟨m,hm⟩:=k3;exact DataW.trod_lt m _ _ _ hm
 obtain⟨A3,len3,cap3,rfl⟩:=okWide_slice Try.underlying28 (hval 3 28 v3 rfl rfl)
 obtain⟨l3,hlen3,wf3,at3,hn3,hd3⟩:∃ l:List Int,l.length=len3∧Bytes l∧IntsAt W W.heap.size .u8 A3 l∧(A3=none→l=[])∧(d3 = .nil∧len3=0∨∃ es sp,d3 = .slice es sp∧es.length=len3):=by obtain⟨fuel,hf⟩:=h3;exact open_bytes hf
 have hz3:=sized_len hsz (j:=3) (t:=28) (e:=5) (nb:=1) rfl rfl Try.underlying28 (by kernel_rfl) hd3
 subst hlen3
 rw [Nat.mul_one] at hz3
 have k4:=h4
 have lt4:∀ x∈p4,x.block<W.heap.size:=by obtain⟨m,hm⟩:=k4;exact DataW.trod_lt m _ _ _ hm
 obtain⟨A4,len4,cap4,rfl⟩:=okWide_slice Try.underlying29 (hval 4 29 v4 rfl rfl)
 obtain⟨l4,hlen4,wf4,at4,hn4,hc4,hm4,hd4⟩:∃ l:List Int,l.length=len4∧(∀ v∈l,v≤9223372036854775807)∧IntsAt W W.heap.size .i64 A4 l∧(A4=none→l=[]∧cap4=0)∧len4≤cap4∧cap4≤maxLen∧(d4 = .nil∧len4=0∨∃ es sp,d4 = .slice es sp∧es.length=len4):=by obtain⟨fuel,hf⟩:=h4;exact open_script hf
 have hz4:=sized_len hsz (j:=4) (t:=29) (e:=3) (nb:=8) rfl rfl Try.underlying29 (by kernel_rfl) hd4
 subst hlen4
 have k5:=h5
 have lt5:∀ x∈p5,x.block<W.heap.size:=by obtain⟨m,hm⟩:=k5;exact DataW.trod_lt m _ _ _ hm
 obtain⟨A5,len5,cap5,rfl⟩:=okWide_slice Try.underlying29 (hval 5 29 v5 rfl rfl)
 obtain⟨l5,hlen5,wf5,at5,hn5,hc5,hm5,hd5⟩:∃ l:List Int,l.length=len5∧(∀ v∈l,v≤9223372036854775807)∧IntsAt W W.heap.size .i64 A5 l∧(A5=none→l=[]∧cap5=0)∧len5≤cap5∧cap5≤maxLen∧(d5 = .nil∧len5=0∨∃ es sp,d5 = .slice es sp∧es.length=len5):=by obtain⟨fuel,hf⟩:=h5;exact open_script hf
 have hz5:=sized_len hsz (j:=5) (t:=29) (e:=3) (nb:=8) rfl rfl Try.underlying29 (by kernel_rfl) hd5
 subst hlen5
 have k6:=h6
 have lt6:∀ x∈p6,x.block<W.heap.size:=by obtain⟨m,hm⟩:=k6;exact DataW.trod_lt m _ _ _ hm
 obtain⟨a6,rfl,hd6,hp6,wf6⟩:=open_int Try.underlying3 (hval 6 3 v6 rfl rfl) h6
 have b6:=bounds_i64 wf6
 have k7:=h7
 have lt7:∀ x∈p7,x.block<W.heap.size:=by obtain⟨m,hm⟩:=k7;exact DataW.trod_lt m _ _ _ hm
 obtain⟨a7,rfl,hd7,hp7,wf7⟩:=open_int Try.underlying3 (hval 7 3 v7 rfl rfl) h7
 have b7:=bounds_i64 wf7
 clear hA0 hval0
 refine(coreAlike_walk wa0 wb0 wc0 wa1 wb1 wc1 a2 A3 cap3 l3 A4 cap4 l4 A5 cap5 l5 a6 a7 W wf2 hz3 wf3 at3 hn3 hz4 at4 hn4 hc4 hm4 wf4 hz5 at5 hn5 hc5 hm5 wf5 b6.1 b6.2 b7.1 b7.2).mono fun e W' ⟨he,bel⟩=>?_
 subst he
 exact⟨_,rfl,_,_,_,[],_,[],hW',trodAll_mk1 (shut_bool Try.underlying4 _),(trodAll_cons_mk (Below.trod coreAlike_laidOut (by kernel_rfl) (of_decide_eq_true (by kernel_rfl)) k0 bel lt0) (trodAll_cons_mk (Below.trod coreAlike_laidOut (by kernel_rfl) (of_decide_eq_true (by kernel_rfl)) k1 bel lt1) (trodAll_cons_mk (Below.trod coreAlike_laidOut (by kernel_rfl) (of_decide_eq_true (by kernel_rfl)) k2 bel lt2) (trodAll_cons_mk (Below.trod coreAlike_laidOut (by kernel_rfl) (of_decide_eq_true (by kernel_rfl)) k3 bel lt3) (trodAll_cons_mk (Below.trod coreAlike_laidOut (by kernel_rfl) (of_decide_eq_true (by kernel_rfl)) k4 bel lt4) (trodAll_cons_mk (Below.trod coreAlike_laidOut (by kernel_rfl) (of_decide_eq_true (by kernel_rfl)) k5 bel lt5) (trodAll_cons_mk (Below.trod coreAlike_laidOut (by kernel_rfl) (of_decide_eq_true (by kernel_rfl)) k6 bel lt6) (trodAll_cons_mk (Below.trod coreAlike_laidOut (by kernel_rfl) (of_decide_eq_true (by kernel_rfl)) k7 bel lt7) trodAll_mk0)))))))),rfl,bel.frame _,fun h=>by cases h⟩
theorem coreAlike_holds:Rows.CoreAlikeSaid:=
 OpenClaim.holds_of_wide 4 Try.f4 rfl rfl rfl rfl rfl rfl rfl ⟨rfl,rfl,rfl,rfl,rfl⟩ rfl rfl rfl rfl rfl (by kernel_rfl) Try.func4 (by kernel_rfl)
  (of_decide_eq_true (by kernel_rfl)) (by unfold Func.isWrapper;first | (rw [if_pos (by decide +kernel)];kernel_rfl) | (rw [if_neg (by decide +kernel)];exact⟨rfl,rfl⟩))
  (fun os started H enc _=>coreAlike_lifted os started H enc)
#print axioms coreAlike_holds
end Go.Proofs.Ytapgojgcmlnbgac
