/- CoreSame: what is committed is what the model plays; no condition. -/
import Derived.Test.YtapgojgcmlnbgacGreatRows
import Derived.Test.YtapgojgcmlnbgacGreatK00
import Derived.Test.YtapgojgcmlnbgacGreatK03
import Derived.Test.YtapgojgcmlnbgacGreatK22
import Derived.WalkKit
import Derived.ProofKit
import Derived.OpenShut
import Derived.ShutString
import Derived.ChangeOld
import Derived.Below
import Derived.SizedLaws
set_option linter.unusedSimpArgs false
set_option linter.unusedVariables false
set_option maxRecDepth 100000
set_option maxHeartbeats 16000000
namespace Go.Proofs.YtapgojgcmlnbgacGreat
open Go.ChangeShapes Go.WideShapes Go.ChangeAt Go.RowKit
open Go.ChangeMaps (open_string shut_string)
theorem U3 (a b c:Int) (h:Al) (A:Option Addr) (cap:Nat) (m:List Int) (A2:Option Addr) (cap2:Nat) (sc:List Int) (cycles:Int) (w:World) (hh:h.Wf) (hl:m.length≤140737488351232) (hm:Bytes m) (hA:Aq w w.heap.size .u8 A m) (hnil:A=none→m=[])
  (hl2:sc.length*8≤140737488351232) (hS:Aq w w.heap.size .i64 A2 sc) (hSn:A2=none→sc=[]∧cap2=0) (hS1:sc.length≤cap2) (hS2:cap2≤maxLen) (hSb:∀ x∈sc,x≤9223372036854775807) (s0 : -9223372036854775808≤cycles) (s1:cycles≤9223372036854775807) :
  Calls Tryz.prog 3 #[.agg #[.int .i64 a, .int .i64 b, .int .i64 c], .agg h.cells, .slice A m.length cap, .slice A2 sc.length cap2, .int .i64 cycles] w fun e w'=>e = .returned (.bool true)∧Below w.heap.size w w':=by
 have hmx:maxLen=9223372036854775807:=rfl
 rw [hmx] at hS2
 by_cases hno:Hw a b c h m.length sc.length cycles=0
 ·obtain⟨ask,h1,h2,h3⟩:=Afr hh hm hno
  exact Ym a b c h A cap m A2 cap2 sc cycles w ask hA hnil hS hSn hS1 hS2 h1 hSb h2 h3 hno
 ·exact Yl a b c h A cap m.length A2 cap2 sc.length cycles w hh.len hl (by omega) s0 s1 hno
theorem W0:ownKnob Tryz.prog.godebug=none:=by kernel_rfl
theorem Ff:laidOutB Tryz.prog=true:=by kernel_rfl
theorem Sd (os:Os) (started:os.Started) (H:Type) (enc:TypeId×Value→H) :
  ReturnsInHanded {} Tryz.checked os 3 .any (Rows.coreSameSpec.pre6 enc Tryz.prog Tryz.f3 Rows.coreSameRow.domain false) (Rows.coreSameSpec.post enc Tryz.prog Tryz.f3 false true false false):=by
 refine returnsInHanded_of_change_sized (C:=Tryz.checked) W0 started (by kernel_rfl) Tryz.func3
  (ChangeSpec.witness6 (enc:=enc) (C:=Tryz.checked) false ⟨#[],#[.agg #[.int .i64 0, .int .i64 0, .int .i64 0], .agg ((List.replicate 32 (Value.int .u32 0))++[Value.int .u32 0,Value.int .i64 0,Value.int .i64 0]).toArray, .slice none 0 0, .slice none 0 0, .int .i64 0],[]⟩ 8 (by kernel_rfl) (by kernel_rfl) (by kernel_rfl) (by kernel_rfl)) ?_
 intro W base args ds gs before hval0 hW hcnd hsz _
 have hval:∀ (j:Nat) t v,Tryz.f3.params[j]? = some t→args[j]? = some v→Value.okWide Tryz.prog W .any base t v:=hval0
 have hW':=hW
 obtain⟨p,q,hA0,hV,rfl,hfz,hnd⟩:=hW
 have hA:DataW.TrodAll enc Tryz.prog W 0 (fun _=>true) true Tryz.f3.params.toList args.toList ds p:=hA0
 rw [Tryz.params3] at hA hval
 obtain⟨v0,vs0,d0,ds0,p0,q0,hargs,rfl,rfl,h0,r0⟩:=trodAll_cons hA
 obtain⟨v1,vs1,d1,ds1,p1,q1,rfl,rfl,rfl,h1,r1⟩:=trodAll_cons r0
 obtain⟨v2,vs2,d2,ds2,p2,q2,rfl,rfl,rfl,h2,r2⟩:=trodAll_cons r1
 obtain⟨v3,vs3,d3,ds3,p3,q3,rfl,rfl,rfl,h3,r3⟩:=trodAll_cons r2
 obtain⟨v4,vs4,d4,ds4,p4,q4,rfl,rfl,rfl,h4,r4⟩:=trodAll_cons r3
 obtain⟨rfl,rfl,rfl⟩:=trodAll_nil r4
 obtain rfl:args=#[v0,v1,v2,v3,v4]:=by cases args;simp_all
 obtain⟨rfl,rfl⟩:=trodVars_none hV
 have k0:=h0
 have lt0:∀ x∈p0,x.block<W.heap.size:=by obtain⟨m,hm⟩:=k0;exact DataW.trod_lt m _ _ _ hm
 obtain⟨cs0,rfl⟩:=Abk Tryz.underlying23 (hval 0 23 v0 rfl rfl)
 obtain⟨wa0,wb0,wc0,rfl⟩:∃ a b c:Int,cs0=#[.int .i64 a, .int .i64 b, .int .i64 c]:=by obtain⟨fuel,hf⟩:=h0;exact Agr hf
 have k1:=h1
 have lt1:∀ x∈p1,x.block<W.heap.size:=by obtain⟨m,hm⟩:=k1;exact DataW.trod_lt m _ _ _ hm
 obtain⟨cs1,rfl⟩:=okWide_struct Tryz.underlying27 (hval 1 27 v1 rfl rfl)
 obtain⟨a1,wf1,num1,rfl⟩:∃ hh:Al,hh.Wf∧hh.Num∧cs1=hh.cells:=by obtain⟨fuel,hf⟩:=h1;exact Aet hf
 have k2:=h2
 have lt2:∀ x∈p2,x.block<W.heap.size:=by obtain⟨m,hm⟩:=k2;exact DataW.trod_lt m _ _ _ hm
 obtain⟨A2,len2,cap2,rfl⟩:=okWide_slice Tryz.underlying28 (hval 2 28 v2 rfl rfl)
 obtain⟨l2,hlen2,wf2,at2,hn2,hd2⟩:∃ l:List Int,l.length=len2∧Bytes l∧Aq W W.heap.size .u8 A2 l∧(A2=none→l=[])∧(d2 = .nil∧len2=0∨∃ es sp,d2 = .slice es sp∧es.length=len2):=by obtain⟨fuel,hf⟩:=h2;exact Abl hf
 have hz2:=Wm hsz (j:=2) (t:=28) (e:=5) (nb:=1) rfl rfl Tryz.underlying28 (by kernel_rfl) hd2
 subst hlen2
 rw [Nat.mul_one] at hz2
 have k3:=h3
 have lt3:∀ x∈p3,x.block<W.heap.size:=by obtain⟨m,hm⟩:=k3;exact DataW.trod_lt m _ _ _ hm
 obtain⟨A3,len3,cap3,rfl⟩:=okWide_slice Tryz.underlying29 (hval 3 29 v3 rfl rfl)
 obtain⟨l3,hlen3,wf3,at3,hn3,hc3,hm3,hd3⟩:∃ l:List Int,l.length=len3∧(∀ v∈l,v≤9223372036854775807)∧Aq W W.heap.size .i64 A3 l∧(A3=none→l=[]∧cap3=0)∧len3≤cap3∧cap3≤maxLen∧(d3 = .nil∧len3=0∨∃ es sp,d3 = .slice es sp∧es.length=len3):=by obtain⟨fuel,hf⟩:=h3;exact Zp hf
 have hz3:=Wm hsz (j:=3) (t:=29) (e:=3) (nb:=8) rfl rfl Tryz.underlying29 (by kernel_rfl) hd3
 subst hlen3
 have k4:=h4
 have lt4:∀ x∈p4,x.block<W.heap.size:=by obtain⟨m,hm⟩:=k4;exact DataW.trod_lt m _ _ _ hm
 obtain⟨a4,rfl,hd4,hp4,wf4⟩:=open_int Tryz.underlying3 (hval 4 3 v4 rfl rfl) h4
 have b4:=bounds_i64 wf4
 clear hA0 hval0
 refine(U3 wa0 wb0 wc0 a1 A2 cap2 l2 A3 cap3 l3 a4 W wf1 hz2 wf2 at2 hn2 hz3 at3 hn3 hc3 hm3 wf3 b4.1 b4.2).mono fun e W' ⟨he,bel⟩=>?_
 subst he
 exact⟨_,rfl,_,_,_,[],_,[],hW',trodAll_mk1 (shut_bool Tryz.underlying4 _),(trodAll_cons_mk (Below.trod Ff (by kernel_rfl) (of_decide_eq_true (by kernel_rfl)) k0 bel lt0) (trodAll_cons_mk (Below.trod Ff (by kernel_rfl) (of_decide_eq_true (by kernel_rfl)) k1 bel lt1) (trodAll_cons_mk (Below.trod Ff (by kernel_rfl) (of_decide_eq_true (by kernel_rfl)) k2 bel lt2) (trodAll_cons_mk (Below.trod Ff (by kernel_rfl) (of_decide_eq_true (by kernel_rfl)) k3 bel lt3) (trodAll_cons_mk (Below.trod Ff (by kernel_rfl) (of_decide_eq_true (by kernel_rfl)) k4 bel lt4) trodAll_mk0))))),rfl,bel.frame _,fun h=>by cases h⟩
theorem coreSame_holds:Rows.CoreSameSaid:=
 OpenClaim.holds_of_wide 3 Tryz.f3 rfl rfl rfl rfl rfl rfl rfl ⟨rfl,rfl,rfl,rfl,rfl⟩ rfl rfl rfl rfl rfl (by kernel_rfl) Tryz.func3 (by kernel_rfl)
  (of_decide_eq_true (by kernel_rfl)) (by unfold Func.isWrapper;first | (rw [if_pos (by decide +kernel)];kernel_rfl) | (rw [if_neg (by decide +kernel)];exact⟨rfl,rfl⟩))
  (fun os started H enc _=>Sd os started H enc)
#print axioms coreSame_holds
end Go.Proofs.YtapgojgcmlnbgacGreat
