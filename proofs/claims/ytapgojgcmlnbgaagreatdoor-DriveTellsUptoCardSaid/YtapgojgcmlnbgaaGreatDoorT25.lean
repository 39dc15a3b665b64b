/- For every script (together with what the row reads of at most 1048576 values and letters): the program answers line by line what its layers answer. The listed package-level variables read as the row says (the card ties them). -/
import Derived.Test.YtapgojgcmlnbgaaGreatDoorTZ
import Derived.Test.YtapgojgcmlnbgaaGreatDoorCards
import Derived.Test.YtapgojgcmlnbgaaGreatDoorTie
import Derived.Test.YtapgojgcmlnbgaaGreatDoorT24
import Derived.Test.YtapgojgcmlnbgaaGreatDoorT19
import Derived.ProofKit
import Derived.OpenShut
import Derived.Deep.DeepHandedRow
import Derived.Deep.DeepWitnessRowRef
set_option linter.unusedSimpArgs false
set_option linter.unusedVariables false
set_option maxRecDepth 100000
set_option maxHeartbeats 16000000
namespace Go.Proofs.YtapgojgcmlnbgaaGreatDoor
open Go.ChangeShapes Go.WideShapes Go.ChangeAt Go.RowKit
open Go.ChangeMaps (open_string shut_string)
theorem Um:ownKnob Tryz.prog.godebug=none:=by kernel_rfl
theorem Ow (H:Type) (enc:TypeId×Value→H) (W:World) (base:Nat) (args:Array Value) (ds gs:List (DataW H)) (before:List MemPlace)
  (hval:∀ (j:Nat) t v,Tryz.f3.params[j]? = some t→args[j]? = some v→Value.okWide Tryz.prog W .any base t v)
  (hW:DataW.Whole enc Tryz.prog Tryz.f3.params.toList Rows.driveTellsSpec.vars false W args.toList ds gs before) (hk:Rows.uptoSmall H (ds++gs)=true) (hL:laidMetH Tryz.prog Rows.driveTellsUptoRow.laid W) (hS:W.ShapedOpen Tryz.prog) :
  Calls Tryz.prog 3 args W fun e W'=>∃ v,e = .returned v∧Rows.driveTellsSpec.post enc Tryz.prog Tryz.f3 false true false false W args v W':=by
 have hW':=hW
 obtain⟨p,q,hA0,hV,rfl,hfz,hnd⟩:=hW
 have hA:DataW.TrodAll enc Tryz.prog W 0 (fun _=>true) true Tryz.f3.params.toList args.toList ds p:=hA0
 rw [Tryz.params3] at hA hval
 obtain⟨v0,vs0,d0,ds0,p0,q0,hargs,rfl,rfl,h0,r0⟩:=trodAll_cons hA
 obtain⟨rfl,rfl,rfl⟩:=trodAll_nil r0
 obtain rfl:args=#[v0]:=by cases args;simp_all
 obtain⟨rfl,rfl⟩:=trodVars_none hV
 obtain⟨s0,rfl,rfl,rfl,m0⟩:=open_string Tryz.underlying9 (hval 0 9 v0 rfl rfl) h0
 clear hA0
 simp only [List.append_nil] at hW' hk
 have hb:=of_decide_eq_true hk
 simp only [Rows.uptoBulkAll,Rows.uptoBulk] at hb
 rw [MakeChecks.laidMetH_plain _ _ _ (by kernel_rfl)] at hL
 have V:=Aet hL (.tail _ (.tail _ (.head _))) (.tail _ (.tail _ (.tail _ (.tail _ (.head _))))) (.tail _ (.tail _ (.tail _ (.tail _ (.tail _ (.head _)))))) hS
 refine(Wi s0.data.toList W V (qC _) (by omega)).mono fun e W' ⟨he,bel⟩=>?_
 subst he
 exact⟨_,rfl,_,_,_,[],[],[],hW',trodAll_mk1 (shut_bool Tryz.underlying4 _),trodAll_cons_mk (shut_string Tryz.underlying9 m0) trodAll_mk0,rfl,bel.frame _,fun h=>by cases h⟩
theorem Rz (os:Os) {H:Type} (enc:TypeId×Value→H):∃ places,DataW.whole enc Tryz.prog ((Im os).forCall (fun _ _=>0) ⟨#[],#[.string .empty],[]⟩).memory Tryz.f3.params.toList Rows.driveTellsSpec.vars false #[Value.string .empty].toList 8=some ([.lit (.string [])],[],places):=
 ⟨[],by kernel_rfl⟩
theorem Qk (os:Os) (started:os.Started) (H:Type) (enc:TypeId×Value→H) (F:Stop.Interp) :
  ReturnsInHanded {} Tryz.checked os 3 .any ((Rows.OpenSpec.upto Rows.driveTellsSpec).preRow enc Tryz.prog Tryz.f3 Rows.driveTellsUptoRow.domain false Rows.driveTellsUptoRow.laid) (((Rows.OpenSpec.upto Rows.driveTellsSpec).at F).post enc Tryz.prog Tryz.f3 false true false false):=by
 obtain⟨places,hx⟩:=Rz os enc
 refine returnsInHanded_of_row (C:=Tryz.checked) (s:=Rows.OpenSpec.upto Rows.driveTellsSpec) Um started (by kernel_rfl) Tryz.func3
  (witness_row_atRef (enc:=enc) (C:=Tryz.checked) false (Im os) #[.string .empty] rfl (Xv os _) (Xu os _) (by kernel_rfl)
   (OpenSpec.preRow_of_cond 8 hx (by kernel_rfl) (fun k hk=>by cases hk;kernel_rfl) (by kernel_rfl) (Aa2 os _))) ?_
 intro W base args ds gs before hval hW _ hcond _ hL hS _
 exact Ow H enc W base args ds gs before hval hW (hcond _ rfl) hL hS
theorem Ti:Rows.DriveTellsUptoSaid:=
 OpenClaim.holds_of_cond 3 Tryz.f3 rfl rfl rfl rfl rfl rfl rfl ⟨rfl,rfl,rfl,rfl,rfl⟩ rfl rfl rfl rfl rfl (by kernel_rfl) Tryz.func3 (by kernel_rfl)
  (of_decide_eq_true (by kernel_rfl)) (by unfold Func.isWrapper;first | (rw [if_pos (by decide +kernel)];kernel_rfl) | (rw [if_neg (by decide +kernel)];exact⟨rfl,rfl⟩))
  (fun os started H enc _ F=>by rw [OpenClaim.pre_eq_preRow];exact Qk os started H enc F)
theorem Ry (f : FuncId) (fn : Func) (hf : Tryz.pinned.checked.prog.funcNamed "humpyard/humpyardkeep.DriveTells" = some f) (hfn : Tryz.pinned.checked.prog.funcs[f]? = some fn) :
  true=Tryz.pinned.checked.prog.looks []∧∀ (j:Nat) t,fn.params[j]? = some t→Tryz.pinned.checked.prog.wantsStandIn t=false:=by
 obtain rfl : f = 3 := qK ((show Tryz.prog.funcNamed "humpyard/humpyardkeep.DriveTells" = some 3 by kernel_rfl).symm.trans hf) |>.symm
 obtain rfl:fn=Tryz.f3:=(qK (Tryz.func3.symm.trans hfn)).symm
 refine⟨by kernel_rfl,fun j t ht=>?_⟩
 rw [Tryz.params3] at ht
 obtain rfl:t=9:=by simpa using Array.mem_of_getElem? ht
 exact(show Tryz.prog.wantsStandIn 9=false by kernel_rfl)
theorem driveTells_holds:Rows.DriveTellsUptoCardSaid:=
 Claim7.holds_tied_plain_at .later [] _ _ _ _ Ti (fun _ h=>by cases h) (by kernel_rfl) (fun _ h=>by cases h) driveTellsUpto_row_tie rfl ⟨rfl,rfl⟩ (by kernel_rfl) rfl Ry (by kernel_rfl)
end Go.Proofs.YtapgojgcmlnbgaaGreatDoor
