/- For every two scripts (together with what the row reads of at most 1048576 values and letters): the answer to the one with the other one behind it begins with the answer to the one; and an answer to '?' is '?'. The listed package-level variables read as the row says (the card ties them). -/
import Derived.Test.YtapgojgcmlnbgaaGreatDoorTZ
import Derived.Test.YtapgojgcmlnbgaaGreatDoorCards
import Derived.Test.YtapgojgcmlnbgaaGreatDoorTie
import Derived.Test.YtapgojgcmlnbgaaGreatDoorT20
import Derived.Test.YtapgojgcmlnbgaaGreatDoorT19
import Derived.ProofKit
import Derived.OpenShut
import Derived.Deep.DeepHandedRow
import Derived.Deep.DeepWitnessRowRef
set_option linter.unusedSimpArgs false
set_option linter.unusedVariables false
set_option maxRecDepth 100000
set_option maxHeartbeats 16000000
namespace Go.Proofs.YtapgojgcmlnbgaaGreatDoor
open Go.ChangeShapes Go.WideShapes Go.ChangeAt Go.RowKit
open Go.ChangeMaps (open_string shut_string)
theorem Aaj:ownKnob Tryz.prog.godebug=none:=by kernel_rfl
theorem Rx (H:Type) (enc:TypeId×Value→H) (W:World) (base:Nat) (args:Array Value) (ds gs:List (DataW H)) (before:List MemPlace)
  (hval:∀ (j:Nat) t v,Tryz.f4.params[j]? = some t→args[j]? = some v→Value.okWide Tryz.prog W .any base t v)
  (hW:DataW.Whole enc Tryz.prog Tryz.f4.params.toList Rows.driveOnSpec.vars false W args.toList ds gs before) (hk:Rows.uptoSmall H (ds++gs)=true) (hL:laidMetH Tryz.prog Rows.driveOnUptoRow.laid W) (hS:W.ShapedOpen Tryz.prog) :
  Calls Tryz.prog 4 args W fun e W'=>∃ v,e = .returned v∧Rows.driveOnSpec.post enc Tryz.prog Tryz.f4 false true false false W args v W':=by
 have hW':=hW
 obtain⟨p,q,hA0,hV,rfl,hfz,hnd⟩:=hW
 have hA:DataW.TrodAll enc Tryz.prog W 0 (fun _=>true) true Tryz.f4.params.toList args.toList ds p:=hA0
 rw [Tryz.params4] at hA hval
 obtain⟨v0,vs0,d0,ds0,p0,q0,hargs,rfl,rfl,h0,r0⟩:=trodAll_cons hA
 obtain⟨v1,vs1,d1,ds1,p1,q1,rfl,rfl,rfl,h1,r1⟩:=trodAll_cons r0
 obtain⟨rfl,rfl,rfl⟩:=trodAll_nil r1
 obtain rfl:args=#[v0,v1]:=by cases args;simp_all
 obtain⟨rfl,rfl⟩:=trodVars_none hV
 obtain⟨s0,rfl,rfl,rfl,m0⟩:=open_string Tryz.underlying9 (hval 0 9 v0 rfl rfl) h0
 obtain⟨s1,rfl,rfl,rfl,m1⟩:=open_string Tryz.underlying9 (hval 1 9 v1 rfl rfl) h1
 clear hA0
 simp only [List.append_nil] at hW' hk
 have hb:=of_decide_eq_true hk
 simp only [Rows.uptoBulkAll,Rows.uptoBulk] at hb
 rw [MakeChecks.laidMetH_plain _ _ _ (by kernel_rfl)] at hL
 have V:=Aet hL (.tail _ (.tail _ (.head _))) (.tail _ (.tail _ (.tail _ (.tail _ (.head _))))) (.tail _ (.tail _ (.tail _ (.tail _ (.tail _ (.head _)))))) hS
 refine(Acv s0.data.toList s1.data.toList W V (qC _) (by omega)).mono fun e W' ⟨he,bel⟩=>?_
 subst he
 exact⟨_,rfl,_,_,_,[],[],[],hW',trodAll_mk1 (shut_bool Tryz.underlying4 _),trodAll_cons_mk (shut_string Tryz.underlying9 m0) (trodAll_cons_mk (shut_string Tryz.underlying9 m1) trodAll_mk0),rfl,bel.frame _,fun h=>by cases h⟩
theorem Wh (os:Os) {H:Type} (enc:TypeId×Value→H):∃ places,DataW.whole enc Tryz.prog ((Im os).forCall (fun _ _=>0) ⟨#[],#[.string .empty, .string .empty],[]⟩).memory Tryz.f4.params.toList Rows.driveOnSpec.vars false #[Value.string .empty,Value.string .empty].toList 8=some ([.lit (.string []), .lit (.string [])],[],places):=
 ⟨[],by kernel_rfl⟩
theorem Ul (os:Os) (started:os.Started) (H:Type) (enc:TypeId×Value→H) (F:Stop.Interp) :
  ReturnsInHanded {} Tryz.checked os 4 .any ((Rows.OpenSpec.upto Rows.driveOnSpec).preRow enc Tryz.prog Tryz.f4 Rows.driveOnUptoRow.domain false Rows.driveOnUptoRow.laid) (((Rows.OpenSpec.upto Rows.driveOnSpec).at F).post enc Tryz.prog Tryz.f4 false true false false):=by
 obtain⟨places,hx⟩:=Wh os enc
 refine returnsInHanded_of_row (C:=Tryz.checked) (s:=Rows.OpenSpec.upto Rows.driveOnSpec) Aaj started (by kernel_rfl) Tryz.func4
  (witness_row_atRef (enc:=enc) (C:=Tryz.checked) false (Im os) #[.string .empty, .string .empty] rfl (Xv os _) (Xu os _) (by kernel_rfl)
   (OpenSpec.preRow_of_cond 8 hx (by kernel_rfl) (fun k hk=>by cases hk;kernel_rfl) (by kernel_rfl) (Aa2 os _))) ?_
 intro W base args ds gs before hval hW _ hcond _ hL hS _
 exact Rx H enc W base args ds gs before hval hW (hcond _ rfl) hL hS
theorem Yw:Rows.DriveOnUptoSaid:=
 OpenClaim.holds_of_cond 4 Tryz.f4 rfl rfl rfl rfl rfl rfl rfl ⟨rfl,rfl,rfl,rfl,rfl⟩ rfl rfl rfl rfl rfl (by kernel_rfl) Tryz.func4 (by kernel_rfl)
  (of_decide_eq_true (by kernel_rfl)) (by unfold Func.isWrapper;first | (rw [if_pos (by decide +kernel)];kernel_rfl) | (rw [if_neg (by decide +kernel)];exact⟨rfl,rfl⟩))
  (fun os started H enc _ F=>by rw [OpenClaim.pre_eq_preRow];exact Ul os started H enc F)
theorem Wg (f : FuncId) (fn : Func) (hf : Tryz.pinned.checked.prog.funcNamed "humpyard/humpyardkeep.DriveOn" = some f) (hfn : Tryz.pinned.checked.prog.funcs[f]? = some fn) :
  true=Tryz.pinned.checked.prog.looks []∧∀ (j:Nat) t,fn.params[j]? = some t→Tryz.pinned.checked.prog.wantsStandIn t=false:=by
 obtain rfl : f = 4 := qK ((show Tryz.prog.funcNamed "humpyard/humpyardkeep.DriveOn" = some 4 by kernel_rfl).symm.trans hf) |>.symm
 obtain rfl:fn=Tryz.f4:=(qK (Tryz.func4.symm.trans hfn)).symm
 refine⟨by kernel_rfl,fun j t ht=>?_⟩
 rw [Tryz.params4] at ht
 obtain rfl:t=9:=by simpa using Array.mem_of_getElem? ht
 exact(show Tryz.prog.wantsStandIn 9=false by kernel_rfl)
theorem driveOn_holds:Rows.DriveOnUptoCardSaid:=
 Claim7.holds_tied_plain_at .later [] _ _ _ _ Yw (fun _ h=>by cases h) (by kernel_rfl) (fun _ h=>by cases h) driveOnUpto_row_tie rfl ⟨rfl,rfl⟩ (by kernel_rfl) rfl Wg (by kernel_rfl)
end Go.Proofs.YtapgojgcmlnbgaaGreatDoor
