/- Parts of a proof. -/
import Derived.Test.YtapgojgcmlnbgacK37
import Derived.Test.YtapgojgcmlnbgacK41
import Derived.Test.YtapgojgcmlnbgacK20
set_option linter.unusedSimpArgs false
set_option linter.unusedVariables false
set_option maxRecDepth 100000
set_option maxHeartbeats 16000000
namespace Go.Proofs.Ytapgojgcmlnbgac
open Go Go.RowKit
def fetchN (C:Core) (sl:List Slt) (i:Ins):Core:=
 { C with slots:=sl,seq:=C.seq+1,taken:=C.taken+1,names:=(takeC C i).1,there:=if givesP i=true then C.there.set (takeC C i).2.1.toNat false else C.there,ops:=C.ops++[fetchU C i] }
theorem acc_new_cells (sq:Int) (b:Bool):Try.prog.built 82 [(0, .int .i64 sq),(1, .bool b)]=some (Acc.cells ⟨sq,b,false,0,0,0,false⟩):=by kernel_rfl
theorem wpList_wantd {P:Program} {ops:Array Oper} {Q:Exit→Act→World→Prop} {a:Act} {w:World} {rest:List Oper} {o:Oper} (hw:Region.wanted o (yielded ops a.tmps)=true)
  (h:∀ K:Act→World→Prop,(∀ a w,wpList P ops Q rest a w→K a w)→o.wp P a w K Q):wpList P ops Q (o::rest) a w:=by
 unfold wpList
 rw [if_pos hw]
 exact Or.inl (h _ fun _ _ h=>h)
end Go.Proofs.Ytapgojgcmlnbgac
