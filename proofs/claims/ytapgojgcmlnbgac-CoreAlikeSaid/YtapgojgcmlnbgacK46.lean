/- Parts of a proof. -/
import Derived.Test.YtapgojgcmlnbgacK42
import Derived.Test.YtapgojgcmlnbgacK44
import Derived.Test.YtapgojgcmlnbgacK45
set_option linter.unusedSimpArgs false
set_option linter.unusedVariables false
set_option maxRecDepth 100000
set_option maxHeartbeats 16000000
namespace Go.Proofs.Ytapgojgcmlnbgac
open Go Go.RowKit
section
variable {B:Nat} {w:World} {g p:Nat} {C:Core} {L:Lay} {ps:List Nat} {cs:Array Value}
theorem fetch_all (h:CoreIs B w g C L ps cs) (hI:Inv C) (hq:C.seq≤4611686018427387904) (ht:0≤C.taken∧C.taken≤4611686018427387904) :
  Calls Try.prog 17 #[.pointer (some ⟨g,0,none⟩)] w (FePost B w g (fetchC C)):=by
 by_cases hn:C.still=true∨C.names.free=[]
 ·exact fetch_no h hn
 have hst:C.still=false:=by
  rcases e:C.still with _ | _
  ·rfl
  ·exact absurd (Or.inl e) hn
 have hfr:C.names.free≠[]:=fun e=>hn (Or.inr e)
 cases hp:pushP C.slots C.window C.seq with
 |none=>exact fetch_full h hI.fine hst hfr hp
 |some sl=>
  obtain⟨⟨i,c⟩,hsn⟩:∃ f,seeIns C=f:=⟨_,rfl⟩
  by_cases hc:c=0
  ·subst hc
   rcases hgv:givesP i with _ | _
   ·exact fetch_plain h hI hst hfr hp hq ht hsn hgv
   ·exact fetch_good h hI hst hfr hp hq ht hsn hgv
  ·exact fetch_bad h hI hst hfr hp hq ht hsn hc
end
end Go.Proofs.Ytapgojgcmlnbgac
