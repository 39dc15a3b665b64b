/- Parts of a proof. -/
import Derived.Test.YtapgojgcmlnbgaaGreatDoorTZ
import Derived.Test.YtapgojgcmlnbgaaGreatDoorT19
set_option linter.unusedSimpArgs false
set_option linter.unusedVariables false
set_option maxRecDepth 100000
set_option maxHeartbeats 16000000
namespace Go.Proofs.YtapgojgcmlnbgaaGreatDoor
open Go Go.RowKit
theorem Acv {B:Nat} (a b:List UInt8) (w:World) (V:Ig B w) (hB:B≤w.heap.size) (hl:a.length+b.length≤1900000) :
  Calls Tryz.prog 4 #[sV a,sV b] w fun e w'=>e = .returned (.bool true)∧Below w.heap.size w w':=by
 obtain⟨r,hr⟩:=Adf Nf Ng Et Fh a b
 have hA:=Aif Nf Ng Et Fh
 obtain⟨X,hX⟩:∃ X,S8 (a++[10])=X:=⟨_,rfl⟩
 have C1:=qA (fun W (hW:Below w.heap.size w W)=>Q2 (a++[10]) W (V.ext (hW.mono hB)) (qD hB hW.size) (by simp;omega))
 have C2:=qA (fun W (hW:Below w.heap.size w W)=>Q2 (a++10::b) W (V.ext (hW.mono hB)) (qD hB hW.size) (by simp;omega))
 have C3:=qA (fun W (hW:Below w.heap.size w W)=>Q2 [63] W (V.ext (hW.mono hB)) (qD hB hW.size) (by simp))
 have e2:S8 (a++10::b)=X++r:=by rw [←hX,show a++10::b=a++[10]++b by simp];exact hr
 have e3:S8 [63]=[63,10]:=hA
 have hn:=Agi (a++10::b) (by simp;omega)
 rw [hX] at C1
 rw [e2] at C2 hn
 rw [e3] at C3
 simp only [qO] at hn
 clear hr hA hX e2 e3
 have hcat:=F9
 have hcat2:∀ a:List UInt8,Value.string (⟨a.toArray⟩++⟨#[10]⟩)=sV (a++[10]):=fun a=>F9 a [10]
 have hlen1:a.length+1≤9223372036854775807:=by omega
 have hlen2:a.length+1+b.length≤9223372036854775807:=by omega
 have hle:decide ((X.length:Int)≤(X.length:Int)+(r.length:Int))=true:=qF (by omega)
 have hle2:X.length≤X.length+r.length:=by omega
 have hcut:(ByteArray.mk (X++r).toArray).extract 0 X.length=ByteArray.mk X.toArray:=ByteArray.ext (by rw [ByteArray.data_extract];simp)
 go_enter Tryz.func4,Tryz.ntmps4
 go_upto_region 3 with(go_at_call 7;(with_reducible refine(C1.out _ (qB _ _)).mono ?_);rintro e w1 ⟨rfl,hb1⟩)
 try go_simp
 go_upto_region 4 with(go_at_call 7;(with_reducible refine(C2.out _ hb1).mono ?_);rintro e w2 ⟨rfl,hb2⟩)
 try go_simp
 replace hb2:=hb1.trans (hb2.mono hb1.size)
 go_wp2_with(go_at_call 7;(with_reducible refine(C3.out _ hb2).mono ?_);rintro e w3 ⟨rfl,hb3⟩)
 go_ret
 exact⟨rfl,hb2.trans (hb3.mono hb2.size)⟩
end Go.Proofs.YtapgojgcmlnbgaaGreatDoor
