/- Parts of a proof. -/
import Derived.Test.YtapgojgcmlnbgacK32
set_option linter.unusedSimpArgs false
set_option linter.unusedVariables false
set_option maxRecDepth 100000
set_option maxHeartbeats 16000000
namespace Go.Proofs.Ytapgojgcmlnbgac
open Go.RowKit
theorem acc_zero (w:World):(zeroValue 82).run Try.prog w = .ok (.agg #[.int .i64 0, .bool false, .bool false, .int .u32 0, .int .i64 0, .int .u32 0, .bool false]) w:=zero_of (by kernel_rfl) w
theorem acc_size (a:Acc):a.cells.size=7:=rfl
theorem cacc_info (a:Acc):(Try.prog.info? 82).map (·.size)=some a.cells.size:=by rw [acc_size];kernel_rfl
theorem cacc_info7:(Try.prog.info? 82).map (·.size)=some 7:=by kernel_rfl
theorem acc_one (a:Acc):a.cells.all (·.oneCell')=true:=by
 simp [Acc.cells,Value.oneCell']
def AccRow (cur:Array Value) (l:List Acc):Prop:=∀ k a c,l[k]? = some a→c<7→cur[k*7+c]? = a.cells[c]?
theorem AccRow.take {cur:Array Value} {l:List Acc} (h:AccRow cur l):cur.toList.take (l.length*7)=accsV l:=by
 apply List.ext_getElem?
 intro m
 rw [List.getElem?_take]
 by_cases hm:m<l.length*7
 ·rw [if_pos hm]
  have hk:m / 7<l.length:=by omega
  have e:m / 7*7+m%7=m:=by omega
  have h1:=h (m / 7) _ (m%7) (List.getElem?_eq_getElem hk) (by omega)
  have h2:=accsV_get l (m / 7) _ (m%7) (List.getElem?_eq_getElem hk) (by omega)
  rw [e] at h1 h2
  rw [h2,←h1]
  simp
 ·rw [if_neg hm,List.getElem?_eq_none (by rw [accsV_len];omega)]
theorem AccRow.of {cur:Array Value} {l:List Acc} (h:cur.toList.take (l.length*7)=accsV l):AccRow cur l:=fun k a c hk hc=>by
 have hkl:k<l.length:=(List.getElem?_eq_some_iff.1 hk).1
 rw [←accsV_get l k a c hk hc,←h,List.getElem?_take,if_pos (by omega)]
 simp
structure DelA (d:Acc→Bool) (l:List Acc) (cur:Array Value) (i j:Nat):Prop where
 ex:∃ P:List Acc,P.length=i∧AccRow cur P∧P++(l.drop j).filter (fun a=>!d a)=l.filter fun a=>!d a
 rest:∀ k a c,j≤k→l[k]? = some a→c<7→cur[k*7+c]? = a.cells[c]?
section
variable {d:Acc→Bool} {l:List Acc} {cur:Array Value} {i j:Nat}
theorem DelA.skip (h:DelA d l cur i j) (h1:j<l.length) (hd:d l[j]=true):DelA d l cur i (j+1):=by
 obtain⟨P,e1,e2,e3⟩:=h.ex
 rw [List.drop_eq_getElem_cons h1,List.filter_cons_of_neg (by simp [hd])] at e3
 exact⟨⟨P,e1,e2,e3⟩,fun k p c hk hp hc=>h.rest k p c (by omega) hp hc⟩
theorem DelA.keep (h:DelA d l cur i j) (h1:j<l.length) (hd:d l[j]=false) (hij:i<j) (hs:l.length*7≤cur.size):DelA d l (splice cur (i*7) l[j].cells.toList) (i+1) (j+1):=by
 obtain⟨P,e1,e2,e3⟩:=h.ex
 rw [List.drop_eq_getElem_cons h1,List.filter_cons_of_pos (by simp [hd])] at e3
 have hl:i*7+l[j].cells.toList.length≤cur.size:=by rw [acc_len];omega
 refine⟨⟨P++[l[j]],by simp [e1],fun k p c hp hc=>?_,by rw [←e3];simp⟩,fun k p c hk hp hc=>?_⟩
 ·rw [splice_get _ _ _ hl]
  by_cases e:k=i
  ·subst e
   rw [List.getElem?_append_right (by omega),e1,Nat.sub_self] at hp
   have hp:l[j]=p:=by simpa using hp
   rw [if_neg (by omega),if_pos (by rw [acc_len];omega),←hp,show k*7+c - k*7=c by omega]
   simp
  ·have hk:k<i:=by
    have:=(List.getElem?_eq_some_iff.1 hp).1
    simp [e1] at this
    omega
   rw [if_pos (by omega)]
   rw [List.getElem?_append_left (by omega)] at hp
   exact e2 k p c hp hc
 ·rw [splice_get _ _ _ hl,if_neg (by omega),if_neg (by rw [acc_len];omega)]
  exact h.rest k p c (by omega) hp hc
theorem DelA.done (h:DelA d l cur i j) (h1:j=l.length):(l.filter fun a=>!d a).length=i∧AccRow cur (l.filter fun a=>!d a):=by
 obtain⟨P,e1,e2,e3⟩:=h.ex
 rw [h1,List.drop_length,List.filter_nil,List.append_nil] at e3
 rw [←e3]
 exact⟨e1,e2⟩
theorem DelA.start (h1:AccRow cur l) (h2:∀ i u,i<j→l[i]? = some u→d u=false) {x:Acc} (h3:l[j]? = some x) (h4:d x=true):DelA d l cur j (j+1):=by
 have hj:j<l.length:=(List.getElem?_eq_some_iff.1 h3).1
 refine⟨⟨l.take j,by simp;omega,fun k p c hp hc=>?_,filter_take d j l h2 ⟨x,h3,h4⟩⟩,fun k p c _ hp hc=>h1 k p c hp hc⟩
 rw [List.getElem?_take] at hp
 split at hp
 ·exact h1 k p c hp hc
 ·cases hp
theorem DelA.at (h:DelA d l cur i j) (h1:j<l.length) (hs:l.length*7≤cur.size):cur.extract (j*7) (j*7+7)=l[j].cells:=by
 have hr:=fun c=>h.rest j _ c (Nat.le_refl _) (List.getElem?_eq_getElem h1)
 apply Array.ext_getElem?
 intro c
 rw [Array.getElem?_extract]
 by_cases hc:c<7
 ·rw [if_pos (by omega),hr c hc]
 ·rw [if_neg (by omega),Array.getElem?_eq_none (by rw [acc_size];omega)]
end
theorem filter_all {α:Type} (d:α→Bool) (l:List α) (h:∀ u∈l,d u=false):(l.filter fun u=>!d u)=l:=by
 rw [List.filter_eq_self]
 intro u hu
 rw [h u hu]
 rfl
theorem back2_clc (a:Acc) (g:Nat) (seq:Int) (w:World) (hg:w.cell? ⟨g,0,none⟩=some (.int .i64 seq)) (hgl:g<w.heap.size) :
  Calls Try.prog 62 #[.agg a.cells, .pointer (some ⟨g,0,none⟩)] w fun e w'=>e = .returned (.bool (decide (seq≤a.seq)))∧Below w.heap.size w w':=back2_cl a g seq w hg hgl
theorem back2_del (A:Option Addr) (cap B:Nat) (l:List Acc) (seq:Int) (gs:Nat) (w:World) (hl:l.length≤1000) (hA:w.ownsRow B 82 7 (.slice A l.length cap) l.length (accsV l)) (hg:Blk w gs 3 #[.int .i64 seq]) :
  Calls Try.prog 22 #[.slice A l.length cap, .func (.func 62) #[] #[.pointer (some ⟨gs,0,none⟩)]] w
   fun e w'=>e = .returned (.slice A (l.filter fun a=>!decide (seq≤a.seq)).length cap)∧w.grownBy w' (Value.slice A l.length cap).ownBlock∧w'.ownsRow B 82 7 (.slice A (l.filter fun a=>!decide (seq≤a.seq)).length cap) (l.filter fun a=>!decide (seq≤a.seq)).length (accsV (l.filter fun a=>!decide (seq≤a.seq))):=by
 have hS:=AccsAt.own hA
 have CI:=Lib.hid (back2_idx A cap l seq gs w (by omega) hS (hg.cell 0) hg.lt)
 clear hS
 rcases idxP_cases (fun a:Acc=>decide (seq≤a.seq)) l 0 with⟨h1,h2⟩ | ⟨i0,x,h1,h2,h3,h4⟩
 ·have h1:idxP (fun a:Acc=>decide (seq≤a.seq)) l (0:Int) = -1:=h1
  rw [h1] at CI
  rw [filter_all (fun a:Acc=>decide (seq≤a.seq)) l h2]
  have HA:=Lib.hid hA
  clear hA hg h1 h2
  go_enter Try.func22,Try.ntmps22
  go_wp2_with(go_at_call 47;(with_reducible refine CI.out.mono ?_);rintro e w2 ⟨rfl,hb2⟩)
  go_ret
  exact⟨rfl,below_row hb2 _,HA.out.kept (below_grownBy hb2) (Classical.em _)⟩
 ·have h1:idxP (fun a:Acc=>decide (seq≤a.seq)) l (0:Int)=(i0:Int):=by
   have h1:idxP (fun a:Acc=>decide (seq≤a.seq)) l (0:Int)=((0+i0:Nat):Int):=h1
   rw [h1,Nat.zero_add]
  rw [h1] at CI
  have hi0:i0<l.length:=(List.getElem?_eq_some_iff.1 h2).1
  rcases hA.2 with⟨hv,hz⟩ | ⟨go,cap',cur0,hv,hb,hB,q1,q2,q3,q4⟩
  ·omega
  injection hv with hv1 _ hv2
  subst hv1 hv2
  have hB:Blk w go 82 cur0:=hB
  have HS:Hid (DelA (fun a=>decide (seq≤a.seq)) l cur0 i0 (i0+1)):=Lib.hid (DelA.start (AccRow.of q4) h4 h2 h3)
  have hne:gs≠go:=blk_other hg hB (by decide)
  unfold maxLen at q2
  obtain⟨N,hN⟩:∃ N,N=l.length:=⟨_,rfl⟩
  rw [←hN] at hl q1 CI hi0 ⊢
  have HN:=Lib.hid hN
  have HB:=Lib.hid hB
  have HG:=Lib.hid hg
  have h30:((i0:Int) == -1)=false:=by simp
  clear h1 h2 h3 h4 q4 hB hg hA hN
  go_enter Try.func22,Try.ntmps22
  go_wp2_with(go_at_call 47;(with_reducible refine CI.out.mono ?_);rintro e w2 ⟨rfl,hb2⟩)
  go_loopw [5,6] (fun v5 v6 wr=>∃ (i j:Nat) (cur:Array Value),v5 = .int .i64 i∧v6 = .int .i64 j∧i<j∧j≤N∧w.grownBy wr (some go)∧Hid (Blk wr go 82 cur)∧cur.size=cur0.size∧Hid (DelA (fun a=>decide (seq≤a.seq)) l cur i j)) (fun _ v _=>N+1 - (intOf v).toNat)
  case atStart=>exact⟨i0,i0+1,cur0,rfl,by go_num,by omega,by omega,below_row hb2 _,Lib.hid (HB.out.ext hb2),rfl,HS⟩
  case round=>
   clear HS HB CI
   obtain⟨i,j,cur,rfl,rfl,hij,hj,hgr,HB,hsz,HD⟩:=hrel
   by_cases hlt:j<N
   ·have hju:j<l.length:=by rw [←HN.out];exact hlt
    have hszN:l.length*7≤cur.size:=by rw [hsz,q3,←HN.out];omega
    have hgr':Blk wr gs 3 #[.int .i64 seq]:=HG.out.grown hgr (by simpa using hne)
    have zgo:=HB.out.lt
    have hkp:=HD.out.keep hju
    have hsk:=HD.out.skip hju
    have he:=HD.out.at hju hszN
    have hszj:j*7+7≤cur.size:=by omega
    generalize l[j]'hju=a at *
    have HE:=Lib.hid he
    have CP:=Lib.hid (fun W h1 h2=>back2_clc a gs seq W h1 h2)
    have HG':=Lib.hid hgr'
    clear he hgr'
    by_cases hs:seq≤a.seq
    ·have Hd:=Lib.hid (hsk (decide_eq_true hs))
     rw [decide_eq_true hs] at CP
     clear hkp hsk hs HD
     go_wp2_with(first
      |(refine wpList_load_blk rfl 82 _ rfl go _ rfl 82 cur 7 _ HB.out Try.underlying82 rfl cacc_info7 (by omega) ?_;rw [HE.out])
      |(refine wpList_store_all rfl 82 _ _ rfl wr.heap.size a.cells rfl rfl 82 _ (Blk.new wr _ _) (cacc_info a) rfl (acc_one a) ?_;intro w3 hB3 hg3;have hb13:Below wr.heap.size wr w3:=below_grown ((Below.refl _ _).alloc (Nat.le_refl _) _) hg3 (by simp) (Nat.le_refl _))
      |(refine wpList_load_all rfl 82 _ rfl wr.heap.size rfl 82 a.cells _ hB4 Try.underlying82 rfl (cacc_info a) ?_)
      |(refine wpList_load_all rfl 82 _ rfl wr.heap.size rfl 82 a.cells _ hB3 Try.underlying82 rfl (cacc_info a) ?_)
      |(go_at_call 62;(with_reducible refine(CP.out _ ((HG'.out.ext hb13).cell 0) (HG'.out.ext hb13).lt).mono ?_);rintro e w4 ⟨rfl,hb4⟩;have hB4:=hB3.ext hb4;have hb14:=hb13.trans (hb4.mono hb13.size))
      |(refine wpList_store_blk rfl 82 _ _ rfl go (i*7) a.cells rfl rfl 82 cur (HB.out.ext hb14) (cacc_info a) (by rw [acc_size];omega) (acc_one a) ?_;intro w5 hB5 hg5))
     go_roundw
     case rel=>exact⟨i,j+1,cur,rfl,by go_num,by omega,by omega,hgr.trans (below_row hb14 _),Lib.hid (HB.out.ext hb14),hsz,Hd⟩
     case measure=>simp [intOf];omega
    ·have Hd:=Lib.hid (hkp (decide_eq_false hs) hij hszN)
     rw [decide_eq_false hs] at CP
     clear hkp hsk hs HD
     have hszi:i*7+7≤cur.size:=by omega
     go_wp2_with(first
      |(refine wpList_load_blk rfl 82 _ rfl go _ rfl 82 cur 7 _ HB.out Try.underlying82 rfl cacc_info7 (by omega) ?_;rw [HE.out])
      |(refine wpList_store_all rfl 82 _ _ rfl wr.heap.size a.cells rfl rfl 82 _ (Blk.new wr _ _) (cacc_info a) rfl (acc_one a) ?_;intro w3 hB3 hg3;have hb13:Below wr.heap.size wr w3:=below_grown ((Below.refl _ _).alloc (Nat.le_refl _) _) hg3 (by simp) (Nat.le_refl _))
      |(refine wpList_load_all rfl 82 _ rfl wr.heap.size rfl 82 a.cells _ hB4 Try.underlying82 rfl (cacc_info a) ?_)
      |(refine wpList_load_all rfl 82 _ rfl wr.heap.size rfl 82 a.cells _ hB3 Try.underlying82 rfl (cacc_info a) ?_)
      |(go_at_call 62;(with_reducible refine(CP.out _ ((HG'.out.ext hb13).cell 0) (HG'.out.ext hb13).lt).mono ?_);rintro e w4 ⟨rfl,hb4⟩;have hB4:=hB3.ext hb4;have hb14:=hb13.trans (hb4.mono hb13.size))
      |(refine wpList_store_blk rfl 82 _ _ rfl go (i*7) a.cells rfl rfl 82 cur (HB.out.ext hb14) (cacc_info a) (by rw [acc_size];omega) (acc_one a) ?_;intro w5 hB5 hg5))
     go_roundw
     case rel=>exact⟨i+1,j+1,_,by go_num,by go_num,by omega,by omega,(hgr.trans (below_row hb14 _)).trans hg5,Lib.hid hB5,by rw [splice_size _ _ _ (by rw [acc_len];omega)];exact hsz,Hd⟩
     case measure=>simp [intOf];omega
   ·obtain rfl:j=N:=by omega
    have e1:decide ((j:Int)<j)=false:=by simp
    obtain⟨hkl,hkc⟩:=HD.out.done HN.out
    have b1:(0:Int)≤i:=by omega
    have b2:(i:Int)≤j:=by omega
    have b3:(j:Int)≤cap:=by omega
    have b4:(i:Int)≤cap:=by omega
    have hzs:(Builtin.zeroCells (Value.agg #[.int .i64 0, .bool false, .bool false, .int .u32 0, .int .i64 0, .int .u32 0, .bool false]).cells (j - i)).toList.length=(j - i)*7:=by
     rw [Array.length_toList,zeroCells_size]
     rfl
    have hcl:∀ ty,(Builtin.clear_ #[58] ty #[.slice (some ⟨go,i*7,none⟩) (j - i) (cap - i)]).run Try.prog wr = .ok (.tuple #[]) (wr.setRow go (splice cur (i*7) (Builtin.zeroCells (Value.agg #[.int .i64 0, .bool false, .bool false, .int .u32 0, .int .i64 0, .int .u32 0, .bool false]).cells (j - i)).toList)):=
     fun ty=>run_clear_blk wr _ _ ty _ rfl acc_zero go (i*7) (j - i) (cap - i) (by omega) 82 cur HB.out (zeroCells_one (by simp [Value.cells,Value.oneCell']) _) (by rw [←Array.length_toList,hzs,hsz,q3];omega)
    generalize (Builtin.zeroCells (Value.agg #[.int .i64 0, .bool false, .bool false, .int .u32 0, .int .i64 0, .int .u32 0, .bool false]).cells (j - i)).toList=Z at hzs hcl
    have HR:=Lib.hid (show w.grownBy (wr.setRow go (splice cur (i*7) Z)) (some go)∧(wr.setRow go (splice cur (i*7) Z)).ownsRow B 82 7 (.slice (some ⟨go,0,none⟩) (l.filter fun a=>!decide (seq≤a.seq)).length cap) (l.filter fun a=>!decide (seq≤a.seq)).length (accsV (l.filter fun a=>!decide (seq≤a.seq))) by
     refine⟨hgr.trans (grownBy_setRow _ _ _),accsV_len _,Or.inr ⟨go,cap,_,rfl,hb,HB.out.setRow _,by omega,by unfold maxLen;omega,by rw [splice_size _ _ _ (by omega)];omega,AccRow.take (fun k a c hk hc=>?_)⟩⟩
     have hki:k<i:=by rw [←hkl];exact(List.getElem?_eq_some_iff.1 hk).1
     rw [splice_get _ _ _ (by omega),if_pos (by omega)]
     exact hkc k a c hk hc)
    generalize wr.setRow go (splice cur (i*7) Z)=w9 at hcl HR
    have HKL:=Lib.hid hkl
    clear hkl hkc HB HD HG HN
    go_wp2_with(fail)
    go_ret
    exact⟨by rw [HKL.out];rfl,HR.out.1,HR.out.2⟩
theorem gone1_clc (a:Acc) (g:Nat) (seq:Int) (w:World) (hg:w.cell? ⟨g,0,none⟩=some (.int .i64 seq)) (hgl:g<w.heap.size) :
  Calls Try.prog 23 #[.agg a.cells, .pointer (some ⟨g,0,none⟩)] w fun e w'=>e = .returned (.bool (decide (a.seq=seq)))∧Below w.heap.size w w':=gone1_cl a g seq w hg hgl
theorem gone1_del (A:Option Addr) (cap B:Nat) (l:List Acc) (seq:Int) (gs:Nat) (w:World) (hl:l.length≤1000) (hA:w.ownsRow B 82 7 (.slice A l.length cap) l.length (accsV l)) (hg:Blk w gs 3 #[.int .i64 seq]) :
  Calls Try.prog 22 #[.slice A l.length cap, .func (.func 23) #[] #[.pointer (some ⟨gs,0,none⟩)]] w
   fun e w'=>e = .returned (.slice A (l.filter fun a=>!decide (a.seq=seq)).length cap)∧w.grownBy w' (Value.slice A l.length cap).ownBlock∧w'.ownsRow B 82 7 (.slice A (l.filter fun a=>!decide (a.seq=seq)).length cap) (l.filter fun a=>!decide (a.seq=seq)).length (accsV (l.filter fun a=>!decide (a.seq=seq))):=by
 have hS:=AccsAt.own hA
 have CI:=Lib.hid (gone1_idx A cap l seq gs w (by omega) hS (hg.cell 0) hg.lt)
 clear hS
 rcases idxP_cases (fun a:Acc=>decide (a.seq=seq)) l 0 with⟨h1,h2⟩ | ⟨i0,x,h1,h2,h3,h4⟩
 ·have h1:idxP (fun a:Acc=>decide (a.seq=seq)) l (0:Int) = -1:=h1
  rw [h1] at CI
  rw [filter_all (fun a:Acc=>decide (a.seq=seq)) l h2]
  have HA:=Lib.hid hA
  clear hA hg h1 h2
  go_enter Try.func22,Try.ntmps22
  go_wp2_with(go_at_call 47;(with_reducible refine CI.out.mono ?_);rintro e w2 ⟨rfl,hb2⟩)
  go_ret
  exact⟨rfl,below_row hb2 _,HA.out.kept (below_grownBy hb2) (Classical.em _)⟩
 ·have h1:idxP (fun a:Acc=>decide (a.seq=seq)) l (0:Int)=(i0:Int):=by
   have h1:idxP (fun a:Acc=>decide (a.seq=seq)) l (0:Int)=((0+i0:Nat):Int):=h1
   rw [h1,Nat.zero_add]
  rw [h1] at CI
  have hi0:i0<l.length:=(List.getElem?_eq_some_iff.1 h2).1
  rcases hA.2 with⟨hv,hz⟩ | ⟨go,cap',cur0,hv,hb,hB,q1,q2,q3,q4⟩
  ·omega
  injection hv with hv1 _ hv2
  subst hv1 hv2
  have hB:Blk w go 82 cur0:=hB
  have HS:Hid (DelA (fun a=>decide (a.seq=seq)) l cur0 i0 (i0+1)):=Lib.hid (DelA.start (AccRow.of q4) h4 h2 h3)
  have hne:gs≠go:=blk_other hg hB (by decide)
  unfold maxLen at q2
  obtain⟨N,hN⟩:∃ N,N=l.length:=⟨_,rfl⟩
  rw [←hN] at hl q1 CI hi0 ⊢
  have HN:=Lib.hid hN
  have HB:=Lib.hid hB
  have HG:=Lib.hid hg
  have h30:((i0:Int) == -1)=false:=by simp
  clear h1 h2 h3 h4 q4 hB hg hA hN
  go_enter Try.func22,Try.ntmps22
  go_wp2_with(go_at_call 47;(with_reducible refine CI.out.mono ?_);rintro e w2 ⟨rfl,hb2⟩)
  go_loopw [5,6] (fun v5 v6 wr=>∃ (i j:Nat) (cur:Array Value),v5 = .int .i64 i∧v6 = .int .i64 j∧i<j∧j≤N∧w.grownBy wr (some go)∧Hid (Blk wr go 82 cur)∧cur.size=cur0.size∧Hid (DelA (fun a=>decide (a.seq=seq)) l cur i j)) (fun _ v _=>N+1 - (intOf v).toNat)
  case atStart=>exact⟨i0,i0+1,cur0,rfl,by go_num,by omega,by omega,below_row hb2 _,Lib.hid (HB.out.ext hb2),rfl,HS⟩
  case round=>
   clear HS HB CI
   obtain⟨i,j,cur,rfl,rfl,hij,hj,hgr,HB,hsz,HD⟩:=hrel
   by_cases hlt:j<N
   ·have hju:j<l.length:=by rw [←HN.out];exact hlt
    have hszN:l.length*7≤cur.size:=by rw [hsz,q3,←HN.out];omega
    have hgr':Blk wr gs 3 #[.int .i64 seq]:=HG.out.grown hgr (by simpa using hne)
    have zgo:=HB.out.lt
    have hkp:=HD.out.keep hju
    have hsk:=HD.out.skip hju
    have he:=HD.out.at hju hszN
    have hszj:j*7+7≤cur.size:=by omega
    generalize l[j]'hju=a at *
    have HE:=Lib.hid he
    have CP:=Lib.hid (fun W h1 h2=>gone1_clc a gs seq W h1 h2)
    have HG':=Lib.hid hgr'
    clear he hgr'
    by_cases hs:a.seq=seq
    ·have Hd:=Lib.hid (hsk (decide_eq_true hs))
     rw [decide_eq_true hs] at CP
     clear hkp hsk hs HD
     go_wp2_with(first
      |(refine wpList_load_blk rfl 82 _ rfl go _ rfl 82 cur 7 _ HB.out Try.underlying82 rfl cacc_info7 (by omega) ?_;rw [HE.out])
      |(refine wpList_store_all rfl 82 _ _ rfl wr.heap.size a.cells rfl rfl 82 _ (Blk.new wr _ _) (cacc_info a) rfl (acc_one a) ?_;intro w3 hB3 hg3;have hb13:Below wr.heap.size wr w3:=below_grown ((Below.refl _ _).alloc (Nat.le_refl _) _) hg3 (by simp) (Nat.le_refl _))
      |(refine wpList_load_all rfl 82 _ rfl wr.heap.size rfl 82 a.cells _ hB4 Try.underlying82 rfl (cacc_info a) ?_)
      |(refine wpList_load_all rfl 82 _ rfl wr.heap.size rfl 82 a.cells _ hB3 Try.underlying82 rfl (cacc_info a) ?_)
      |(go_at_call 23;(with_reducible refine(CP.out _ ((HG'.out.ext hb13).cell 0) (HG'.out.ext hb13).lt).mono ?_);rintro e w4 ⟨rfl,hb4⟩;have hB4:=hB3.ext hb4;have hb14:=hb13.trans (hb4.mono hb13.size))
      |(refine wpList_store_blk rfl 82 _ _ rfl go (i*7) a.cells rfl rfl 82 cur (HB.out.ext hb14) (cacc_info a) (by rw [acc_size];omega) (acc_one a) ?_;intro w5 hB5 hg5))
     go_roundw
     case rel=>exact⟨i,j+1,cur,rfl,by go_num,by omega,by omega,hgr.trans (below_row hb14 _),Lib.hid (HB.out.ext hb14),hsz,Hd⟩
     case measure=>simp [intOf];omega
    ·have Hd:=Lib.hid (hkp (decide_eq_false hs) hij hszN)
     rw [decide_eq_false hs] at CP
     clear hkp hsk hs HD
     have hszi:i*7+7≤cur.size:=by omega
     go_wp2_with(first
      |(refine wpList_load_blk rfl 82 _ rfl go _ rfl 82 cur 7 _ HB.out Try.underlying82 rfl cacc_info7 (by omega) ?_;rw [HE.out])
      |(refine wpList_store_all rfl 82 _ _ rfl wr.heap.size a.cells rfl rfl 82 _ (Blk.new wr _ _) (cacc_info a) rfl (acc_one a) ?_;intro w3 hB3 hg3;have hb13:Below wr.heap.size wr w3:=below_grown ((Below.refl _ _).alloc (Nat.le_refl _) _) hg3 (by simp) (Nat.le_refl _))
      |(refine wpList_load_all rfl 82 _ rfl wr.heap.size rfl 82 a.cells _ hB4 Try.underlying82 rfl (cacc_info a) ?_)
      |(refine wpList_load_all rfl 82 _ rfl wr.heap.size rfl 82 a.cells _ hB3 Try.underlying82 rfl (cacc_info a) ?_)
      |(go_at_call 23;(with_reducible refine(CP.out _ ((HG'.out.ext hb13).cell 0) (HG'.out.ext hb13).lt).mono ?_);rintro e w4 ⟨rfl,hb4⟩;have hB4:=hB3.ext hb4;have hb14:=hb13.trans (hb4.mono hb13.size))
      |(refine wpList_store_blk rfl 82 _ _ rfl go (i*7) a.cells rfl rfl 82 cur (HB.out.ext hb14) (cacc_info a) (by rw [acc_size];omega) (acc_one a) ?_;intro w5 hB5 hg5))
     go_roundw
     case rel=>exact⟨i+1,j+1,_,by go_num,by go_num,by omega,by omega,(hgr.trans (below_row hb14 _)).trans hg5,Lib.hid hB5,by rw [splice_size _ _ _ (by rw [acc_len];omega)];exact hsz,Hd⟩
     case measure=>simp [intOf];omega
   ·obtain rfl:j=N:=by omega
    have e1:decide ((j:Int)<j)=false:=by simp
    obtain⟨hkl,hkc⟩:=HD.out.done HN.out
    have b1:(0:Int)≤i:=by omega
    have b2:(i:Int)≤j:=by omega
    have b3:(j:Int)≤cap:=by omega
    have b4:(i:Int)≤cap:=by omega
    have hzs:(Builtin.zeroCells (Value.agg #[.int .i64 0, .bool false, .bool false, .int .u32 0, .int .i64 0, .int .u32 0, .bool false]).cells (j - i)).toList.length=(j - i)*7:=by
     rw [Array.length_toList,zeroCells_size]
     rfl
    have hcl:∀ ty,(Builtin.clear_ #[58] ty #[.slice (some ⟨go,i*7,none⟩) (j - i) (cap - i)]).run Try.prog wr = .ok (.tuple #[]) (wr.setRow go (splice cur (i*7) (Builtin.zeroCells (Value.agg #[.int .i64 0, .bool false, .bool false, .int .u32 0, .int .i64 0, .int .u32 0, .bool false]).cells (j - i)).toList)):=
     fun ty=>run_clear_blk wr _ _ ty _ rfl acc_zero go (i*7) (j - i) (cap - i) (by omega) 82 cur HB.out (zeroCells_one (by simp [Value.cells,Value.oneCell']) _) (by rw [←Array.length_toList,hzs,hsz,q3];omega)
    generalize (Builtin.zeroCells (Value.agg #[.int .i64 0, .bool false, .bool false, .int .u32 0, .int .i64 0, .int .u32 0, .bool false]).cells (j - i)).toList=Z at hzs hcl
    have HR:=Lib.hid (show w.grownBy (wr.setRow go (splice cur (i*7) Z)) (some go)∧(wr.setRow go (splice cur (i*7) Z)).ownsRow B 82 7 (.slice (some ⟨go,0,none⟩) (l.filter fun a=>!decide (a.seq=seq)).length cap) (l.filter fun a=>!decide (a.seq=seq)).length (accsV (l.filter fun a=>!decide (a.seq=seq))) by
     refine⟨hgr.trans (grownBy_setRow _ _ _),accsV_len _,Or.inr ⟨go,cap,_,rfl,hb,HB.out.setRow _,by omega,by unfold maxLen;omega,by rw [splice_size _ _ _ (by omega)];omega,AccRow.take (fun k a c hk hc=>?_)⟩⟩
     have hki:k<i:=by rw [←hkl];exact(List.getElem?_eq_some_iff.1 hk).1
     rw [splice_get _ _ _ (by omega),if_pos (by omega)]
     exact hkc k a c hk hc)
    generalize wr.setRow go (splice cur (i*7) Z)=w9 at hcl HR
    have HKL:=Lib.hid hkl
    clear hkl hkc HB HD HG HN
    go_wp2_with(fail)
    go_ret
    exact⟨by rw [HKL.out];rfl,HR.out.1,HR.out.2⟩
end Go.Proofs.Ytapgojgcmlnbgac
