/- Parts of a proof. -/
import Derived.Test.YtapgojgcmlnbgacK31
set_option linter.unusedSimpArgs false
set_option linter.unusedVariables false
set_option maxRecDepth 100000
set_option maxHeartbeats 16000000
namespace Go.Proofs.Ytapgojgcmlnbgac
open Go.RowKit
def keepBy (d:Uop→Bool):List Uop→List Nat→List Nat
 |u::us,p::ps=>if d u=true then keepBy d us ps else p::keepBy d us ps
 |_,_=>[]
theorem keepBy_nil (d:Uop→Bool) (ps:List Nat):keepBy d [] ps=[]:=by cases ps<;>rfl
theorem keepBy_len (d:Uop→Bool):∀ (us:List Uop) (ps:List Nat),ps.length=us.length→(keepBy d us ps).length=(us.filter fun u=>!d u).length
 |[],ps,_=>by rw [keepBy_nil];rfl
 |u::us,[],h=>by cases h
 |u::us,p::ps,h=>by
  have ih:=keepBy_len d us ps (by simpa using h)
  unfold keepBy
  cases hd:d u<;>simp [hd,ih]
theorem keepBy_mem (d:Uop→Bool):∀ (us:List Uop) (ps:List Nat) (p:Nat),p∈keepBy d us ps→p∈ps
 |[],ps,p,h=>by rw [keepBy_nil] at h;cases h
 |u::us,[],p,h=>by cases h
 |u::us,q::ps,p,h=>by
  have ih:=keepBy_mem d us ps p
  unfold keepBy at h
  split at h
  ·exact List.mem_cons_of_mem _ (ih h)
  ·rcases List.mem_cons.1 h with rfl | h
   ·exact List.mem_cons_self
   ·exact List.mem_cons_of_mem _ (ih h)
theorem keepBy_nodup (d:Uop→Bool):∀ (us:List Uop) (ps:List Nat),ps.Nodup→(keepBy d us ps).Nodup
 |[],ps,_=>by rw [keepBy_nil];exact List.nodup_nil
 |u::us,[],_=>List.nodup_nil
 |u::us,q::ps,h=>by
  rw [List.nodup_cons] at h
  unfold keepBy
  split
  ·exact keepBy_nodup d us ps h.2
  ·exact List.nodup_cons.2 ⟨fun hm=>h.1 (keepBy_mem d us ps q hm),keepBy_nodup d us ps h.2⟩
theorem keepBy_at (d:Uop→Bool):∀ (us:List Uop) (ps:List Nat),ps.length=us.length→∀ (k:Nat) (u:Uop) (p:Nat),(us.filter fun u=>!d u)[k]? = some u→(keepBy d us ps)[k]? = some p→∃ i:Nat,us[i]? = some u∧ps[i]? = some p
 |[],_,_,k,u,p,h,_=>by simp at h
 |v::us,[],h,_,_,_,_,_=>by cases h
 |v::us,q::ps,hl,k,u,p,h1,h2=>by
  have ih:=keepBy_at d us ps (by simpa using hl)
  unfold keepBy at h2
  cases hd:d v with
  |true=>
   rw [if_pos hd] at h2
   rw [List.filter_cons_of_neg (by simp [hd])] at h1
   obtain⟨i,e1,e2⟩:=ih k u p h1 h2
   exact⟨i+1,by simpa using e1,by simpa using e2⟩
  |false=>
   rw [if_neg (by rw [hd];decide)] at h2
   rw [List.filter_cons_of_pos (by simp [hd])] at h1
   cases k with
   |zero=>exact⟨0,by simpa using h1,by simpa using h2⟩
   |succ k=>
    obtain⟨i,e1,e2⟩:=ih k u p (by simpa using h1) (by simpa using h2)
    exact⟨i+1,by simpa using e1,by simpa using e2⟩
theorem keepBy_same (d:Uop→Bool):∀ (k:Nat) (us:List Uop) (ps:List Nat),(∀ i u,i≤k→us[i]? = some u→d u=false)→ps.length=us.length→(keepBy d us ps)[k]? = ps[k]? ∧ (us.filter fun u=>!d u)[k]? = us[k]?
 |_,[],ps,_,hl=>by cases ps with
  |nil=>exact⟨by rw [keepBy_nil],rfl⟩
  |cons _ _=>cases hl
 |_,_::_,[],_,hl=>by cases hl
 |k,u::us,p::ps,h,hl=>by
  have hd:d u=false:=h 0 u (by omega) rfl
  unfold keepBy
  rw [if_neg (by rw [hd];decide),List.filter_cons_of_pos (by simp [hd])]
  cases k with
  |zero=>exact⟨rfl,rfl⟩
  |succ k=>
   have ih:=keepBy_same d k us ps (fun i v hi hv=>h (i+1) v (by omega) (by simpa using hv)) (by simpa using hl)
   exact⟨by simpa using ih.1,by simpa using ih.2⟩
theorem keepBy_none (d:Uop→Bool):∀ (us:List Uop) (ps:List Nat),(∀ u∈us,d u=false)→ps.length=us.length→keepBy d us ps=ps∧(us.filter fun u=>!d u)=us
 |[],ps,_,hl=>by cases ps with
  |nil=>exact⟨by rw [keepBy_nil],rfl⟩
  |cons _ _=>cases hl
 |_::_,[],_,hl=>by cases hl
 |u::us,p::ps,h,hl=>by
  have hd:d u=false:=h u (by simp)
  have ih:=keepBy_none d us ps (fun v hv=>h v (by simp [hv])) (by simpa using hl)
  unfold keepBy
  rw [if_neg (by rw [hd];decide),List.filter_cons_of_pos (by simp [hd]),ih.1,ih.2]
  exact⟨rfl,rfl⟩
theorem keepBy_take (d:Uop→Bool):∀ (j:Nat) (us:List Uop) (ps:List Nat),(∀ i u,i<j→us[i]? = some u→d u=false)→ps.length=us.length→(∃ u,us[j]? = some u∧d u=true)→ps.take j++keepBy d (us.drop (j+1)) (ps.drop (j+1))=keepBy d us ps
 |_,[],_,_,_,h=>by obtain⟨u,h,_⟩:=h;simp at h
 |_,_::_,[],_,hl,_=>by cases hl
 |j,u::us,p::ps,h,hl,hj=>by
  cases j with
  |zero=>
   obtain⟨v,e,hv⟩:=hj
   have e:u=v:=by simpa using e
   subst e
   show []++keepBy d us ps=keepBy d (u::us) (p::ps)
   rw [keepBy,if_pos hv,List.nil_append]
  |succ j=>
   have hd:d u=false:=h 0 u (by omega) rfl
   have ih:=keepBy_take d j us ps (fun i v hi hv=>h (i+1) v (by omega) (by simpa using hv)) (by simpa using hl) (by simpa using hj)
   show p::(ps.take j++keepBy d (us.drop (j+1)) (ps.drop (j+1)))=_
   rw [keepBy,if_neg (by rw [hd];decide),ih]
theorem keepBy_drop (d:Uop→Bool) {us:List Uop} {ps:List Nat} {j:Nat} (h1:j<us.length) (h2:j<ps.length):keepBy d (us.drop j) (ps.drop j)=if d us[j]=true then keepBy d (us.drop (j+1)) (ps.drop (j+1)) else ps[j]::keepBy d (us.drop (j+1)) (ps.drop (j+1)):=by
 rw [List.drop_eq_getElem_cons h1,List.drop_eq_getElem_cons h2]
 rfl
theorem UopsAt.keep {w:World} {B:Nat} {us:List Uop} {ps:List Nat} (h:UopsAt w B us ps) (d:Uop→Bool):UopsAt w B (us.filter fun u=>!d u) (keepBy d us ps):=
 ⟨keepBy_len d us ps h.len,fun k u p h1 h2=>by
  obtain⟨i,e1,e2⟩:=keepBy_at d us ps h.len k u p h1 h2
  exact h.at_ i u p e1 e2,keepBy_nodup d us ps h.nodup⟩
theorem filter_take {α:Type} (d:α→Bool):∀ (j:Nat) (l:List α),(∀ i u,i<j→l[i]? = some u→d u=false)→(∃ u,l[j]? = some u∧d u=true)→l.take j++(l.drop (j+1)).filter (fun u=>!d u)=l.filter fun u=>!d u
 |_,[],_,h=>by obtain⟨u,h,_⟩:=h;simp at h
 |j,u::us,h,hj=>by
  cases j with
  |zero=>
   obtain⟨v,e,hv⟩:=hj
   have e:u=v:=by simpa using e
   subst e
   rw [List.filter_cons_of_neg (by simp [hv])]
   rfl
  |succ j=>
   have hd:d u=false:=h 0 u (by omega) rfl
   have ih:=filter_take d j us (fun i v hi hv=>h (i+1) v (by omega) (by simpa using hv)) (by simpa using hj)
   rw [List.filter_cons_of_pos (by simp [hd]),←ih]
   rfl
theorem run_clear_blk {P:Program} (w:World) (t e ty:TypeId) (z:Value) (ht:P.underlying t=some (.slice e)) (hv:∀ w,(zeroValue e).run P w = .ok z w) (b o n c:Nat) (hn:0<n) (t':TypeId) (old:Array Value) (hB:Blk w b t' old)
  (hz:∀ v∈(Builtin.zeroCells z.cells n).toList,v.oneCell'=true) (hs:o+(Builtin.zeroCells z.cells n).size≤old.size) :
  (Builtin.clear_ #[t] ty #[.slice (some ⟨b,o,none⟩) n c]).run P w = .ok (.tuple #[]) (w.setRow b (splice old o (Builtin.zeroCells z.cells n).toList)):=by
 have hst:=run_storeCells_at P b o t' (Builtin.zeroCells z.cells n).toList 0 old w hB (by simpa using hs) hz
 simp only [Nat.add_zero] at hst
 obtain⟨m,rfl⟩:∃ m,n=m+1:=⟨n - 1,by omega⟩
 simp [Builtin.clear_,run_underlying ht,hv,hst,splice]
theorem zeroCells_size (zc:Array Value) (n:Nat):(Builtin.zeroCells zc n).size=n*zc.size:=by simp [Builtin.zeroCells]
theorem zeroCells_one {zc:Array Value} (h:zc.all (·.oneCell')=true) (n:Nat):∀ v∈(Builtin.zeroCells zc n).toList,v.oneCell'=true:=by
 intro v hv
 simp only [Builtin.zeroCells,Array.toList_map,List.mem_map] at hv
 obtain⟨i,hi,rfl⟩:=hv
 have hi:i<n*zc.size:=by simpa using hi
 have hp:0<zc.size:=by
  rcases Nat.eq_zero_or_pos zc.size with h0 | h0
  ·rw [h0] at hi;omega
  ·exact h0
 have hm:=Nat.mod_lt i hp
 rw [getElem!_pos zc (i%zc.size) hm]
 exact(Array.all_eq_true_iff_forall_mem.1 h) _ (Array.getElem_mem hm)
theorem zero_of {P:Program} {t:TypeId} {z:Value} (h:(P.info? t).map (·.zero)=some (some z)) (w:World):(zeroValue t).run P w = .ok z w:=by
 cases hq:P.info? t with
 |none=>rw [hq] at h;cases h
 |some i=>
  rw [hq] at h
  have h:i.zero=some z:=by simpa using h
  simp [zeroValue,typeInfo,hq,h]
theorem uptr_zero (w:World):(zeroValue 66).run Try.prog w = .ok (.pointer none) w:=zero_of (by kernel_rfl) w
structure DelU (d:Uop→Bool) (us:List Uop) (ps:List Nat) (cur:Array Value) (oo i j:Nat):Prop where
 ex:∃ P:List Nat,P.length=i∧(∀ k p,P[k]? = some p→cur[oo+k]? = some (.pointer (some ⟨p,0,none⟩)))∧P++keepBy d (us.drop j) (ps.drop j)=keepBy d us ps
 rest:∀ k p,j≤k→ps[k]? = some p→cur[oo+k]? = some (.pointer (some ⟨p,0,none⟩))
section
variable {d:Uop→Bool} {us:List Uop} {ps:List Nat} {cur:Array Value} {oo i j:Nat}
theorem DelU.skip (h:DelU d us ps cur oo i j) (h1:j<us.length) (h2:j<ps.length) (hd:d us[j]=true):DelU d us ps cur oo i (j+1):=by
 obtain⟨P,e1,e2,e3⟩:=h.ex
 rw [keepBy_drop d h1 h2,if_pos hd] at e3
 exact⟨⟨P,e1,e2,e3⟩,fun k p hk hp=>h.rest k p (by omega) hp⟩
theorem DelU.keep (h:DelU d us ps cur oo i j) (h1:j<us.length) (h2:j<ps.length) (hd:d us[j]=false) (hij:i<j) (hs:oo+ps.length≤cur.size):DelU d us ps (cur.setIfInBounds (oo+i) (.pointer (some ⟨ps[j],0,none⟩))) oo (i+1) (j+1):=by
 obtain⟨P,e1,e2,e3⟩:=h.ex
 rw [keepBy_drop d h1 h2,if_neg (by rw [hd];decide)] at e3
 refine⟨⟨P++[ps[j]],by simp [e1],fun k p hp=>?_,by rw [←e3];simp⟩,fun k p hk hp=>?_⟩
 ·rw [Array.getElem?_setIfInBounds]
  by_cases e:k=i
  ·subst e
   rw [List.getElem?_append_right (by omega),e1,Nat.sub_self] at hp
   have hp:ps[j]=p:=by simpa using hp
   rw [if_pos rfl,if_pos (by omega),hp]
  ·have hk:k<i:=by
    have:=(List.getElem?_eq_some_iff.1 hp).1
    simp [e1] at this
    omega
   rw [if_neg (by omega)]
   rw [List.getElem?_append_left (by omega)] at hp
   exact e2 k p hp
 ·rw [Array.getElem?_setIfInBounds,if_neg (by omega)]
  exact h.rest k p (by omega) hp
theorem DelU.done (h:DelU d us ps cur oo i j) (h1:j=us.length):(keepBy d us ps).length=i∧∀ k p,(keepBy d us ps)[k]? = some p→cur[oo+k]? = some (.pointer (some ⟨p,0,none⟩)):=by
 obtain⟨P,e1,e2,e3⟩:=h.ex
 rw [h1,List.drop_length,keepBy_nil,List.append_nil] at e3
 rw [←e3]
 exact⟨e1,e2⟩
theorem DelU.start (hl:ps.length=us.length) (h1:∀ k p,ps[k]? = some p→cur[oo+k]? = some (.pointer (some ⟨p,0,none⟩))) (h2:∀ i u,i<j→us[i]? = some u→d u=false) {x:Uop} (h3:us[j]? = some x) (h4:d x=true):DelU d us ps cur oo j (j+1):=by
 have hj:j<us.length:=(List.getElem?_eq_some_iff.1 h3).1
 refine⟨⟨ps.take j,by simp;omega,fun k p hp=>?_,keepBy_take d j us ps h2 hl ⟨x,h3,h4⟩⟩,fun k p _ hp=>h1 k p hp⟩
 rw [List.getElem?_take] at hp
 split at hp
 ·exact h1 k p hp
 ·cases hp
end
theorem deleteU_any (A:Option Addr) (cap B:Nat) (us:List Uop) (ps:List Nat) (seq:Int) (gs:Nat) (w:World) (hl:ps.length≤1000) (hA:PtrRow w B (.slice A ps.length cap) ps) (hU:UopsAt w B us ps) (hg:Blk w gs 3 #[.int .i64 seq]) :
  Calls Try.prog 60 #[.slice A ps.length cap, .func (.func 61) #[] #[.pointer (some ⟨gs,0,none⟩)]] w
   fun e w'=>e = .returned (.slice A (keepBy (fun u=>decide (seq≤u.seq)) us ps).length cap)∧w.grownBy w' (Value.slice A ps.length cap).ownBlock∧PtrRow w' B (.slice A (keepBy (fun u=>decide (seq≤u.seq)) us ps).length cap) (keepBy (fun u=>decide (seq≤u.seq)) us ps):=by
 have CI:=Lib.hid (back1_idx A cap B us ps seq gs w (by omega) hA hU (hg.cell 0) hg.lt)
 have hul:=hU.len
 rcases idxP_cases (fun u:Uop=>decide (seq≤u.seq)) us 0 with⟨h1,h2⟩ | ⟨i0,x,h1,h2,h3,h4⟩
 ·have h1:idxP (fun u:Uop=>decide (seq≤u.seq)) us (0:Int) = -1:=h1
  rw [h1] at CI
  have hk:=(keepBy_none (fun u:Uop=>decide (seq≤u.seq)) us ps h2 hul).1
  rw [hk]
  have HA:=Lib.hid hA
  clear hA hU hg h1 h2 hk hul
  go_enter Try.func60,Try.ntmps60
  go_wp2_with(go_at_call 81;(with_reducible refine CI.out.mono ?_);rintro e w2 ⟨rfl,hb2⟩)
  go_ret
  exact⟨rfl,below_row hb2 _,HA.out.kept (below_grownBy hb2) (Classical.em _)⟩
 ·have h1:idxP (fun u:Uop=>decide (seq≤u.seq)) us (0:Int)=(i0:Int):=by
   have h1:idxP (fun u:Uop=>decide (seq≤u.seq)) us (0:Int)=((0+i0:Nat):Int):=h1
   rw [h1,Nat.zero_add]
  rw [h1] at CI
  have hi0:i0<us.length:=(List.getElem?_eq_some_iff.1 h2).1
  rcases hA with⟨hv,rfl⟩ | ⟨go,oo,cap',cur0,hv,hb,hB,q1,q2,q3,q4⟩
  ·simp at hul;omega
  injection hv with hv1 _ hv2
  subst hv1 hv2
  have HS:Hid (DelU (fun u=>decide (seq≤u.seq)) us ps cur0 oo i0 (i0+1)):=Lib.hid (DelU.start hul q4 h4 h2 h3)
  have hne:gs≠go:=blk_other hg hB (by decide)
  obtain⟨N,hN⟩:∃ N,N=ps.length:=⟨_,rfl⟩
  rw [←hN] at hl hul q1 CI ⊢
  have HN:=Lib.hid hN
  have HU:=Lib.hid hU
  have HUL:=Lib.hid hul
  have HB:=Lib.hid hB
  have HB0:=Lib.hid hB
  have HG:=Lib.hid hg
  have h30:((i0:Int) == -1)=false:=by simp
  clear h1 h2 h3 h4 q4 hB hg hU
  rw [←hul] at hi0
  clear hN hul
  go_enter Try.func60,Try.ntmps60
  go_wp2_with(go_at_call 81;(with_reducible refine CI.out.mono ?_);rintro e w2 ⟨rfl,hb2⟩)
  go_loopw [5,6] (fun v5 v6 wr=>∃ (i j:Nat) (cur:Array Value),v5 = .int .i64 i∧v6 = .int .i64 j∧i<j∧j≤N∧w.grownBy wr (some go)∧Hid (Blk wr go 66 cur)∧cur.size=cur0.size∧Hid (DelU (fun u=>decide (seq≤u.seq)) us ps cur oo i j)) (fun _ v _=>N+1 - (intOf v).toNat)
  case atStart=>exact⟨i0,i0+1,cur0,rfl,by go_num,by omega,by omega,below_row hb2 _,Lib.hid (HB.out.ext hb2),rfl,HS⟩
  case round=>
   clear HS HB CI
   obtain⟨i,j,cur,rfl,rfl,hij,hj,hgr,HB,hsz,HD⟩:=hrel
   by_cases hlt:j<N
   ·have hj2:j<ps.length:=by rw [←HN.out];exact hlt
    have hju:j<us.length:=by rw [←HUL.out];exact hlt
    have c0:=(HB.out.cell (oo+j)).trans (HD.out.rest j _ (Nat.le_refl _) (List.getElem?_eq_getElem hj2))
    have hu:=((HU.out.kept hgr (fun p hp e=>by
     obtain⟨u,hu,_⟩:=HU.out.mem hp
     injection e with e
     exact blk_other hu HB0.out (by decide) e)).at_ j _ _ (List.getElem?_eq_getElem hju) (List.getElem?_eq_getElem hj2)).1
    have hgr':Blk wr gs 3 #[.int .i64 seq]:=HG.out.grown hgr (by simpa using hne)
    have zgo:=HB.out.lt
    have hkp:=HD.out.keep hju hj2
    have hsk:=HD.out.skip hju hj2
    generalize us[j]'hju=u at *
    generalize ps[j]'hj2=q at *
    have CP:=Lib.hid (back1_cl u q gs seq wr hu (hgr'.cell 0) hgr'.lt)
    clear hu hgr'
    by_cases hs:seq≤u.seq
    ·have Hd:=Lib.hid (hsk (decide_eq_true hs))
     rw [decide_eq_true hs] at CP
     clear hkp hsk hs HD
     go_wp2_with(go_at_call 61;(with_reducible refine CP.out.mono ?_);rintro e w2 ⟨rfl,hb2⟩)
     go_roundw
     case rel=>exact⟨i,j+1,cur,rfl,by go_num,by omega,by omega,hgr.trans (below_row hb2 _),Lib.hid (HB.out.ext hb2),hsz,Hd⟩
     case measure=>simp [intOf];omega
    ·have Hd:=Lib.hid (hkp (decide_eq_false hs) hij (by rw [hsz,←HN.out];omega))
     obtain⟨xv,hxv⟩:∃ xv,cur[oo+i]? = some xv:=⟨_,Array.getElem?_eq_getElem (by omega)⟩
     rw [decide_eq_false hs] at CP
     clear hkp hsk hs HD
     go_wp2_with(go_at_call 61;(with_reducible refine CP.out.mono ?_);rintro e w2 ⟨rfl,hb2⟩;have HB2:=HB.out.ext hb2;have f2:=HB2.frozen (oo+i);have z2:=HB2.lt;have d2:=(HB2.cell (oo+i)).trans hxv;have HB3:=Lib.hid (HB2.set (oo+i) (.pointer (some ⟨q,0,none⟩)));clear HB2)
     go_roundw
     case rel=>exact⟨i+1,j+1,_,by go_num,by go_num,by omega,by omega,(hgr.trans (below_row hb2 _)).trans (grownBy_setCell _ ⟨go,oo+i,none⟩ _),HB3,by simpa using hsz,Hd⟩
     case measure=>simp [intOf];omega
   ·obtain rfl:j=N:=by omega
    have e1:decide ((j:Int)<j)=false:=by simp
    obtain⟨hkl,hkc⟩:=HD.out.done HUL.out
    have b1:(0:Int)≤i:=by omega
    have b2:(i:Int)≤j:=by omega
    have b3:(j:Int)≤cap:=by omega
    have b4:(i:Int)≤cap:=by omega
    have hzs:(Builtin.zeroCells (Value.pointer none).cells (j - i)).toList.length=j - i:=by
     rw [Array.length_toList,zeroCells_size]
     show(j - i)*1=_
     omega
    have hcl:∀ ty,(Builtin.clear_ #[57] ty #[.slice (some ⟨go,oo+i,none⟩) (j - i) (cap - i)]).run Try.prog wr = .ok (.tuple #[]) (wr.setRow go (splice cur (oo+i) (Builtin.zeroCells (Value.pointer none).cells (j - i)).toList)):=
     fun ty=>run_clear_blk wr _ _ ty _ rfl uptr_zero go (oo+i) (j - i) (cap - i) (by omega) 66 cur HB.out (zeroCells_one (by kernel_rfl) _) (by rw [←Array.length_toList,hzs,hsz];omega)
    generalize (Builtin.zeroCells (Value.pointer none).cells (j - i)).toList=Z at hzs hcl
    have HR:=Lib.hid (show w.grownBy (wr.setRow go (splice cur (oo+i) Z)) (some go)∧PtrRow (wr.setRow go (splice cur (oo+i) Z)) B (.slice (some ⟨go,oo,none⟩) (keepBy (fun u=>decide (seq≤u.seq)) us ps).length cap) (keepBy (fun u=>decide (seq≤u.seq)) us ps) by
     refine⟨hgr.trans (grownBy_setRow _ _ _),Or.inr ⟨go,oo,cap,_,rfl,hb,HB.out.setRow _,by omega,q2,by rw [splice_size _ _ _ (by omega)];omega,fun k p hp=>?_⟩⟩
     have hki:k<i:=by rw [←hkl];exact(List.getElem?_eq_some_iff.1 hp).1
     rw [splice_get _ _ _ (by omega),if_pos (by omega)]
     exact hkc k p hp)
    generalize wr.setRow go (splice cur (oo+i) Z)=w9 at hcl HR
    have HKL:=Lib.hid hkl
    clear hkl hkc HB HD HU HG HUL HN
    go_wp2_with(fail)
    go_ret
    exact⟨by rw [HKL.out];rfl,HR.out.1,HR.out.2⟩
end Go.Proofs.Ytapgojgcmlnbgac
