/- Parts of a proof. -/
import Derived.Test.YtapgojgcmlnbgacGreatK08
import Derived.Test.YtapgojgcmlnbgacGreatK00
import Derived.Test.YtapgojgcmlnbgacGreatK05
import Derived.Test.YtapgojgcmlnbgacGreatK06
import Derived.Laws.AppendOwn
set_option linter.unusedSimpArgs false
set_option linter.unusedVariables false
set_option maxRecDepth 100000
set_option maxHeartbeats 16000000
namespace Go.Proofs.YtapgojgcmlnbgacGreat
open Go.RowKit
def Cj (d:Uop→Bool):List Uop→List Nat→List Nat
 |u::us,p::ps=>if d u=true then Cj d us ps else p::Cj d us ps
 |_,_=>[]
theorem Iy (d:Uop→Bool) (ps:List Nat):Cj d [] ps=[]:=by cases ps<;>rfl
theorem Tz (d:Uop→Bool):∀ (us:List Uop) (ps:List Nat),ps.length=us.length→(Cj d us ps).length=(us.filter fun u=>!d u).length
 |[],ps,_=>by rw [Iy];rfl
 |u::us,[],h=>by cases h
 |u::us,p::ps,h=>by
  have ih:=Tz d us ps (by simpa using h)
  unfold Cj
  cases hd:d u<;>simp [hd,ih]
theorem O2 (d:Uop→Bool):∀ (us:List Uop) (ps:List Nat) (p:Nat),p∈Cj d us ps→p∈ps
 |[],ps,p,h=>by rw [Iy] at h;cases h
 |u::us,[],p,h=>by cases h
 |u::us,q::ps,p,h=>by
  have ih:=O2 d us ps p
  unfold Cj at h
  split at h
  ·exact List.mem_cons_of_mem _ (ih h)
  ·rcases List.mem_cons.1 h with rfl | h
   ·exact List.mem_cons_self
   ·exact List.mem_cons_of_mem _ (ih h)
theorem Lz (d:Uop→Bool):∀ (us:List Uop) (ps:List Nat),ps.Nodup→(Cj d us ps).Nodup
 |[],ps,_=>by rw [Iy];exact List.nodup_nil
 |u::us,[],_=>List.nodup_nil
 |u::us,q::ps,h=>by
  rw [List.nodup_cons] at h
  unfold Cj
  split
  ·exact Lz d us ps h.2
  ·exact List.nodup_cons.2 ⟨fun hm=>h.1 (O2 d us ps q hm),Lz d us ps h.2⟩
theorem V9 (d:Uop→Bool):∀ (us:List Uop) (ps:List Nat),ps.length=us.length→∀ (k:Nat) (u:Uop) (p:Nat),(us.filter fun u=>!d u)[k]? = some u→(Cj d us ps)[k]? = some p→∃ i:Nat,us[i]? = some u∧ps[i]? = some p
 |[],_,_,k,u,p,h,_=>by simp at h
 |v::us,[],h,_,_,_,_,_=>by cases h
 |v::us,q::ps,hl,k,u,p,h1,h2=>by
  have ih:=V9 d us ps (by simpa using hl)
  unfold Cj at h2
  cases hd:d v with
  |true=>
   rw [if_pos hd] at h2
   rw [List.filter_cons_of_neg (by simp [hd])] at h1
   obtain⟨i,e1,e2⟩:=ih k u p h1 h2
   exact⟨i+1,by simpa using e1,by simpa using e2⟩
  |false=>
   rw [if_neg (by rw [hd];decide)] at h2
   rw [List.filter_cons_of_pos (by simp [hd])] at h1
   cases k with
   |zero=>exact⟨0,by simpa using h1,by simpa using h2⟩
   |succ k=>
    obtain⟨i,e1,e2⟩:=ih k u p (by simpa using h1) (by simpa using h2)
    exact⟨i+1,by simpa using e1,by simpa using e2⟩
theorem Ry (d:Uop→Bool):∀ (k:Nat) (us:List Uop) (ps:List Nat),(∀ i u,i≤k→us[i]? = some u→d u=false)→ps.length=us.length→(Cj d us ps)[k]? = ps[k]? ∧ (us.filter fun u=>!d u)[k]? = us[k]?
 |_,[],ps,_,hl=>by cases ps with
  |nil=>exact⟨by rw [Iy],rfl⟩
  |cons _ _=>cases hl
 |_,_::_,[],_,hl=>by cases hl
 |k,u::us,p::ps,h,hl=>by
  have hd:d u=false:=h 0 u (by omega) rfl
  unfold Cj
  rw [if_neg (by rw [hd];decide),List.filter_cons_of_pos (by simp [hd])]
  cases k with
  |zero=>exact⟨rfl,rfl⟩
  |succ k=>
   have ih:=Ry d k us ps (fun i v hi hv=>h (i+1) v (by omega) (by simpa using hv)) (by simpa using hl)
   exact⟨by simpa using ih.1,by simpa using ih.2⟩
theorem Rx (d:Uop→Bool):∀ (us:List Uop) (ps:List Nat),(∀ u∈us,d u=false)→ps.length=us.length→Cj d us ps=ps∧(us.filter fun u=>!d u)=us
 |[],ps,_,hl=>by cases ps with
  |nil=>exact⟨by rw [Iy],rfl⟩
  |cons _ _=>cases hl
 |_::_,[],_,hl=>by cases hl
 |u::us,p::ps,h,hl=>by
  have hd:d u=false:=h u (by simp)
  have ih:=Rx d us ps (fun v hv=>h v (by simp [hv])) (by simpa using hl)
  unfold Cj
  rw [if_neg (by rw [hd];decide),List.filter_cons_of_pos (by simp [hd]),ih.1,ih.2]
  exact⟨rfl,rfl⟩
theorem Rz (d:Uop→Bool):∀ (j:Nat) (us:List Uop) (ps:List Nat),(∀ i u,i<j→us[i]? = some u→d u=false)→ps.length=us.length→(∃ u,us[j]? = some u∧d u=true)→ps.take j++Cj d (us.drop (j+1)) (ps.drop (j+1))=Cj d us ps
 |_,[],_,_,_,h=>by obtain⟨u,h,_⟩:=h;simp at h
 |_,_::_,[],_,hl,_=>by cases hl
 |j,u::us,p::ps,h,hl,hj=>by
  cases j with
  |zero=>
   obtain⟨v,e,hv⟩:=hj
   have e:u=v:=by simpa using e
   subst e
   show []++Cj d us ps=Cj d (u::us) (p::ps)
   rw [Cj,if_pos hv,List.nil_append]
  |succ j=>
   have hd:d u=false:=h 0 u (by omega) rfl
   have ih:=Rz d j us ps (fun i v hi hv=>h (i+1) v (by omega) (by simpa using hv)) (by simpa using hl) (by simpa using hj)
   show p::(ps.take j++Cj d (us.drop (j+1)) (ps.drop (j+1)))=_
   rw [Cj,if_neg (by rw [hd];decide),ih]
theorem Rw (d:Uop→Bool) {us:List Uop} {ps:List Nat} {j:Nat} (h1:j<us.length) (h2:j<ps.length):Cj d (us.drop j) (ps.drop j)=if d us[j]=true then Cj d (us.drop (j+1)) (ps.drop (j+1)) else ps[j]::Cj d (us.drop (j+1)) (ps.drop (j+1)):=by
 rw [List.drop_eq_getElem_cons h1,List.drop_eq_getElem_cons h2]
 rfl
theorem Df.keep {w:World} {B:Nat} {us:List Uop} {ps:List Nat} (h:Df w B us ps) (d:Uop→Bool):Df w B (us.filter fun u=>!d u) (Cj d us ps):=
 ⟨Tz d us ps h.len,fun k u p h1 h2=>by
  obtain⟨i,e1,e2⟩:=V9 d us ps h.len k u p h1 h2
  exact h.at_ i u p e1 e2,Lz d us ps h.nodup⟩
theorem Rp {α:Type} (d:α→Bool):∀ (j:Nat) (l:List α),(∀ i u,i<j→l[i]? = some u→d u=false)→(∃ u,l[j]? = some u∧d u=true)→l.take j++(l.drop (j+1)).filter (fun u=>!d u)=l.filter fun u=>!d u
 |_,[],_,h=>by obtain⟨u,h,_⟩:=h;simp at h
 |j,u::us,h,hj=>by
  cases j with
  |zero=>
   obtain⟨v,e,hv⟩:=hj
   have e:u=v:=by simpa using e
   subst e
   rw [List.filter_cons_of_neg (by simp [hv])]
   rfl
  |succ j=>
   have hd:d u=false:=h 0 u (by omega) rfl
   have ih:=Rp d j us (fun i v hi hv=>h (i+1) v (by omega) (by simpa using hv)) (by simpa using hj)
   rw [List.filter_cons_of_pos (by simp [hd]),←ih]
   rfl
theorem K0 {P:Program} (w:World) (t e ty:TypeId) (z:Value) (ht:P.underlying t=some (.slice e)) (hv:∀ w,(zeroValue e).run P w = .ok z w) (b o n c:Nat) (hn:0<n) (t':TypeId) (old:Array Value) (hB:Blk w b t' old)
  (hz:∀ v∈(Builtin.zeroCells z.cells n).toList,v.oneCell'=true) (hs:o+(Builtin.zeroCells z.cells n).size≤old.size) :
  (Builtin.clear_ #[t] ty #[.slice (some ⟨b,o,none⟩) n c]).run P w = .ok (.tuple #[]) (w.setRow b (splice old o (Builtin.zeroCells z.cells n).toList)):=by
 have hst:=run_storeCells_at P b o t' (Builtin.zeroCells z.cells n).toList 0 old w hB (by simpa using hs) hz
 simp only [Nat.add_zero] at hst
 obtain⟨m,rfl⟩:∃ m,n=m+1:=⟨n - 1,by omega⟩
 simp [Builtin.clear_,run_underlying ht,hv,hst,splice]
theorem Kf (zc:Array Value) (n:Nat):(Builtin.zeroCells zc n).size=n*zc.size:=by simp [Builtin.zeroCells]
theorem K6 {zc:Array Value} (h:zc.all (·.oneCell')=true) (n:Nat):∀ v∈(Builtin.zeroCells zc n).toList,v.oneCell'=true:=by
 intro v hv
 simp only [Builtin.zeroCells,Array.toList_map,List.mem_map] at hv
 obtain⟨i,hi,rfl⟩:=hv
 have hi:i<n*zc.size:=by simpa using hi
 have hp:0<zc.size:=by
  rcases Nat.eq_zero_or_pos zc.size with h0 | h0
  ·rw [h0] at hi;omega
  ·exact h0
 have hm:=Nat.mod_lt i hp
 rw [getElem!_pos zc (i%zc.size) hm]
 exact(Array.all_eq_true_iff_forall_mem.1 h) _ (Array.getElem_mem hm)
theorem Ac5 {P:Program} {t:TypeId} {z:Value} (h:(P.info? t).map (·.zero)=some (some z)) (w:World):(zeroValue t).run P w = .ok z w:=by
 cases hq:P.info? t with
 |none=>rw [hq] at h;cases h
 |some i=>
  rw [hq] at h
  have h:i.zero=some z:=by simpa using h
  simp [zeroValue,typeInfo,hq,h]
theorem Afh (w:World):(zeroValue 71).run Tryz.prog w = .ok (.pointer none) w:=Ac5 (by kernel_rfl) w
structure Qo (d:Uop→Bool) (us:List Uop) (ps:List Nat) (cur:Array Value) (oo i j:Nat):Prop where
 ex:∃ P:List Nat,P.length=i∧(∀ k p,P[k]? = some p→cur[oo+k]? = some (.pointer (some ⟨p,0,none⟩)))∧P++Cj d (us.drop j) (ps.drop j)=Cj d us ps
 rest:∀ k p,j≤k→ps[k]? = some p→cur[oo+k]? = some (.pointer (some ⟨p,0,none⟩))
section
variable {d:Uop→Bool} {us:List Uop} {ps:List Nat} {cur:Array Value} {oo i j:Nat}
theorem Qo.skip (h:Qo d us ps cur oo i j) (h1:j<us.length) (h2:j<ps.length) (hd:d us[j]=true):Qo d us ps cur oo i (j+1):=by
 obtain⟨P,e1,e2,e3⟩:=h.ex
 rw [Rw d h1 h2,if_pos hd] at e3
 exact⟨⟨P,e1,e2,e3⟩,fun k p hk hp=>h.rest k p (by omega) hp⟩
theorem Qo.keep (h:Qo d us ps cur oo i j) (h1:j<us.length) (h2:j<ps.length) (hd:d us[j]=false) (hij:i<j) (hs:oo+ps.length≤cur.size):Qo d us ps (cur.setIfInBounds (oo+i) (.pointer (some ⟨ps[j],0,none⟩))) oo (i+1) (j+1):=by
 obtain⟨P,e1,e2,e3⟩:=h.ex
 rw [Rw d h1 h2,if_neg (by rw [hd];decide)] at e3
 refine⟨⟨P++[ps[j]],by simp [e1],fun k p hp=>?_,by rw [←e3];simp⟩,fun k p hk hp=>?_⟩
 ·rw [Array.getElem?_setIfInBounds]
  by_cases e:k=i
  ·subst e
   rw [List.getElem?_append_right (by omega),e1,Nat.sub_self] at hp
   have hp:ps[j]=p:=by simpa using hp
   rw [if_pos rfl,if_pos (by omega),hp]
  ·have hk:k<i:=by
    have:=(List.getElem?_eq_some_iff.1 hp).1
    simp [e1] at this
    omega
   rw [if_neg (by omega)]
   rw [List.getElem?_append_left (by omega)] at hp
   exact e2 k p hp
 ·rw [Array.getElem?_setIfInBounds,if_neg (by omega)]
  exact h.rest k p (by omega) hp
theorem Qo.done (h:Qo d us ps cur oo i j) (h1:j=us.length):(Cj d us ps).length=i∧∀ k p,(Cj d us ps)[k]? = some p→cur[oo+k]? = some (.pointer (some ⟨p,0,none⟩)):=by
 obtain⟨P,e1,e2,e3⟩:=h.ex
 rw [h1,List.drop_length,Iy,List.append_nil] at e3
 rw [←e3]
 exact⟨e1,e2⟩
theorem Qo.start (hl:ps.length=us.length) (h1:∀ k p,ps[k]? = some p→cur[oo+k]? = some (.pointer (some ⟨p,0,none⟩))) (h2:∀ i u,i<j→us[i]? = some u→d u=false) {x:Uop} (h3:us[j]? = some x) (h4:d x=true):Qo d us ps cur oo j (j+1):=by
 have hj:j<us.length:=(List.getElem?_eq_some_iff.1 h3).1
 refine⟨⟨ps.take j,by simp;omega,fun k p hp=>?_,Rz d j us ps h2 hl ⟨x,h3,h4⟩⟩,fun k p _ hp=>h1 k p hp⟩
 rw [List.getElem?_take] at hp
 split at hp
 ·exact h1 k p hp
 ·cases hp
end
theorem Yo (A:Option Addr) (cap B:Nat) (us:List Uop) (ps:List Nat) (seq:Int) (gs:Nat) (w:World) (hl:ps.length≤1000) (hA:Cb w B (.slice A ps.length cap) ps) (hU:Df w B us ps) (hg:Blk w gs 3 #[.int .i64 seq]) :
  Calls Tryz.prog 82 #[.slice A ps.length cap, .func (.func 83) #[] #[.pointer (some ⟨gs,0,none⟩)]] w
   fun e w'=>e = .returned (.slice A (Cj (fun u=>decide (seq≤u.seq)) us ps).length cap)∧w.grownBy w' (Value.slice A ps.length cap).ownBlock∧Cb w' B (.slice A (Cj (fun u=>decide (seq≤u.seq)) us ps).length cap) (Cj (fun u=>decide (seq≤u.seq)) us ps):=by
 have CI:=Lib.hid (Ada A cap B us ps seq gs w (by omega) hA hU (hg.cell 0) hg.lt)
 have hul:=hU.len
 rcases E9 (fun u:Uop=>decide (seq≤u.seq)) us 0 with⟨h1,h2⟩ | ⟨i0,x,h1,h2,h3,h4⟩
 ·have h1:Db (fun u:Uop=>decide (seq≤u.seq)) us (0:Int) = -1:=h1
  rw [h1] at CI
  have hk:=(Rx (fun u:Uop=>decide (seq≤u.seq)) us ps h2 hul).1
  rw [hk]
  have HA:=Lib.hid hA
  clear hA hU hg h1 h2 hk hul
  go_enter Tryz.func82,Tryz.ntmps82
  go_wp2_with(go_at_call 104;(with_reducible refine CI.out.mono ?_);rintro e w2 ⟨rfl,hb2⟩)
  go_ret
  exact⟨rfl,Bl hb2 _,HA.out.kept (Cp hb2) (Classical.em _)⟩
 ·have h1:Db (fun u:Uop=>decide (seq≤u.seq)) us (0:Int)=(i0:Int):=by
   have h1:Db (fun u:Uop=>decide (seq≤u.seq)) us (0:Int)=((0+i0:Nat):Int):=h1
   rw [h1,Nat.zero_add]
  rw [h1] at CI
  have hi0:i0<us.length:=(List.getElem?_eq_some_iff.1 h2).1
  rcases hA with⟨hv,rfl⟩ | ⟨go,oo,cap',cur0,hv,hb,hB,q1,q2,q3,q4⟩
  ·simp at hul;omega
  injection hv with hv1 _ hv2
  subst hv1 hv2
  have HS:Hid (Qo (fun u=>decide (seq≤u.seq)) us ps cur0 oo i0 (i0+1)):=Lib.hid (Qo.start hul q4 h4 h2 h3)
  have hne:gs≠go:=Bo hg hB (by decide)
  obtain⟨N,hN⟩:∃ N,N=ps.length:=⟨_,rfl⟩
  rw [←hN] at hl hul q1 CI ⊢
  have HN:=Lib.hid hN
  have HU:=Lib.hid hU
  have HUL:=Lib.hid hul
  have HB:=Lib.hid hB
  have HB0:=Lib.hid hB
  have HG:=Lib.hid hg
  have h30:((i0:Int) == -1)=false:=by simp
  clear h1 h2 h3 h4 q4 hB hg hU
  rw [←hul] at hi0
  clear hN hul
  go_enter Tryz.func82,Tryz.ntmps82
  go_wp2_with(go_at_call 104;(with_reducible refine CI.out.mono ?_);rintro e w2 ⟨rfl,hb2⟩)
  go_loopw [5,6] (fun v5 v6 wr=>∃ (i j:Nat) (cur:Array Value),v5 = .int .i64 i∧v6 = .int .i64 j∧i<j∧j≤N∧w.grownBy wr (some go)∧Hid (Blk wr go 71 cur)∧cur.size=cur0.size∧Hid (Qo (fun u=>decide (seq≤u.seq)) us ps cur oo i j)) (fun _ v _=>N+1 - (intOf v).toNat)
  case atStart=>exact⟨i0,i0+1,cur0,rfl,by go_num,by omega,by omega,Bl hb2 _,Lib.hid (HB.out.ext hb2),rfl,HS⟩
  case round=>
   clear HS HB CI
   obtain⟨i,j,cur,rfl,rfl,hij,hj,hgr,HB,hsz,HD⟩:=hrel
   by_cases hlt:j<N
   ·have hj2:j<ps.length:=by rw [←HN.out];exact hlt
    have hju:j<us.length:=by rw [←HUL.out];exact hlt
    have c0:=(HB.out.cell (oo+j)).trans (HD.out.rest j _ (Nat.le_refl _) (List.getElem?_eq_getElem hj2))
    have hu:=((HU.out.kept hgr (fun p hp e=>by
     obtain⟨u,hu,_⟩:=HU.out.mem hp
     injection e with e
     exact Bo hu HB0.out (by decide) e)).at_ j _ _ (List.getElem?_eq_getElem hju) (List.getElem?_eq_getElem hj2)).1
    have hgr':Blk wr gs 3 #[.int .i64 seq]:=HG.out.grown hgr (by simpa using hne)
    have zgo:=HB.out.lt
    have hkp:=HD.out.keep hju hj2
    have hsk:=HD.out.skip hju hj2
    generalize us[j]'hju=u at *
    generalize ps[j]'hj2=q at *
    have CP:=Lib.hid (Xx u q gs seq wr hu (hgr'.cell 0) hgr'.lt)
    clear hu hgr'
    by_cases hs:seq≤u.seq
    ·have Hd:=Lib.hid (hsk (decide_eq_true hs))
     rw [decide_eq_true hs] at CP
     clear hkp hsk hs HD
     go_wp2_with(go_at_call 83;(with_reducible refine CP.out.mono ?_);rintro e w2 ⟨rfl,hb2⟩)
     go_roundw
     case rel=>exact⟨i,j+1,cur,rfl,by go_num,by omega,by omega,hgr.trans (Bl hb2 _),Lib.hid (HB.out.ext hb2),hsz,Hd⟩
     case measure=>simp [intOf];omega
    ·have Hd:=Lib.hid (hkp (decide_eq_false hs) hij (by rw [hsz,←HN.out];omega))
     obtain⟨xv,hxv⟩:∃ xv,cur[oo+i]? = some xv:=⟨_,Array.getElem?_eq_getElem (by omega)⟩
     rw [decide_eq_false hs] at CP
     clear hkp hsk hs HD
     go_wp2_with(go_at_call 83;(with_reducible refine CP.out.mono ?_);rintro e w2 ⟨rfl,hb2⟩;have HB2:=HB.out.ext hb2;have f2:=HB2.frozen (oo+i);have z2:=HB2.lt;have d2:=(HB2.cell (oo+i)).trans hxv;have HB3:=Lib.hid (HB2.set (oo+i) (.pointer (some ⟨q,0,none⟩)));clear HB2)
     go_roundw
     case rel=>exact⟨i+1,j+1,_,by go_num,by go_num,by omega,by omega,(hgr.trans (Bl hb2 _)).trans (grownBy_setCell _ ⟨go,oo+i,none⟩ _),HB3,by simpa using hsz,Hd⟩
     case measure=>simp [intOf];omega
   ·obtain rfl:j=N:=by omega
    have e1:decide ((j:Int)<j)=false:=by simp
    obtain⟨hkl,hkc⟩:=HD.out.done HUL.out
    have b1:(0:Int)≤i:=by omega
    have b2:(i:Int)≤j:=by omega
    have b3:(j:Int)≤cap:=by omega
    have b4:(i:Int)≤cap:=by omega
    have hzs:(Builtin.zeroCells (Value.pointer none).cells (j - i)).toList.length=j - i:=by
     rw [Array.length_toList,Kf]
     show(j - i)*1=_
     omega
    have hcl:∀ ty,(Builtin.clear_ #[59] ty #[.slice (some ⟨go,oo+i,none⟩) (j - i) (cap - i)]).run Tryz.prog wr = .ok (.tuple #[]) (wr.setRow go (splice cur (oo+i) (Builtin.zeroCells (Value.pointer none).cells (j - i)).toList)):=
     fun ty=>K0 wr _ _ ty _ rfl Afh go (oo+i) (j - i) (cap - i) (by omega) 71 cur HB.out (K6 (by kernel_rfl) _) (by rw [←Array.length_toList,hzs,hsz];omega)
    generalize (Builtin.zeroCells (Value.pointer none).cells (j - i)).toList=Z at hzs hcl
    have HR:=Lib.hid (show w.grownBy (wr.setRow go (splice cur (oo+i) Z)) (some go)∧Cb (wr.setRow go (splice cur (oo+i) Z)) B (.slice (some ⟨go,oo,none⟩) (Cj (fun u=>decide (seq≤u.seq)) us ps).length cap) (Cj (fun u=>decide (seq≤u.seq)) us ps) by
     refine⟨hgr.trans (Gg _ _ _),Or.inr ⟨go,oo,cap,_,rfl,hb,HB.out.setRow _,by omega,q2,by rw [H8 _ _ _ (by omega)];omega,fun k p hp=>?_⟩⟩
     have hki:k<i:=by rw [←hkl];exact(List.getElem?_eq_some_iff.1 hp).1
     rw [Fa _ _ _ (by omega),if_pos (by omega)]
     exact hkc k p hp)
    generalize wr.setRow go (splice cur (oo+i) Z)=w9 at hcl HR
    have HKL:=Lib.hid hkl
    clear hkl hkc HB HD HU HG HUL HN
    go_wp2_with(fail)
    go_ret
    exact⟨by rw [HKL.out];rfl,HR.out.1,HR.out.2⟩
theorem Xw (w:World):(zeroValue 101).run Tryz.prog w = .ok (.agg #[.int .i64 0, .bool false, .bool false, .int .u32 0, .int .i64 0, .int .u32 0, .bool false]) w:=Ac5 (by kernel_rfl) w
theorem Jy (a:Acc):a.cells.size=7:=rfl
theorem Dt (a:Acc):(Tryz.prog.info? 101).map (·.size)=some a.cells.size:=by rw [Jy];kernel_rfl
theorem Ls:(Tryz.prog.info? 101).map (·.size)=some 7:=by kernel_rfl
theorem Ki (a:Acc):a.cells.all (·.oneCell')=true:=by
 simp [Acc.cells,Value.oneCell']
def F4 (cur:Array Value) (l:List Acc):Prop:=∀ k a c,l[k]? = some a→c<7→cur[k*7+c]? = a.cells[c]?
theorem F4.take {cur:Array Value} {l:List Acc} (h:F4 cur l):cur.toList.take (l.length*7)=Dq l:=by
 apply List.ext_getElem?
 intro m
 rw [List.getElem?_take]
 by_cases hm:m<l.length*7
 ·rw [if_pos hm]
  have hk:m / 7<l.length:=by omega
  have e:m / 7*7+m%7=m:=by omega
  have h1:=h (m / 7) _ (m%7) (List.getElem?_eq_getElem hk) (by omega)
  have h2:=Nn l (m / 7) _ (m%7) (List.getElem?_eq_getElem hk) (by omega)
  rw [e] at h1 h2
  rw [h2,←h1]
  simp
 ·rw [if_neg hm,List.getElem?_eq_none (by rw [Jt];omega)]
theorem F4.of {cur:Array Value} {l:List Acc} (h:cur.toList.take (l.length*7)=Dq l):F4 cur l:=fun k a c hk hc=>by
 have hkl:k<l.length:=(List.getElem?_eq_some_iff.1 hk).1
 rw [←Nn l k a c hk hc,←h,List.getElem?_take,if_pos (by omega)]
 simp
structure Mt (d:Acc→Bool) (l:List Acc) (cur:Array Value) (i j:Nat):Prop where
 ex:∃ P:List Acc,P.length=i∧F4 cur P∧P++(l.drop j).filter (fun a=>!d a)=l.filter fun a=>!d a
 rest:∀ k a c,j≤k→l[k]? = some a→c<7→cur[k*7+c]? = a.cells[c]?
section
variable {d:Acc→Bool} {l:List Acc} {cur:Array Value} {i j:Nat}
theorem Mt.skip (h:Mt d l cur i j) (h1:j<l.length) (hd:d l[j]=true):Mt d l cur i (j+1):=by
 obtain⟨P,e1,e2,e3⟩:=h.ex
 rw [List.drop_eq_getElem_cons h1,List.filter_cons_of_neg (by simp [hd])] at e3
 exact⟨⟨P,e1,e2,e3⟩,fun k p c hk hp hc=>h.rest k p c (by omega) hp hc⟩
theorem Mt.keep (h:Mt d l cur i j) (h1:j<l.length) (hd:d l[j]=false) (hij:i<j) (hs:l.length*7≤cur.size):Mt d l (splice cur (i*7) l[j].cells.toList) (i+1) (j+1):=by
 obtain⟨P,e1,e2,e3⟩:=h.ex
 rw [List.drop_eq_getElem_cons h1,List.filter_cons_of_pos (by simp [hd])] at e3
 have hl:i*7+l[j].cells.toList.length≤cur.size:=by rw [Jn];omega
 refine⟨⟨P++[l[j]],by simp [e1],fun k p c hp hc=>?_,by rw [←e3];simp⟩,fun k p c hk hp hc=>?_⟩
 ·rw [Fa _ _ _ hl]
  by_cases e:k=i
  ·subst e
   rw [List.getElem?_append_right (by omega),e1,Nat.sub_self] at hp
   have hp:l[j]=p:=by simpa using hp
   rw [if_neg (by omega),if_pos (by rw [Jn];omega),←hp,show k*7+c - k*7=c by omega]
   simp
  ·have hk:k<i:=by
    have:=(List.getElem?_eq_some_iff.1 hp).1
    simp [e1] at this
    omega
   rw [if_pos (by omega)]
   rw [List.getElem?_append_left (by omega)] at hp
   exact e2 k p c hp hc
 ·rw [Fa _ _ _ hl,if_neg (by omega),if_neg (by rw [Jn];omega)]
  exact h.rest k p c (by omega) hp hc
theorem Mt.done (h:Mt d l cur i j) (h1:j=l.length):(l.filter fun a=>!d a).length=i∧F4 cur (l.filter fun a=>!d a):=by
 obtain⟨P,e1,e2,e3⟩:=h.ex
 rw [h1,List.drop_length,List.filter_nil,List.append_nil] at e3
 rw [←e3]
 exact⟨e1,e2⟩
theorem Mt.start (h1:F4 cur l) (h2:∀ i u,i<j→l[i]? = some u→d u=false) {x:Acc} (h3:l[j]? = some x) (h4:d x=true):Mt d l cur j (j+1):=by
 have hj:j<l.length:=(List.getElem?_eq_some_iff.1 h3).1
 refine⟨⟨l.take j,by simp;omega,fun k p c hp hc=>?_,Rp d j l h2 ⟨x,h3,h4⟩⟩,fun k p c _ hp hc=>h1 k p c hp hc⟩
 rw [List.getElem?_take] at hp
 split at hp
 ·exact h1 k p c hp hc
 ·cases hp
theorem Mt.at (h:Mt d l cur i j) (h1:j<l.length) (hs:l.length*7≤cur.size):cur.extract (j*7) (j*7+7)=l[j].cells:=by
 have hr:=fun c=>h.rest j _ c (Nat.le_refl _) (List.getElem?_eq_getElem h1)
 apply Array.ext_getElem?
 intro c
 rw [Array.getElem?_extract]
 by_cases hc:c<7
 ·rw [if_pos (by omega),hr c hc]
 ·rw [if_neg (by omega),Array.getElem?_eq_none (by rw [Jy];omega)]
end
theorem filter_all {α:Type} (d:α→Bool) (l:List α) (h:∀ u∈l,d u=false):(l.filter fun u=>!d u)=l:=by
 rw [List.filter_eq_self]
 intro u hu
 rw [h u hu]
 rfl
theorem Adb (a:Acc) (g:Nat) (seq:Int) (w:World) (hg:w.cell? ⟨g,0,none⟩=some (.int .i64 seq)) (hgl:g<w.heap.size) :
  Calls Tryz.prog 84 #[.agg a.cells, .pointer (some ⟨g,0,none⟩)] w fun e w'=>e = .returned (.bool (decide (seq≤a.seq)))∧Below w.heap.size w w':=Xy a g seq w hg hgl
theorem Adc (A:Option Addr) (cap B:Nat) (l:List Acc) (seq:Int) (gs:Nat) (w:World) (hl:l.length≤1000) (hA:w.ownsRow B 101 7 (.slice A l.length cap) l.length (Dq l)) (hg:Blk w gs 3 #[.int .i64 seq]) :
  Calls Tryz.prog 35 #[.slice A l.length cap, .func (.func 84) #[] #[.pointer (some ⟨gs,0,none⟩)]] w
   fun e w'=>e = .returned (.slice A (l.filter fun a=>!decide (seq≤a.seq)).length cap)∧w.grownBy w' (Value.slice A l.length cap).ownBlock∧w'.ownsRow B 101 7 (.slice A (l.filter fun a=>!decide (seq≤a.seq)).length cap) (l.filter fun a=>!decide (seq≤a.seq)).length (Dq (l.filter fun a=>!decide (seq≤a.seq))):=by
 have hS:=Eh.own hA
 have CI:=Lib.hid (Add A cap l seq gs w (by omega) hS (hg.cell 0) hg.lt)
 clear hS
 rcases E9 (fun a:Acc=>decide (seq≤a.seq)) l 0 with⟨h1,h2⟩ | ⟨i0,x,h1,h2,h3,h4⟩
 ·have h1:Db (fun a:Acc=>decide (seq≤a.seq)) l (0:Int) = -1:=h1
  rw [h1] at CI
  rw [filter_all (fun a:Acc=>decide (seq≤a.seq)) l h2]
  have HA:=Lib.hid hA
  clear hA hg h1 h2
  go_enter Tryz.func35,Tryz.ntmps35
  go_wp2_with(go_at_call 69;(with_reducible refine CI.out.mono ?_);rintro e w2 ⟨rfl,hb2⟩)
  go_ret
  exact⟨rfl,Bl hb2 _,HA.out.kept (Cp hb2) (Classical.em _)⟩
 ·have h1:Db (fun a:Acc=>decide (seq≤a.seq)) l (0:Int)=(i0:Int):=by
   have h1:Db (fun a:Acc=>decide (seq≤a.seq)) l (0:Int)=((0+i0:Nat):Int):=h1
   rw [h1,Nat.zero_add]
  rw [h1] at CI
  have hi0:i0<l.length:=(List.getElem?_eq_some_iff.1 h2).1
  rcases hA.2 with⟨hv,hz⟩ | ⟨go,cap',cur0,hv,hb,hB,q1,q2,q3,q4⟩
  ·omega
  injection hv with hv1 _ hv2
  subst hv1 hv2
  have hB:Blk w go 101 cur0:=hB
  have HS:Hid (Mt (fun a=>decide (seq≤a.seq)) l cur0 i0 (i0+1)):=Lib.hid (Mt.start (F4.of q4) h4 h2 h3)
  have hne:gs≠go:=Bo hg hB (by decide)
  unfold maxLen at q2
  obtain⟨N,hN⟩:∃ N,N=l.length:=⟨_,rfl⟩
  rw [←hN] at hl q1 CI hi0 ⊢
  have HN:=Lib.hid hN
  have HB:=Lib.hid hB
  have HG:=Lib.hid hg
  have h30:((i0:Int) == -1)=false:=by simp
  clear h1 h2 h3 h4 q4 hB hg hA hN
  go_enter Tryz.func35,Tryz.ntmps35
  go_wp2_with(go_at_call 69;(with_reducible refine CI.out.mono ?_);rintro e w2 ⟨rfl,hb2⟩)
  go_loopw [5,6] (fun v5 v6 wr=>∃ (i j:Nat) (cur:Array Value),v5 = .int .i64 i∧v6 = .int .i64 j∧i<j∧j≤N∧w.grownBy wr (some go)∧Hid (Blk wr go 101 cur)∧cur.size=cur0.size∧Hid (Mt (fun a=>decide (seq≤a.seq)) l cur i j)) (fun _ v _=>N+1 - (intOf v).toNat)
  case atStart=>exact⟨i0,i0+1,cur0,rfl,by go_num,by omega,by omega,Bl hb2 _,Lib.hid (HB.out.ext hb2),rfl,HS⟩
  case round=>
   clear HS HB CI
   obtain⟨i,j,cur,rfl,rfl,hij,hj,hgr,HB,hsz,HD⟩:=hrel
   by_cases hlt:j<N
   ·have hju:j<l.length:=by rw [←HN.out];exact hlt
    have hszN:l.length*7≤cur.size:=by rw [hsz,q3,←HN.out];omega
    have hgr':Blk wr gs 3 #[.int .i64 seq]:=HG.out.grown hgr (by simpa using hne)
    have zgo:=HB.out.lt
    have hkp:=HD.out.keep hju
    have hsk:=HD.out.skip hju
    have he:=HD.out.at hju hszN
    have hszj:j*7+7≤cur.size:=by omega
    generalize l[j]'hju=a at *
    have HE:=Lib.hid he
    have CP:=Lib.hid (fun W h1 h2=>Adb a gs seq W h1 h2)
    have HG':=Lib.hid hgr'
    clear he hgr'
    by_cases hs:seq≤a.seq
    ·have Hd:=Lib.hid (hsk (decide_eq_true hs))
     rw [decide_eq_true hs] at CP
     clear hkp hsk hs HD
     go_wp2_with(first
      |(refine Am rfl 101 _ rfl go _ rfl 101 cur 7 _ HB.out Tryz.underlying101 rfl Ls (by omega) ?_;rw [HE.out])
      |(refine Ab rfl 101 _ _ rfl wr.heap.size a.cells rfl rfl 101 _ (Blk.new wr _ _) (Dt a) rfl (Ki a) ?_;intro w3 hB3 hg3;have hb13:Below wr.heap.size wr w3:=below_grown ((Below.refl _ _).alloc (Nat.le_refl _) _) hg3 (by simp) (Nat.le_refl _))
      |(refine Ac rfl 101 _ rfl wr.heap.size rfl 101 a.cells _ hB4 Tryz.underlying101 rfl (Dt a) ?_)
      |(refine Ac rfl 101 _ rfl wr.heap.size rfl 101 a.cells _ hB3 Tryz.underlying101 rfl (Dt a) ?_)
      |(go_at_call 84;(with_reducible refine(CP.out _ ((HG'.out.ext hb13).cell 0) (HG'.out.ext hb13).lt).mono ?_);rintro e w4 ⟨rfl,hb4⟩;have hB4:=hB3.ext hb4;have hb14:=hb13.trans (hb4.mono hb13.size))
      |(refine Co rfl 101 _ _ rfl go (i*7) a.cells rfl rfl 101 cur (HB.out.ext hb14) (Dt a) (by rw [Jy];omega) (Ki a) ?_;intro w5 hB5 hg5))
     go_roundw
     case rel=>exact⟨i,j+1,cur,rfl,by go_num,by omega,by omega,hgr.trans (Bl hb14 _),Lib.hid (HB.out.ext hb14),hsz,Hd⟩
     case measure=>simp [intOf];omega
    ·have Hd:=Lib.hid (hkp (decide_eq_false hs) hij hszN)
     rw [decide_eq_false hs] at CP
     clear hkp hsk hs HD
     have hszi:i*7+7≤cur.size:=by omega
     go_wp2_with(first
      |(refine Am rfl 101 _ rfl go _ rfl 101 cur 7 _ HB.out Tryz.underlying101 rfl Ls (by omega) ?_;rw [HE.out])
      |(refine Ab rfl 101 _ _ rfl wr.heap.size a.cells rfl rfl 101 _ (Blk.new wr _ _) (Dt a) rfl (Ki a) ?_;intro w3 hB3 hg3;have hb13:Below wr.heap.size wr w3:=below_grown ((Below.refl _ _).alloc (Nat.le_refl _) _) hg3 (by simp) (Nat.le_refl _))
      |(refine Ac rfl 101 _ rfl wr.heap.size rfl 101 a.cells _ hB4 Tryz.underlying101 rfl (Dt a) ?_)
      |(refine Ac rfl 101 _ rfl wr.heap.size rfl 101 a.cells _ hB3 Tryz.underlying101 rfl (Dt a) ?_)
      |(go_at_call 84;(with_reducible refine(CP.out _ ((HG'.out.ext hb13).cell 0) (HG'.out.ext hb13).lt).mono ?_);rintro e w4 ⟨rfl,hb4⟩;have hB4:=hB3.ext hb4;have hb14:=hb13.trans (hb4.mono hb13.size))
      |(refine Co rfl 101 _ _ rfl go (i*7) a.cells rfl rfl 101 cur (HB.out.ext hb14) (Dt a) (by rw [Jy];omega) (Ki a) ?_;intro w5 hB5 hg5))
     go_roundw
     case rel=>exact⟨i+1,j+1,_,by go_num,by go_num,by omega,by omega,(hgr.trans (Bl hb14 _)).trans hg5,Lib.hid hB5,by rw [H8 _ _ _ (by rw [Jn];omega)];exact hsz,Hd⟩
     case measure=>simp [intOf];omega
   ·obtain rfl:j=N:=by omega
    have e1:decide ((j:Int)<j)=false:=by simp
    obtain⟨hkl,hkc⟩:=HD.out.done HN.out
    have b1:(0:Int)≤i:=by omega
    have b2:(i:Int)≤j:=by omega
    have b3:(j:Int)≤cap:=by omega
    have b4:(i:Int)≤cap:=by omega
    have hzs:(Builtin.zeroCells (Value.agg #[.int .i64 0, .bool false, .bool false, .int .u32 0, .int .i64 0, .int .u32 0, .bool false]).cells (j - i)).toList.length=(j - i)*7:=by
     rw [Array.length_toList,Kf]
     rfl
    have hcl:∀ ty,(Builtin.clear_ #[60] ty #[.slice (some ⟨go,i*7,none⟩) (j - i) (cap - i)]).run Tryz.prog wr = .ok (.tuple #[]) (wr.setRow go (splice cur (i*7) (Builtin.zeroCells (Value.agg #[.int .i64 0, .bool false, .bool false, .int .u32 0, .int .i64 0, .int .u32 0, .bool false]).cells (j - i)).toList)):=
     fun ty=>K0 wr _ _ ty _ rfl Xw go (i*7) (j - i) (cap - i) (by omega) 101 cur HB.out (K6 (by simp [Value.cells,Value.oneCell']) _) (by rw [←Array.length_toList,hzs,hsz,q3];omega)
    generalize (Builtin.zeroCells (Value.agg #[.int .i64 0, .bool false, .bool false, .int .u32 0, .int .i64 0, .int .u32 0, .bool false]).cells (j - i)).toList=Z at hzs hcl
    have HR:=Lib.hid (show w.grownBy (wr.setRow go (splice cur (i*7) Z)) (some go)∧(wr.setRow go (splice cur (i*7) Z)).ownsRow B 101 7 (.slice (some ⟨go,0,none⟩) (l.filter fun a=>!decide (seq≤a.seq)).length cap) (l.filter fun a=>!decide (seq≤a.seq)).length (Dq (l.filter fun a=>!decide (seq≤a.seq))) by
     refine⟨hgr.trans (Gg _ _ _),Jt _,Or.inr ⟨go,cap,_,rfl,hb,HB.out.setRow _,by omega,by unfold maxLen;omega,by rw [H8 _ _ _ (by omega)];omega,F4.take (fun k a c hk hc=>?_)⟩⟩
     have hki:k<i:=by rw [←hkl];exact(List.getElem?_eq_some_iff.1 hk).1
     rw [Fa _ _ _ (by omega),if_pos (by omega)]
     exact hkc k a c hk hc)
    generalize wr.setRow go (splice cur (i*7) Z)=w9 at hcl HR
    have HKL:=Lib.hid hkl
    clear hkl hkc HB HD HG HN
    go_wp2_with(fail)
    go_ret
    exact⟨by rw [HKL.out];rfl,HR.out.1,HR.out.2⟩
theorem Aec (a:Acc) (g:Nat) (seq:Int) (w:World) (hg:w.cell? ⟨g,0,none⟩=some (.int .i64 seq)) (hgl:g<w.heap.size) :
  Calls Tryz.prog 36 #[.agg a.cells, .pointer (some ⟨g,0,none⟩)] w fun e w'=>e = .returned (.bool (decide (a.seq=seq)))∧Below w.heap.size w w':=Y7 a g seq w hg hgl
theorem V3 (A:Option Addr) (cap B:Nat) (l:List Acc) (seq:Int) (gs:Nat) (w:World) (hl:l.length≤1000) (hA:w.ownsRow B 101 7 (.slice A l.length cap) l.length (Dq l)) (hg:Blk w gs 3 #[.int .i64 seq]) :
  Calls Tryz.prog 35 #[.slice A l.length cap, .func (.func 36) #[] #[.pointer (some ⟨gs,0,none⟩)]] w
   fun e w'=>e = .returned (.slice A (l.filter fun a=>!decide (a.seq=seq)).length cap)∧w.grownBy w' (Value.slice A l.length cap).ownBlock∧w'.ownsRow B 101 7 (.slice A (l.filter fun a=>!decide (a.seq=seq)).length cap) (l.filter fun a=>!decide (a.seq=seq)).length (Dq (l.filter fun a=>!decide (a.seq=seq))):=by
 have hS:=Eh.own hA
 have CI:=Lib.hid (Aed A cap l seq gs w (by omega) hS (hg.cell 0) hg.lt)
 clear hS
 rcases E9 (fun a:Acc=>decide (a.seq=seq)) l 0 with⟨h1,h2⟩ | ⟨i0,x,h1,h2,h3,h4⟩
 ·have h1:Db (fun a:Acc=>decide (a.seq=seq)) l (0:Int) = -1:=h1
  rw [h1] at CI
  rw [filter_all (fun a:Acc=>decide (a.seq=seq)) l h2]
  have HA:=Lib.hid hA
  clear hA hg h1 h2
  go_enter Tryz.func35,Tryz.ntmps35
  go_wp2_with(go_at_call 69;(with_reducible refine CI.out.mono ?_);rintro e w2 ⟨rfl,hb2⟩)
  go_ret
  exact⟨rfl,Bl hb2 _,HA.out.kept (Cp hb2) (Classical.em _)⟩
 ·have h1:Db (fun a:Acc=>decide (a.seq=seq)) l (0:Int)=(i0:Int):=by
   have h1:Db (fun a:Acc=>decide (a.seq=seq)) l (0:Int)=((0+i0:Nat):Int):=h1
   rw [h1,Nat.zero_add]
  rw [h1] at CI
  have hi0:i0<l.length:=(List.getElem?_eq_some_iff.1 h2).1
  rcases hA.2 with⟨hv,hz⟩ | ⟨go,cap',cur0,hv,hb,hB,q1,q2,q3,q4⟩
  ·omega
  injection hv with hv1 _ hv2
  subst hv1 hv2
  have hB:Blk w go 101 cur0:=hB
  have HS:Hid (Mt (fun a=>decide (a.seq=seq)) l cur0 i0 (i0+1)):=Lib.hid (Mt.start (F4.of q4) h4 h2 h3)
  have hne:gs≠go:=Bo hg hB (by decide)
  unfold maxLen at q2
  obtain⟨N,hN⟩:∃ N,N=l.length:=⟨_,rfl⟩
  rw [←hN] at hl q1 CI hi0 ⊢
  have HN:=Lib.hid hN
  have HB:=Lib.hid hB
  have HG:=Lib.hid hg
  have h30:((i0:Int) == -1)=false:=by simp
  clear h1 h2 h3 h4 q4 hB hg hA hN
  go_enter Tryz.func35,Tryz.ntmps35
  go_wp2_with(go_at_call 69;(with_reducible refine CI.out.mono ?_);rintro e w2 ⟨rfl,hb2⟩)
  go_loopw [5,6] (fun v5 v6 wr=>∃ (i j:Nat) (cur:Array Value),v5 = .int .i64 i∧v6 = .int .i64 j∧i<j∧j≤N∧w.grownBy wr (some go)∧Hid (Blk wr go 101 cur)∧cur.size=cur0.size∧Hid (Mt (fun a=>decide (a.seq=seq)) l cur i j)) (fun _ v _=>N+1 - (intOf v).toNat)
  case atStart=>exact⟨i0,i0+1,cur0,rfl,by go_num,by omega,by omega,Bl hb2 _,Lib.hid (HB.out.ext hb2),rfl,HS⟩
  case round=>
   clear HS HB CI
   obtain⟨i,j,cur,rfl,rfl,hij,hj,hgr,HB,hsz,HD⟩:=hrel
   by_cases hlt:j<N
   ·have hju:j<l.length:=by rw [←HN.out];exact hlt
    have hszN:l.length*7≤cur.size:=by rw [hsz,q3,←HN.out];omega
    have hgr':Blk wr gs 3 #[.int .i64 seq]:=HG.out.grown hgr (by simpa using hne)
    have zgo:=HB.out.lt
    have hkp:=HD.out.keep hju
    have hsk:=HD.out.skip hju
    have he:=HD.out.at hju hszN
    have hszj:j*7+7≤cur.size:=by omega
    generalize l[j]'hju=a at *
    have HE:=Lib.hid he
    have CP:=Lib.hid (fun W h1 h2=>Aec a gs seq W h1 h2)
    have HG':=Lib.hid hgr'
    clear he hgr'
    by_cases hs:a.seq=seq
    ·have Hd:=Lib.hid (hsk (decide_eq_true hs))
     rw [decide_eq_true hs] at CP
     clear hkp hsk hs HD
     go_wp2_with(first
      |(refine Am rfl 101 _ rfl go _ rfl 101 cur 7 _ HB.out Tryz.underlying101 rfl Ls (by omega) ?_;rw [HE.out])
      |(refine Ab rfl 101 _ _ rfl wr.heap.size a.cells rfl rfl 101 _ (Blk.new wr _ _) (Dt a) rfl (Ki a) ?_;intro w3 hB3 hg3;have hb13:Below wr.heap.size wr w3:=below_grown ((Below.refl _ _).alloc (Nat.le_refl _) _) hg3 (by simp) (Nat.le_refl _))
      |(refine Ac rfl 101 _ rfl wr.heap.size rfl 101 a.cells _ hB4 Tryz.underlying101 rfl (Dt a) ?_)
      |(refine Ac rfl 101 _ rfl wr.heap.size rfl 101 a.cells _ hB3 Tryz.underlying101 rfl (Dt a) ?_)
      |(go_at_call 36;(with_reducible refine(CP.out _ ((HG'.out.ext hb13).cell 0) (HG'.out.ext hb13).lt).mono ?_);rintro e w4 ⟨rfl,hb4⟩;have hB4:=hB3.ext hb4;have hb14:=hb13.trans (hb4.mono hb13.size))
      |(refine Co rfl 101 _ _ rfl go (i*7) a.cells rfl rfl 101 cur (HB.out.ext hb14) (Dt a) (by rw [Jy];omega) (Ki a) ?_;intro w5 hB5 hg5))
     go_roundw
     case rel=>exact⟨i,j+1,cur,rfl,by go_num,by omega,by omega,hgr.trans (Bl hb14 _),Lib.hid (HB.out.ext hb14),hsz,Hd⟩
     case measure=>simp [intOf];omega
    ·have Hd:=Lib.hid (hkp (decide_eq_false hs) hij hszN)
     rw [decide_eq_false hs] at CP
     clear hkp hsk hs HD
     have hszi:i*7+7≤cur.size:=by omega
     go_wp2_with(first
      |(refine Am rfl 101 _ rfl go _ rfl 101 cur 7 _ HB.out Tryz.underlying101 rfl Ls (by omega) ?_;rw [HE.out])
      |(refine Ab rfl 101 _ _ rfl wr.heap.size a.cells rfl rfl 101 _ (Blk.new wr _ _) (Dt a) rfl (Ki a) ?_;intro w3 hB3 hg3;have hb13:Below wr.heap.size wr w3:=below_grown ((Below.refl _ _).alloc (Nat.le_refl _) _) hg3 (by simp) (Nat.le_refl _))
      |(refine Ac rfl 101 _ rfl wr.heap.size rfl 101 a.cells _ hB4 Tryz.underlying101 rfl (Dt a) ?_)
      |(refine Ac rfl 101 _ rfl wr.heap.size rfl 101 a.cells _ hB3 Tryz.underlying101 rfl (Dt a) ?_)
      |(go_at_call 36;(with_reducible refine(CP.out _ ((HG'.out.ext hb13).cell 0) (HG'.out.ext hb13).lt).mono ?_);rintro e w4 ⟨rfl,hb4⟩;have hB4:=hB3.ext hb4;have hb14:=hb13.trans (hb4.mono hb13.size))
      |(refine Co rfl 101 _ _ rfl go (i*7) a.cells rfl rfl 101 cur (HB.out.ext hb14) (Dt a) (by rw [Jy];omega) (Ki a) ?_;intro w5 hB5 hg5))
     go_roundw
     case rel=>exact⟨i+1,j+1,_,by go_num,by go_num,by omega,by omega,(hgr.trans (Bl hb14 _)).trans hg5,Lib.hid hB5,by rw [H8 _ _ _ (by rw [Jn];omega)];exact hsz,Hd⟩
     case measure=>simp [intOf];omega
   ·obtain rfl:j=N:=by omega
    have e1:decide ((j:Int)<j)=false:=by simp
    obtain⟨hkl,hkc⟩:=HD.out.done HN.out
    have b1:(0:Int)≤i:=by omega
    have b2:(i:Int)≤j:=by omega
    have b3:(j:Int)≤cap:=by omega
    have b4:(i:Int)≤cap:=by omega
    have hzs:(Builtin.zeroCells (Value.agg #[.int .i64 0, .bool false, .bool false, .int .u32 0, .int .i64 0, .int .u32 0, .bool false]).cells (j - i)).toList.length=(j - i)*7:=by
     rw [Array.length_toList,Kf]
     rfl
    have hcl:∀ ty,(Builtin.clear_ #[60] ty #[.slice (some ⟨go,i*7,none⟩) (j - i) (cap - i)]).run Tryz.prog wr = .ok (.tuple #[]) (wr.setRow go (splice cur (i*7) (Builtin.zeroCells (Value.agg #[.int .i64 0, .bool false, .bool false, .int .u32 0, .int .i64 0, .int .u32 0, .bool false]).cells (j - i)).toList)):=
     fun ty=>K0 wr _ _ ty _ rfl Xw go (i*7) (j - i) (cap - i) (by omega) 101 cur HB.out (K6 (by simp [Value.cells,Value.oneCell']) _) (by rw [←Array.length_toList,hzs,hsz,q3];omega)
    generalize (Builtin.zeroCells (Value.agg #[.int .i64 0, .bool false, .bool false, .int .u32 0, .int .i64 0, .int .u32 0, .bool false]).cells (j - i)).toList=Z at hzs hcl
    have HR:=Lib.hid (show w.grownBy (wr.setRow go (splice cur (i*7) Z)) (some go)∧(wr.setRow go (splice cur (i*7) Z)).ownsRow B 101 7 (.slice (some ⟨go,0,none⟩) (l.filter fun a=>!decide (a.seq=seq)).length cap) (l.filter fun a=>!decide (a.seq=seq)).length (Dq (l.filter fun a=>!decide (a.seq=seq))) by
     refine⟨hgr.trans (Gg _ _ _),Jt _,Or.inr ⟨go,cap,_,rfl,hb,HB.out.setRow _,by omega,by unfold maxLen;omega,by rw [H8 _ _ _ (by omega)];omega,F4.take (fun k a c hk hc=>?_)⟩⟩
     have hki:k<i:=by rw [←hkl];exact(List.getElem?_eq_some_iff.1 hk).1
     rw [Fa _ _ _ (by omega),if_pos (by omega)]
     exact hkc k a c hk hc)
    generalize wr.setRow go (splice cur (i*7) Z)=w9 at hcl HR
    have HKL:=Lib.hid hkl
    clear hkl hkc HB HD HG HN
    go_wp2_with(fail)
    go_ret
    exact⟨by rw [HKL.out];rfl,HR.out.1,HR.out.2⟩
theorem Ij (A:Option Addr) (n n' c:Nat):(Value.slice A n c).ownBlock=(Value.slice A n' c).ownBlock:=by cases A<;>rfl
theorem Afd (m:A1) (rd p:Int):(Nm m rd p).free.length≤m.free.length+1:=by
 unfold Nm Ms
 split
 ·simp
 ·exact Nat.zero_le _
theorem Acf (ops:List Uop) (m:A1) (s:Int) (k:Nat) (h:Je ops s=(k:Int)):El ops m s=if 0<(ops.getD k B3).dest then Nm m (ops.getD k B3).ins.rd (ops.getD k B3).old else m:=by
 unfold El Nm
 rw [h]
 rfl
theorem Aad (ops:List Uop) (m:A1) (s:Int):(El ops m s).free.length≤m.free.length+1:=by
 unfold El
 dsimp only
 split
 ·exact Afd m _ _
 ·omega
theorem On (ops:List Uop):∀ (l:List Int) (m:A1),(l.foldl (El ops) m).free.length≤m.free.length+l.length
 |[],m=>by simp
 |s::l,m=>by
  have h1:=Aad ops m s
  have h2:=On ops l (El ops m s)
  simp only [List.foldl_cons,List.length_cons]
  omega
theorem Xz {C C1 C2 C5 C7:Core} {l:List Int} {acc':List Acc} {seq pc:Int} {ps ps':List Nat} (h1:({ C with backs:=C.backs+1 }:Core)=C1) (hl:Lc C1.slots seq=l) (h2:C2=({ C1 with names:=l.foldl (El C1.ops) C1.names }:Core))
  (h5:C5=({ C2 with slots:=Mx C1.slots seq }:Core)) (h7:C7=({ C5 with ops:=C5.ops.filter (fun u=>!decide (seq≤u.seq)) }:Core)) (ha:(C7.access.filter fun a=>!decide (seq≤a.seq))=acc') (hk:Cj (fun u=>decide (seq≤u.seq)) C5.ops ps=ps') :
  F8 C seq pc=({ C7 with access:=acc',pc:=pc,still:=false }:Core)∧Cj (fun u=>decide (seq≤u.seq)) C.ops ps=ps':=by
 subst h1 hl h2 h5 h7 ha hk
 exact⟨rfl,rfl⟩
section
variable {B:Nat} {w w' w2:World} {g:Nat} {C:Core} {L:Lay} {ps:List Nat} {cs:Array Value}
theorem Af.setnames (h:Af B w g C L ps cs) (hb:Below w.heap.size w w') {M:A1} {A:Option Addr} {c:Nat} (hm:Kh w' M A c) (hf:∀ ad,A=some ad→w.heap.size≤ad.block)
  (hB:Blk w2 g 62 (splice cs 108 (Ag M.phys M.regs A M.free.length c).toList)) (hg:w'.grownBy w2 (some g)) :
  Af B w2 g { C with names:=M } { L with freeA:=A,freeCap:=c } ps (splice cs 108 (Ag M.phys M.regs A M.free.length c).toList):=by
 obtain⟨s1,s2,s3⟩:=Nl (off:=108) (n:=34) h.cells.size (by decide) (B5 M.phys M.regs A M.free.length c hm.len)
 have h1:=h.rows.name h.lt hm hf h.low hb
 exact⟨Nat.le_trans (Nat.le_trans h.low hb.size) hg.size,hB,h.cells.part_names M A c s1 s2 s3,h1.core (Nat.le_trans h.low hb.size) (h.blk.ext hb) hg⟩
theorem Af.mapV (h:Af B w g C L ps cs):Qr w C.names (.agg (Ag C.names.phys C.names.regs L.freeA C.names.free.length L.freeCap)):=⟨L.freeA,L.freeCap,rfl,h.rows.names⟩
theorem Af.setops (h:Af B w g C L ps cs) (hg:w.grownBy w' L.ops.ownBlock) {v':Value} {ps':List Nat} {ops':List Uop} (hrow:Cb w' B v' ps') (hu:Df w' B ops' ps')
  (hv:v'.ownBlock=L.ops.ownBlock∨∀ k,v'.ownBlock=some k→w.heap.size≤k) (hp:∀ p∈ps',p∈ps∨(C.names.free≠[]→∀ ad,L.freeA=some ad→ad.block≠p)) :
  Af B (w'.setCell ⟨g,335,none⟩ v') g { C with ops:=ops' } { L with ops:=v' } ps' (cs.setIfInBounds 335 v')∧Ah B w (w'.setCell ⟨g,335,none⟩ v')∧w'.cell? ⟨g,335,none⟩=some L.ops∧w'.frozen? ⟨g,335,none⟩=false∧g<w'.heap.size:=by
 have hb:Blk w' g 62 cs:=h.blk.grown hg (by
  rcases h.rows.ptrs.other h.blk (by decide) with e | e
  ·rw [e];simp
  ·exact fun e'=>e e'.symm)
 have hr:=h.rows.ptr h.low hg hrow hu hv hp
 have ht:Ah B w w':=Ah.grown hg fun k hk=>by
  obtain⟨cur,hc⟩:=Kq h.rows.ptrs hk
  exact⟨(h.rows.ptrs.lt k hk).1,_,_,_,hc,rfl⟩
 have hg2:=grownBy_setCell w' ⟨g,335,none⟩ v'
 exact⟨⟨Nat.le_trans h.low (Nat.le_trans hg.size hg2.size),hb.set 335 v',h.cells.set_ops v' ops',hr.core (Nat.le_trans h.low hg.size) hb hg2⟩,
  ht.trans (Ah.grown hg2 fun k hk=>by cases hk;exact⟨h.rows.base,_,_,_,hb,rfl⟩),(hb.cell 335).trans h.cells.ops,hb.frozen 335,hb.lt⟩
theorem Af.setaccess (h:Af B w g C L ps cs) (hg:w.grownBy w' L.access.ownBlock) {v':Value} {acc':List Acc} (hown:w'.ownsRow B 101 7 v' acc'.length (Dq acc'))
  (hv:v'.ownBlock=L.access.ownBlock∨∀ k,v'.ownBlock=some k→w.heap.size≤k) :
  Af B (w'.setCell ⟨g,336,none⟩ v') g { C with access:=acc' } { L with access:=v' } ps (cs.setIfInBounds 336 v')∧Ah B w (w'.setCell ⟨g,336,none⟩ v')∧w'.cell? ⟨g,336,none⟩=some L.access∧w'.frozen? ⟨g,336,none⟩=false∧g<w'.heap.size:=by
 have hb:Blk w' g 62 cs:=h.blk.grown hg (by
  rcases Bw h.rows.access h.blk (by decide) with e | e
  ·rw [e];simp
  ·exact fun e'=>e e'.symm)
 have hr:=h.rows.acc h.low hg hown hv
 have ht:Ah B w w':=Ah.grown hg fun k hk=>by
  rcases h.rows.access.2 with⟨e,_⟩ | ⟨go,c,cur,e,hl,hh,_⟩
  ·rw [e] at hk;cases hk
  ·rw [e] at hk
   cases hk
   exact⟨hl,_,_,_,hh,rfl⟩
 have hg2:=grownBy_setCell w' ⟨g,336,none⟩ v'
 exact⟨⟨Nat.le_trans h.low (Nat.le_trans hg.size hg2.size),hb.set 336 v',h.cells.set_access v' acc',hr.core (Nat.le_trans h.low hg.size) hb hg2⟩,
  ht.trans (Ah.grown hg2 fun k hk=>by cases hk;exact⟨h.rows.base,_,_,_,hb,rfl⟩),(hb.cell 336).trans h.cells.access,hb.frozen 336,hb.lt⟩
structure Oq (B:Nat) (w wr:World) (g:Nat) (C:Core) (ps:List Nat) (gs:Nat) (seq:Int) (AO:Option Addr) (cO:Nat) (l:List Int):Prop where
 core:∃ L cs,Af B wr g C L ps cs
 box:Blk wr gs 3 #[.int .i64 seq]
 turned:w.grownBy wr (some g)
 gone:wr.ownsRow w.heap.size 3 1 (.slice AO l.length cO) l.length (l.map (Value.int .i64))
theorem Oq.step {gs:Nat} {seq:Int} {AO:Option Addr} {cO:Nat} {l:List Int} {wr wn:World} {C':Core} (h:Oq B w wr g C ps gs seq AO cO l) (hg:wr.grownBy wn (some g)) (hC:∃ L cs,Af B wn g C' L ps cs):Oq B w wn g C' ps gs seq AO cO l:=by
 obtain⟨L,cs,h1⟩:=h.core
 exact⟨hC,h.box.grown hg (by simpa using Bo h.box h1.blk (by decide)),h.turned.trans hg,h.gone.kept hg (Bw h.gone h1.blk (by decide))⟩
theorem Mz (h:Af B w g C L ps cs) (seq pc:Int) (h1:0≤C.backs) (h2:C.backs<4611686018427387904) (hsl:C.slots.length≤1000) (hop:C.ops.length≤1000) (hac:C.access.length≤1000) (hfr:C.names.free.length≤1000)
  (hfi:∀ s∈Lc C.slots seq,∃ k:Nat,Je C.ops s=(k:Int)∧k<C.ops.length) (hus:∀ u∈C.ops,(0≤u.ins.rd∧u.ins.rd≤31)∧(0<u.dest→0≤u.old∧u.old<96)) :
  Calls Tryz.prog 44 #[.pointer (some ⟨g,0,none⟩), .int .i64 seq, .int .u32 pc] w fun e w'=>e = .returned (.tuple #[])∧Ah B w w'∧∃ L' cs',Af B w' g (F8 C seq pc) L' (Cj (fun u=>decide (seq≤u.seq)) C.ops ps) cs':=by
 have hbx:=Blk.new w 3 #[.int .i64 seq]
 have hb0:=(Below.refl w.heap.size w).alloc (Nat.le_refl _) (.cells #[.int .i64 seq] 3)
 have h0:=h.ext hb0
 have c42:=h0.cell h0.cells.backs
 have f42:=h0.blk.frozen 42
 have zg:=h0.lt
 have HI:=Lib.hid (And.intro (h0.set 42 (.int .i64 (C.backs+1)) (h0.cells.set_backs _) h0.rows) ((Bl hb0 (some g)).trans (grownBy_setCell _ ⟨g,42,none⟩ (.int .i64 (C.backs+1)))))
 have HBX:=Lib.hid (hbx.far (by exact fun e=>Bo hbx h0.blk (by decide) e:w.heap.size≠(⟨g,42,none⟩:Addr).block) (.int .i64 (C.backs+1)))
 have zgs:w.heap.size<(w.alloc (.cells #[.int .i64 seq] 3)).heap.size:=hbx.lt
 have HT0:=Lib.hid h
 generalize hC1:({ C with backs:=C.backs+1 }:Core)=C1 at HI
 have HC1:=Lib.hid hC1
 have HFI:=Lib.hid (show ∀ s∈Lc C1.slots seq,∃ k:Nat,Je C1.ops s=(k:Int)∧k<C1.ops.length by rw [←hC1];exact hfi)
 have HUS:=Lib.hid (show ∀ u∈C1.ops,(0≤u.ins.rd∧u.ins.rd≤31)∧(0<u.dest→0≤u.old∧u.old<96) by rw [←hC1];exact hus)
 have hsl1:C1.slots.length≤1000:=by rw [←hC1];exact hsl
 have hop1:C1.ops.length≤1000:=by rw [←hC1];exact hop
 have hac1:C1.access.length≤1000:=by rw [←hC1];exact hac
 have hfr1:C1.names.free.length≤1000:=by rw [←hC1];exact hfr
 clear hC1 hbx hb0 h0 hfi hus h hsl hop hac hfr
 go_enter Tryz.func44,Tryz.ntmps44
 go_upto_region 2 with(fail)
 go_simp
 clear c42 f42 zg zgs h1 h2
 generalize (w.alloc (.cells #[.int .i64 seq] 3)).setCell ⟨g,42,none⟩ (.int .i64 (C.backs+1))=w1 at *
 obtain⟨h1c,hg1⟩:=HI.out
 have zg1:=h1c.lt
 have c334:=h1c.slots
 obtain⟨A,cp,hsv,hS,hnl,hc1,hc2⟩:=H7 h1c.rows.slots
 rw [hsv] at c334
 have cgs:=HBX.out.cell 0
 have zgs1:=HBX.out.lt
 have HS:=Lib.hid (And.intro hS hnl)
 have hsz01:=hg1.size
 clear hS hnl h1c hsv hg1 hc2
 refine Ae 1991 24 2015 [0,1,2,3,4,5,6,7,8,9,10] (by kernel_rfl) (by kernel_rfl) (by kernel_rfl) rfl ?_
 refine rR (fun wq hwq=>i2 (hwq.at_ zg1 c334) (hwq.at_ zgs1 cgs)) ?_
 refine oS (fun w2 hw2 K1 hK1=>?_)
 have hb2:Below w1.heap.size w1 w2:=by rw [hw2];exact(Below.refl _ _).drew
 have CD:=Lib.hid (Acv A cp C1.slots seq w2 (by omega) ((HS.out.1.below hb2).mono hb2.size))
 clear hw2
 go_wp2_with(go_at_call 79;(with_reducible refine CD.out.mono ?_);intro e w3 hD;obtain⟨hb3,v3,u3,rfl,hq3,ho3⟩:=hD;obtain⟨AO,cO,rfl⟩:=Bb ho3)
 refine hK1 _ _ (fun _=>True) trivial ?_
 simp only [Act.put,sA,sS,sZ]
 clear hK1 K1 CD hq3
 have hb13:=hb2.trans (hb3.mono hb2.size)
 have ho3':=Gp ho3 (base':=w.heap.size) (Nat.le_trans hsz01 hb2.size)
 have HBA:Hid (Oq B w w3 g C1 ps w.heap.size seq AO cO (Lc C1.slots seq)):=Lib.hid ⟨⟨_,_,HI.out.1.ext hb13⟩,HBX.out.ext hb13,HI.out.2.trans (Bl hb13 _),ho3'⟩
 have hcl:(Lc C1.slots seq).length≤1000:=by have:=Aay C1.slots seq;omega
 clear hb2 hb3 ho3 ho3' hb13 HI HBX HS cgs zgs1 c334 zg1
 refine rO ?_
 refine Aj ?_
 rintro w4 hw4
 have HBA:Hid (Oq B w w4 g C1 ps w.heap.size seq AO cO (Lc C1.slots seq)):=by first | (rw [hw4];exact HBA) | (rw [←hw4];exact HBA)
 clear hw4
 generalize hcO:Lc C1.slots seq=l at *
 obtain⟨N,hN⟩:∃ N,N=l.length:=⟨_,rfl⟩
 have HN:=Lib.hid hN
 rw [←hN] at hcl
 simp only [←hN]
 have HCO:=Lib.hid hcO
 clear hN hcO
 have HB1:Hid (Oq B w w4 g { C1 with names:=(l.take 0).foldl (El C1.ops) C1.names } ps w.heap.size seq AO cO l):=HBA
 clear HBA
 go_upto_region 4 with(fail)
 go_simp
 go_loopw [31] (fun v wr=>∃ k:Nat,v = .int .i64 k∧k≤N∧Hid (Oq B w wr g { C1 with names:=(l.take k).foldl (El C1.ops) C1.names } ps w.heap.size seq AO cO l)) (fun v _=>N+1 - (intOf v).toNat)
 case atStart=>exact⟨0,rfl,Nat.zero_le _,HB1⟩
 case round=>
  clear HB1
  obtain⟨k,rfl,hk,HB⟩:=hrel
  by_cases hlt:k<N
  ·have hk':k<l.length:=by rw [←HN.out];exact hlt
   have hgl:=HB.out.gone
   obtain⟨bO,oO,rfl,hbO,hcO⟩:=(Aq.own (k := .i64) hgl).at_ hk'
   have ck:=hcO k hk'
   have hgd:l.getD k 0=l[k]'hk':=by simp [List.getD,List.getElem?_eq_getElem hk']
   obtain⟨i,hfi,hil⟩:=HFI.out _ (List.getElem_mem hk')
   have hMl:=On C1.ops (l.take k) C1.names
   rw [List.length_take] at hMl
   have hM2:((l.take k).foldl (El C1.ops) C1.names).free.length<17592186044000:=by omega
   have hMn:(l.take (k+1)).foldl (El C1.ops) C1.names=El C1.ops ((l.take k).foldl (El C1.ops) C1.names) (l[k]'hk'):=by rw [List.take_succ_eq_append_getElem hk',List.foldl_append];rfl
   rw [Acf _ _ _ _ hfi] at hMn
   rw [hgd] at ck
   generalize l[k]'hk'=sq at *
   generalize (l.take k).foldl (El C1.ops) C1.names=M at *
   obtain⟨L2,cs2,h2⟩:=HB.out.core
   have zg:=h2.lt
   have hl2:C1.ops.length=ps.length:=h2.rows.uops.len.symm
   have c335:=h2.ops
   have hpr:=h2.rows.ptrs
   obtain⟨A2,c2,hv2,hcc,_,_⟩:=Fj hpr
   rw [hv2] at c335 hpr
   have hips:i<ps.length:=by rw [←hl2];exact hil
   obtain⟨bP,oP,rfl,zP,cP⟩:=G0 hpr hips
   have hp:ps[i]? = some ps[i]:=List.getElem?_eq_getElem hips
   generalize ps[i]'hips=p at *
   have hu:Blk wr p 75 (C1.ops.getD i B3).cells:=(h2.uop_at hp).1
   have hum:C1.ops.getD i B3∈C1.ops:=by rw [List.getD,List.getElem?_eq_getElem hil];exact List.getElem_mem hil
   obtain⟨⟨hr0,hr1⟩,hoo⟩:=HUS.out _ hum
   generalize C1.ops.getD i B3=u at *
   have c13:wr.cell? ⟨p,13,none⟩=some (.int .i64 u.dest):=hu.cell 13
   have c6:wr.cell? ⟨p,6,none⟩=some (.int .i64 u.ins.rd):=hu.cell 6
   have c14:wr.cell? ⟨p,14,none⟩=some (.int .i64 u.old):=hu.cell 14
   have zp:=hu.lt
   have CF:∀ W,Below wr.heap.size wr W→Calls Tryz.prog 80 #[.pointer (some ⟨g,0,none⟩), .int .i64 sq] W fun e w'=>e = .returned (.int .i64 (i:Int))∧Below W.heap.size W w':=fun W hb=>by rw [←hfi];exact Y1 (h2.ext hb) sq hop1
   have HCF:=Lib.hid CF
   have H2:=Lib.hid h2
   have HM:=Lib.hid hMn
   have HN2:(l.length:Int)=N:=by rw [HN.out]
   have HOO:=Lib.hid hoo
   clear hoo
   have hN3:N≤cO∨True:=Or.inr trivial
   clear CF h2 hMn hu hum hv2 hpr hcO hfi hgd hMl hp hgl
   go_upto_region 6 with(fail)
   go_simp
   clear ck hbO
   refine Ae 695 264 959 [0,1,2,3,4,5,6,7,8,9] (by kernel_rfl) (by kernel_rfl) (by kernel_rfl) rfl ?_
   refine rR (fun wq hwq=>hwq.at_ zg c335) ?_
   refine oB (fun w5 hw5 K1 hK1=>?_)
   have hb5:Below wr.heap.size wr w5:=by rw [hw5];exact(Below.refl _ _).drew
   clear hw5
   go_wp2_with(go_at_call 80;(with_reducible refine(HCF.out _ hb5).mono ?_);rintro e w6 ⟨rfl,hb6⟩)
   replace hb6:=hb5.trans (hb6.mono hb5.size)
   refine hK1 _ _ hb6 ?_
   simp only [Act.put,sA,sS,sZ]
   clear hK1 K1 HCF hb5
   refine rR (fun wq hwq=>hwq.at_ zP cP) ?_
   refine Aj ?_
   rintro w7 hw7
   rw [←hw7] at hb6
   clear hw7
   replace c13:=(hb6.cell (p:=⟨p,13,none⟩) zp).trans c13
   replace c6:=(hb6.cell (p:=⟨p,6,none⟩) zp).trans c6
   replace c14:=(hb6.cell (p:=⟨p,14,none⟩) zp).trans c14
   replace zp:=Nat.lt_of_lt_of_le zp hb6.size
   replace H2:=Lib.hid (H2.out.ext hb6)
   replace HB:=Lib.hid (HB.out.step (Bl hb6 (some g)) ⟨_,_,H2.out⟩)
   clear hb6 c335 cP zP zg
   by_cases hd:0<u.dest
   ·rw [if_pos hd] at HM
    obtain⟨ho0,ho1⟩:=HOO.out hd
    have hT:=H2.out.cells.namesX H2.out.rows.names.len
    have HX:=Lib.hid hT
    have hsz2:=H2.out.cells.size
    have hs:=D7 (phys:=M.phys) (A:=L2.freeA) (n:=M.free.length) (cap:=L2.freeCap) H2.out.rows.names.len
    have CU:∀ W,Below w7.heap.size w7 W→Calls Tryz.prog 81 #[.agg (Ag M.phys M.regs L2.freeA M.free.length L2.freeCap), .int .i64 u.ins.rd, .int .i64 u.old] W fun e w'=>∃ v',e = .returned (.tuple #[v', .bool (Ms M u.ins.rd u.old).isSome])∧Below W.heap.size W w'∧Mu w' W.heap.size (Nm M u.ins.rd u.old) v':=fun W hb=>Ahc (H2.out.mapV.ext hb) u.ins.rd u.old (by omega) (by omega) (by omega) (by omega) hM2
    have HCU:=Lib.hid CU
    have zg:=H2.out.lt
    clear hT CU
    generalize Ag M.phys M.regs L2.freeA M.free.length L2.freeCap=T at *
    go_upto_region 8 with(fail)
    go_simp
    refine Ae 1023471 8720 1032191 [0,1,2,3,4,5,6,7,8,9,10,11,12,13,14,15,16,17,18,19,20] (by kernel_rfl) (by kernel_rfl) (by kernel_rfl) rfl ?_
    repeat'(first
     |refine rZ ?_
     |(refine' oR _ (by decide) (by decide) (by decide) (fun wq hwq K hK=>?_) ?_ ?_;rotate_left 1;(· have k6:=hwq.at_ zp c6;have k14:=hwq.at_ zp c14;first | ((refine Ax 55 _ rfl g 108 rfl 62 cs2 34 _ (H2.out.blk.ext hwq) Tryz.underlying55 rfl M1 (by omega) ?_;rw [HX.out];exact hK)) | (go_wp2_with(fail);all_goals exact hK));rfl)
     |fail)
    refine oS (fun w8 hw8 K1 hK1=>?_)
    have hb8:Below w7.heap.size w7 w8:=by rw [hw8];exact(Below.refl _ _).drew
    clear hw8
    generalize Nm M u.ins.rd u.old=Mn at *
    generalize (Ms M u.ins.rd u.old).isSome=bn at *
    go_wp2_with(go_at_call 81;(with_reducible refine(HCU.out _ hb8).mono ?_);rintro e w9 ⟨v9,rfl,hb9,A9,c9,rfl,hm9,hf9⟩)
    refine hK1 _ _ (fun _=>True) trivial ?_
    simp only [Act.put,sA,sS,sZ]
    clear hK1 K1 HCU
    have hb79:=hb8.trans (hb9.mono hb8.size)
    have i9:=D7 (phys:=Mn.phys) (A:=A9) (n:=Mn.free.length) (cap:=c9) hm9.len
    have o9:=E6 Mn.phys Mn.regs A9 Mn.free.length c9
    have z9:=B5 Mn.phys Mn.regs A9 Mn.free.length c9 hm9.len
    have HN9:=Lib.hid (fun(wz:World) (hB:Blk wz g 62 (splice cs2 108 (Ag Mn.phys Mn.regs A9 Mn.free.length c9).toList)) (hg:w9.grownBy wz (some g))=>HB.out.step ((Bl hb79 (some g)).trans hg) ⟨_,_,H2.out.setnames hb79 hm9 (fun ad e=>Nat.le_trans hb8.size (hf9 ad e)) hB hg⟩)
    generalize Ag Mn.phys Mn.regs A9 Mn.free.length c9=T9 at *
    clear hm9 hf9
    refine rO ?_
    refine oS (fun w10 hw10 K1 hK1=>?_)
    have hB9:=H2.out.blk.ext hb79
    rw [←hw10] at hB9 HN9
    clear hw10
    refine Cm 55 _ _ rfl g 108 T9 rfl rfl 62 cs2 hB9 i9 (by rw [z9,hsz2];decide) o9 ?_
    intro w11 hB11 hg11
    refine hK1 undef _ (fun _=>True) trivial ?_
    simp only [Act.put,sA,sS,sZ]
    clear hK1 K1
    refine Aj ?_
    rintro w12 hw12
    rw [←hw12] at hB11 hg11
    clear hw12
    have HBn:=Lib.hid (HN9.out w12 hB11 hg11)
    clear HN9 hB9 hB11 hg11 hb79 hb8 hb9 H2 HB
    go_wp2_with(fail)
    go_roundw
    case rel=>
     refine⟨k+1,by go_num,by omega,?_⟩
     rw [HM.out]
     exact HBn
    case measure=>simp [intOf];omega
   ·rw [if_neg hd] at HM
    go_wp2_with(fail)
    go_roundw
    case rel=>
     refine⟨k+1,by go_num,by omega,?_⟩
     rw [HM.out]
     exact HB
    case measure=>simp [intOf];omega
  ·obtain rfl:k=N:=by omega
   have e1:decide ((k:Int)<k)=false:=by simp
   have hkl:l.take k=l:=by rw [HN.out];exact List.take_length
   rw [hkl] at HB
   clear hkl
   obtain⟨C2,hC2⟩:∃ C2,C2=({ C1 with names:=l.foldl (El C1.ops) C1.names }:Core):=⟨_,rfl⟩
   rw [←hC2] at HB
   have HC2:=Lib.hid hC2
   have es2:C2.slots=C1.slots:=by rw [hC2]
   have eo2:C2.ops=C1.ops:=by rw [hC2]
   have ea2:C2.access=C1.access:=by rw [hC2]
   clear hC2
   obtain⟨L2,cs2,h2⟩:=HB.out.core
   have zg:=h2.lt
   have c334:=h2.slots
   obtain⟨A2,c2,hsv,hS,hnl,hc1',hc2'⟩:=H7 h2.rows.slots
   rw [hsv] at c334
   rw [es2] at c334 hS hnl
   have cgs:=HB.out.box.cell 0
   have zgs:=HB.out.box.lt
   have HS:=Lib.hid (And.intro hS hnl)
   have H2:=Lib.hid h2
   have HBX:=Lib.hid HB.out.box
   have HG2:=Lib.hid HB.out.turned
   clear hS hnl h2 hsv hc1' hc2' HB
   go_upto_region 10 with(fail)
   go_simp
   refine Ae 3983 48 4031 [0,1,2,3,4,5,6,7,8,9,10,11,12] (by kernel_rfl) (by kernel_rfl) (by kernel_rfl) rfl ?_
   refine rR (fun wq hwq=>i2 (hwq.at_ zg c334) (hwq.at_ zgs cgs)) ?_
   refine oS (fun w2 hw2 K1 hK1=>?_)
   have hb2:Below wr.heap.size wr w2:=by rw [hw2];exact(Below.refl _ _).drew
   have CD:=Lib.hid (Acv A2 c2 C1.slots seq w2 (by omega) ((HS.out.1.below hb2).mono hb2.size))
   clear hw2
   go_wp2_with(go_at_call 79;(with_reducible refine CD.out.mono ?_);intro e w3 hD;obtain⟨hb3,v3,u3,rfl,ho3,hq3⟩:=hD;obtain⟨A3,c3,rfl⟩:=Bb ho3)
   refine hK1 _ _ (fun _=>True) trivial ?_
   simp only [Act.put,sA,sS,sZ]
   clear hK1 K1 CD hq3
   have hb13:=hb2.trans (hb3.mono hb2.size)
   have h3:=H2.out.ext hb13
   have ho3':=Gp ho3 (base':=B) (Nat.le_trans H2.out.low hb2.size)
   have k3:=h3.slots
   have f3:=h3.blk.frozen 334
   have z3:=h3.lt
   have hbx3:=HBX.out.ext hb13
   have hnx:=Bo hbx3 h3.blk (by decide)
   have HJ:=Lib.hid (And.intro (h3.setslots ho3').1 (And.intro (((HT0.out.turned HG2.out).trans (Ah.below hb13)).trans (h3.setslots ho3').2) (hbx3.farAt (off:=334) hnx (.slice A3 (Mx C1.slots seq).length c3))))
   clear h3 ho3 ho3' hb13 hb2 hb3 HS H2 HBX HG2 hbx3 hnx cgs zgs c334 zg
   refine rO ?_
   refine oS (fun w4 hw4 K1 hK1=>?_)
   subst hw4
   go_wp2_with(fail)
   refine hK1 undef _ (fun _=>True) trivial ?_
   simp only [Act.put,sA,sS,sZ]
   clear hK1 K1 k3 f3 z3
   refine Aj ?_
   rintro w5 hw5
   rw [←hw5] at HJ
   clear hw5
   obtain⟨h5,ht5,hbx5⟩:=HJ.out
   generalize (cs2.setIfInBounds 334 (.slice A3 (Mx C1.slots seq).length c3))=cs5 at *
   generalize hL5:({ L2 with slots := .slice A3 (Mx C1.slots seq).length c3 }:Lay)=L5 at *
   obtain⟨C5,hC5⟩:∃ C5,C5=({ C2 with slots:=Mx C1.slots seq }:Core):=⟨_,rfl⟩
   rw [←hC5] at h5
   have HC5:=Lib.hid hC5
   have eo5:C5.ops=C1.ops:=by rw [hC5];exact eo2
   have ea5:C5.access=C1.access:=by rw [hC5];exact ea2
   clear hC5 hL5 HJ
   have c335:=h5.ops
   have zg5:=h5.lt
   obtain⟨A5,n5,hv5,hcc5,_,_⟩:=Fj h5.rows.ptrs
   have CDU:=Lib.hid (Yo A5 n5 B C5.ops ps seq w.heap.size w5 (by rw [h5.rows.uops.len,eo5];omega) (by rw [←hv5];exact h5.rows.ptrs) h5.rows.uops hbx5)
   have HSO:=Lib.hid (fun(wz:World) (hg:w5.grownBy wz (Value.slice A5 ps.length n5).ownBlock) (hr:Cb wz B (.slice A5 (Cj (fun u=>decide (seq≤u.seq)) C5.ops ps).length n5) (Cj (fun u=>decide (seq≤u.seq)) C5.ops ps))=>
    have hg':w5.grownBy wz L5.ops.ownBlock:=by rw [hv5];exact hg
    And.intro (h5.setops hg' hr ((h5.rows.uops.kept hg' (fun p hp e=>by
     obtain⟨u,hu,_⟩:=h5.rows.uops.mem hp
     obtain⟨cur,hk⟩:=Kq h5.rows.ptrs e.symm
     exact Bo hu hk (by decide) rfl)).keep _) (Or.inl (by rw [hv5];exact Ij _ _ _ _)) (fun p hp=>Or.inl (O2 _ _ _ _ hp)))
     (And.intro (hbx5.grown hg' (by
      rcases h5.rows.ptrs.other hbx5 (by decide) with e | e
      ·rw [e];simp
      ·exact fun e'=>e e'.symm)) (fun e=>Bo hbx5 h5.blk (by decide) e)))
   rw [hv5] at c335
   have HT5:=Lib.hid ht5
   clear h5 hbx5 hv5 ht5
   generalize hKB:Cj (fun u=>decide (seq≤u.seq)) C5.ops ps=ps' at *
   go_upto_region 12 with(go_at_call 82;(with_reducible refine CDU.out.mono ?_);rintro e w6 ⟨rfl,hg6,hr6⟩;obtain⟨⟨h6,ht6,k6,f6,z6⟩,hbx6,hne6⟩:=HSO.out w6 hg6 hr6;have HJ6:=Lib.hid (And.intro h6 (And.intro (HT5.out.trans ht6) (hbx6.farAt (off:=335) hne6 (.slice A5 ps'.length n5))));clear h6 ht6 hbx6 hg6 hr6)
   go_simp
   have HKB:=Lib.hid hKB
   clear hKB CDU HSO k6 f6 z6 c335 zg5
   generalize w6.setCell ⟨g,335,none⟩ (.slice A5 ps'.length n5)=w7 at *
   generalize (cs5.setIfInBounds 335 (.slice A5 ps'.length n5))=cs7 at *
   generalize ({ L5 with ops := .slice A5 ps'.length n5 }:Lay)=L7 at *
   obtain⟨h7,ht7,hbx7⟩:=HJ6.out
   obtain⟨C7,hC7⟩:∃ C7,C7=({ C5 with ops:=C5.ops.filter (fun u=>!decide (seq≤u.seq)) }:Core):=⟨_,rfl⟩
   rw [←hC7] at h7
   have HC7:=Lib.hid hC7
   have ea7:C7.access=C1.access:=by rw [hC7];exact ea5
   clear hC7 HJ6
   have c336:=h7.access
   have zg7:=h7.lt
   have hac7:=h7.rows.access
   obtain⟨A7,n7,hv7⟩:=Bb hac7
   have CDA:=Lib.hid (Adc A7 n7 B C7.access seq w.heap.size w7 (by rw [ea7];omega) (by rw [←hv7];exact hac7) hbx7)
   have HSA:=Lib.hid (fun(wz:World) (hg:w7.grownBy wz (Value.slice A7 C7.access.length n7).ownBlock) (hr:wz.ownsRow B 101 7 (.slice A7 (C7.access.filter fun a=>!decide (seq≤a.seq)).length n7) (C7.access.filter fun a=>!decide (seq≤a.seq)).length (Dq (C7.access.filter fun a=>!decide (seq≤a.seq))))=>
    h7.setaccess (by rw [hv7];exact hg) hr (Or.inl (by rw [hv7];exact Ij _ _ _ _)))
   rw [hv7] at c336
   have HT7:=Lib.hid ht7
   clear h7 hbx7 hv7 ht7 hac7
   have EO5:=Lib.hid eo5
   clear ea7 ea5 ea2 eo5 eo2 es2
   generalize hFA:(C7.access.filter fun a=>!decide (seq≤a.seq))=acc' at *
   go_upto_region 13 with(go_at_call 35;(with_reducible refine CDA.out.mono ?_);rintro e w8 ⟨rfl,hg8,hr8⟩;obtain⟨h8,ht8,k8,f8,z8⟩:=HSA.out w8 hg8 hr8;have HJ8:=Lib.hid (And.intro h8 (HT7.out.trans ht8));clear h8 ht8 hg8 hr8)
   go_simp
   have HFA:=Lib.hid hFA
   clear hFA CDA HSA c336 zg7
   (try clear k8);(try clear f8);(try clear z8)
   generalize w8.setCell ⟨g,336,none⟩ (.slice A7 acc'.length n7)=w9 at *
   generalize (cs7.setIfInBounds 336 (.slice A7 acc'.length n7))=cs9 at *
   generalize ({ L7 with access := .slice A7 acc'.length n7 }:Lay)=L9 at *
   obtain⟨h9,ht9⟩:=HJ8.out
   have k338:=h9.cell h9.cells.pc
   have k339:=h9.cell h9.cells.still
   have f338:=h9.blk.frozen 338
   have f339:=h9.blk.frozen 339
   have z9:=h9.lt
   have h10:=h9.set 338 (.int .u32 pc) (h9.cells.set_pc pc) h9.rows
   have h11:=h10.set 339 (.bool false) (h10.cells.set_still false) h10.rows
   have HJ:=Lib.hid (And.intro h11 ((ht9.trans (h9.turned (grownBy_setCell w9 ⟨g,338,none⟩ (.int .u32 pc)))).trans (h10.turned (grownBy_setCell _ ⟨g,339,none⟩ (.bool false)))))
   clear h9 h10 h11 ht9 HJ8
   go_wp2_with(fail)
   refine bodyPost_end (results_none rfl _ _ _) rfl ?_
   obtain⟨e1,e2⟩:=Xz (pc:=pc) HC1.out HCO.out HC2.out HC5.out HC7.out HFA.out HKB.out
   refine⟨rfl,HJ.out.2,?_⟩
   rw [e1,e2]
   exact⟨_,_,HJ.out.1⟩
end
theorem F4.set1 {cur:Array Value} {l:List Acc} (h:F4 cur l) (hs:l.length*7≤cur.size) {j:Nat} {a a':Acc} (hj:l[j]? = some a) {i:Nat} (hi:i<7) {x:Value} (hc:a.cells.setIfInBounds i x=a'.cells):F4 (cur.setIfInBounds (j*7+i) x) (l.set j a'):=fun k b c hk hc7=>by
 have hjl:=(List.getElem?_eq_some_iff.1 hj).1
 rw [Array.getElem?_setIfInBounds]
 by_cases e:k=j
 ·subst e
  rw [List.getElem?_set_self hjl] at hk
  cases hk
  rw [←hc,Array.getElem?_setIfInBounds]
  by_cases e2:i=c
  ·subst e2
   rw [if_pos rfl,if_pos rfl,if_pos (by omega),if_pos (by rw [Jy];exact hi)]
  ·rw [if_neg (by omega),if_neg e2]
   exact h k a c hj hc7
 ·rw [List.getElem?_set_ne (fun x=>e x.symm)] at hk
  rw [if_neg (by omega)]
  exact h k b c hk hc7
section
variable {B:Nat} {w:World} {g p:Nat} {C:Core} {L:Lay} {ps:List Nat} {cs:Array Value}
theorem Vj {v:Value} {l:List Acc} (h:w.ownsRow B 101 7 v l.length (Dq l)) (h0:0<l.length) :
  ∃ ga cap cur,v = .slice (some ⟨ga,0,none⟩) l.length cap∧B≤ga∧Blk w ga 101 cur∧F4 cur l∧l.length*7≤cur.size:=by
 rcases h.2 with⟨_,hz⟩ | ⟨ga,cap,cur,rfl,hb,hB,q1,q2,q3,q4⟩
 ·omega
 ·exact⟨ga,cap,cur,rfl,hb,hB,F4.of q4,by rw [q3];exact Nat.mul_le_mul_right _ q1⟩
theorem Af.setacc1 (h:Af B w g C L ps cs) {ga cap:Nat} (hv:L.access = .slice (some ⟨ga,0,none⟩) C.access.length cap) {j:Nat} {a a':Acc} (hj:C.access[j]? = some a) {i:Nat} (hi:i<7) {x:Value} (hc:a.cells.setIfInBounds i x=a'.cells) :
  Af B (w.setCell ⟨ga,j*7+i,none⟩ x) g { C with access:=C.access.set j a' } L ps cs∧Ah B w (w.setCell ⟨ga,j*7+i,none⟩ x):=by
 have hjl:=(List.getElem?_eq_some_iff.1 hj).1
 have hg:=grownBy_setCell w ⟨ga,j*7+i,none⟩ x
 rcases h.rows.access.2 with⟨_,hz⟩ | ⟨ga',cap',cur,hv',hb,hB,q1,q2,q3,q4⟩
 ·omega
 rw [hv] at hv'
 injection hv' with e1 _ e2
 injection e1 with e1
 injection e1 with e1
 subst e1 e2
 have hB:Blk w ga 101 cur:=hB
 have hsz:C.access.length*7≤cur.size:=by rw [q3];exact Nat.mul_le_mul_right _ q1
 have hB':=hB.set (j*7+i) x
 have hr':=(F4.of q4).set1 hsz hj hi hc
 have hlen:(C.access.set j a').length=C.access.length:=List.length_set
 have hgo:w.grownBy (w.setCell ⟨ga,j*7+i,none⟩ x) L.access.ownBlock:=by rw [hv];exact hg
 have hown:(w.setCell ⟨ga,j*7+i,none⟩ x).ownsRow B 101 7 L.access (C.access.set j a').length (Dq (C.access.set j a')):=by
  rw [hv,hlen]
  refine⟨by rw [Jt,hlen],Or.inr ⟨ga,cap,_,rfl,hb,hB',q1,q2,by simpa using q3,?_⟩⟩
  rw [←hlen]
  exact hr'.take
 have hrows:=h.rows.acc h.low hgo hown (Or.inl rfl)
 have hne:g≠ga:=Bo h.blk hB (by decide)
 have hcells:Ak cs { C with access:=C.access.set j a' } L:=⟨h.cells.size,h.cells.window,h.cells.phys,h.cells.wide,h.cells.commits,h.cells.mem,h.cells.cycles,h.cells.taken,h.cells.backs,h.cells.script,h.cells.slots,h.cells.ops,h.cells.access,h.cells.seq,h.cells.pc,h.cells.still,h.cells.hart,h.cells.tab,h.cells.names,h.cells.words,h.cells.there⟩
 exact⟨⟨by simpa using h.low,h.blk.farAt hne x,hcells,hrows⟩,Ah.grown hg fun k hk=>by cases hk;exact⟨hb,_,_,_,hB,rfl⟩⟩
theorem Af.setacc4 (h:Af B w g C L ps cs) {ga cap:Nat} (hv:L.access = .slice (some ⟨ga,0,none⟩) C.access.length cap) {j:Nat} {a:Acc} (hj:C.access[j]? = some a) (at_:Int) (many:Int) {i4:Nat} (hi4:i4<7) {x4:Value} {a':Acc} (h4:(Acc.cells { a with known:=true,at_:=at_,many:=many }).setIfInBounds i4 x4=a'.cells) :
  Af B ((((w.setCell ⟨ga,j*7+2,none⟩ (.bool true)).setCell ⟨ga,j*7+3,none⟩ (.int .u32 at_)).setCell ⟨ga,j*7+4,none⟩ (.int .i64 many)).setCell ⟨ga,j*7+i4,none⟩ x4) g { C with access:=C.access.set j a' } L ps cs ∧
  Ah B w ((((w.setCell ⟨ga,j*7+2,none⟩ (.bool true)).setCell ⟨ga,j*7+3,none⟩ (.int .u32 at_)).setCell ⟨ga,j*7+4,none⟩ (.int .i64 many)).setCell ⟨ga,j*7+i4,none⟩ x4):=by
 have hjl:=(List.getElem?_eq_some_iff.1 hj).1
 have hs:∀ b:Acc,(C.access.set j b)[j]? = some b:=fun b=>List.getElem?_set_self hjl
 have hl:∀ b:Acc,(C.access.set j b).length=C.access.length:=fun b=>List.length_set
 obtain⟨h1,t1⟩:=h.setacc1 hv hj (i:=2) (by decide) (x := .bool true) (a':={ a with known:=true }) rfl
 obtain⟨h2,t2⟩:=h1.setacc1 (ga:=ga) (cap:=cap) (by rw [hv];simp only [hl]) (j:=j) (hs _) (i:=3) (by decide) (x := .int .u32 at_) (a':={ a with known:=true,at_:=at_ }) rfl
 simp only [List.set_set] at h2
 obtain⟨h3,t3⟩:=h2.setacc1 (ga:=ga) (cap:=cap) (by rw [hv];simp only [hl]) (j:=j) (hs _) (i:=4) (by decide) (x := .int .i64 many) (a':={ a with known:=true,at_:=at_,many:=many }) rfl
 simp only [List.set_set] at h3
 obtain⟨h5,t4⟩:=h3.setacc1 (ga:=ga) (cap:=cap) (by rw [hv];simp only [hl]) (j:=j) (hs _) (i:=i4) hi4 (x:=x4) (a':=a') h4
 simp only [List.set_set] at h5
 exact⟨h5,((t1.trans t2).trans t3).trans t4⟩
theorem Jx (h:Af B w g C L ps cs) {ga cap:Nat} (hv:L.access = .slice (some ⟨ga,0,none⟩) C.access.length cap) {j:Nat} {a:Acc} (hj:C.access[j]? = some a) {i:Nat} (hi:i<7) :
  w.cell? ⟨ga,j*7+i,none⟩=a.cells[i]? ∧ w.frozen? ⟨ga,j*7+i,none⟩=false∧ga<w.heap.size:=by
 have hjl:=(List.getElem?_eq_some_iff.1 hj).1
 rcases h.rows.access.2 with⟨_,hz⟩ | ⟨ga',cap',cur,hv',hb,hB,q1,q2,q3,q4⟩
 ·omega
 rw [hv] at hv'
 injection hv' with e1 _ e2
 injection e1 with e1
 injection e1 with e1
 subst e1 e2
 have hB:Blk w ga 101 cur:=hB
 exact⟨(hB.cell _).trans (F4.of q4 j a i hj hi),hB.frozen _,hB.lt⟩
theorem Af.setaccN {j:Nat} {a:Acc} (h:Af B w g { C with access:=C.access.set j a } L ps cs) {ga cap:Nat} (hv:L.access = .slice (some ⟨ga,0,none⟩) C.access.length cap) (hjl:j<C.access.length) {i:Nat} (hi:i<7) {x:Value} {a':Acc} (hc:a.cells.setIfInBounds i x=a'.cells) :
  (Af B (w.setCell ⟨ga,j*7+i,none⟩ x) g { C with access:=C.access.set j a' } L ps cs∧Ah B w (w.setCell ⟨ga,j*7+i,none⟩ x))∧w.cell? ⟨ga,j*7+i,none⟩=a.cells[i]? ∧ w.frozen? ⟨ga,j*7+i,none⟩=false∧ga<w.heap.size:=by
 have hs:(C.access.set j a)[j]? = some a:=List.getElem?_set_self hjl
 have hv':L.access = .slice (some ⟨ga,0,none⟩) (C.access.set j a).length cap:=by rw [hv,List.length_set]
 have h1:=h.setacc1 hv' hs hi hc
 simp only [List.set_set] at h1
 exact⟨h1,Jx h hv' hs hi⟩
theorem Af.setaccI (h:Af B w g C L ps cs) {j:Nat} {a:Acc} (hj:C.access[j]? = some a):Af B w g { C with access:=C.access.set j a } L ps cs:=by
 have e:C.access.set j a=C.access:=by
  obtain⟨hl,rfl⟩:=List.getElem?_eq_some_iff.1 hj
  exact List.set_getElem_self hl
 rw [e]
 exact h
end
section
variable {B:Nat} {w:World} {g p:Nat} {C:Core} {L:Lay} {ps:List Nat} {cs:Array Value}
theorem Pe (u:Uop) (c:Com):splice u.cells 16 c.cells.toList=Uop.cells { u with commit:=c }:=rfl
theorem Lt (c:Com):c.cells.size=11:=rfl
theorem Kb (c:Com):(Tryz.prog.info? 67).map (·.size)=some c.cells.size:=by rw [Lt];kernel_rfl
theorem Af.uopall (h:Af B w g C L ps cs) {i:Nat} (hp:ps[i]? = some p) {u u':Uop} (hu:Blk w p 75 u.cells) {w':World} (hg:w.grownBy w' (some p)) (hB':Blk w' p 75 u'.cells) :
  Af B w' g { C with ops:=C.ops.set i u' } L ps cs:=
 ⟨Nat.le_trans h.low hg.size,h.blk.grown hg (fun e=>by injection e with e;exact Bo hu h.blk (by decide) e.symm),h.cells.any_ops _,h.rows.uop h.low hp hg hB'⟩
theorem Ye (pc:Int):Tryz.prog.built 67 [(0, .int .u32 pc),(1, .int .u32 pc),(2, .int .i64 2),(3, .int .i64 3)]=some (Aw pc 3).cells:=by kernel_rfl
theorem Pp (a b c d:Int):Tryz.prog.built 116 [(0, .int .u8 a),(1, .int .u8 b),(2, .int .u8 c),(3, .int .u8 d)]=some #[.int .u8 a, .int .u8 b, .int .u8 c, .int .u8 d]:=by kernel_rfl
theorem Adj (pc:Int):Tryz.prog.built 27 [(1, .int .u32 pc)]=some (Al.cells ⟨List.replicate 32 0,pc,0,0⟩):=by kernel_rfl
theorem Sn {a b c d:Int}:(Tryz.prog.info? 116).map (·.size)=some (#[.int .u8 a, .int .u8 b, .int .u8 c, .int .u8 d]:Array Value).size:=by kernel_rfl
theorem W9 {a b c d:Int}:(#[.int .u8 a, .int .u8 b, .int .u8 c, .int .u8 d]:Array Value).all (·.oneCell')=true:=by kernel_rfl
theorem Lg (i:Ins):(Tryz.prog.info? 73).map (·.size)=some i.cells.size:=by rw [show i.cells.size=5 from rfl];kernel_rfl
theorem P7 (i:Ins):i.cells.all (·.oneCell')=true:=by simp [Ins.cells,Value.oneCell']
theorem Dv {P:Program} {o:Oper} {a:Act} {w:World} {K:Act→World→Prop} {Q:Exit→Act→World→Prop} (t:TypeId) (parts:Array (Nat×Operand)) (ho:o.op = .build t parts) (vals:List (Nat×Value))
  (hv:(parts.map fun(i,x)=>(i,a.eval x)).toList=vals) (cs:Array Value) (hf:P.built t vals=some cs) (h:K (a.put o.dst (.agg cs)) w):o.wp P a w K Q:=
 wp_build t parts ho (by rw [hv,hf];rfl) (by rw [hv,hf];exact h)
end
section
variable {B:Nat} {w:World} {g p:Nat} {C:Core} {L:Lay} {ps:List Nat} {cs:Array Value} {u:Uop}
theorem Af.settab (h:Af B w g C L ps cs) {T:Array Value} (hT:T.size=64) {w':World} (hB:Blk w' g 62 (splice cs 44 T.toList)) (hg:w.grownBy w' (some g)):Af B w' g { C with table:=T } L ps (splice cs 44 T.toList):=by
 obtain⟨s1,s2,s3⟩:=Nl (off:=44) (n:=64) h.cells.size (by decide) hT
 exact⟨Nat.le_trans h.low hg.size,hB,h.cells.part_tab T s1 s2 s3,h.rows.core h.low h.blk hg⟩
theorem We (h:Af B w g C L ps cs) (hp:Blk w p 75 u.cells) (ht:Fe C.table) (h0:0≤u.pc∧u.pc≤4294967295) (hc:u.commit.Wf) :
  Calls Tryz.prog 34 #[.pointer (some ⟨g,0,none⟩), .pointer (some ⟨p,0,none⟩)] w fun e w'=>e = .returned (.tuple #[])∧w.grownBy w' (some g)∧∃ cs',Af B w' g (Kx C u) L ps cs':=by
 have c3:w.cell? ⟨p,3,none⟩=some (.int .u32 u.pc):=hp.cell 3
 have c5:w.cell? ⟨p,5,none⟩=some (.int .i64 u.ins.op):=hp.cell 5
 have c17:w.cell? ⟨p,17,none⟩=some (.int .u32 u.commit.next):=hp.cell 17
 have c21:w.cell? ⟨p,21,none⟩=some (.int .u32 u.commit.value):=hp.cell 21
 have zp:=hp.lt
 have hT:=h.cells.tabX ht.size
 have hsz:=h.cells.size
 have htl:=Ac3 ht h0 hc
 obtain⟨hw1,hca⟩:=ht.cnt_of u.pc
 obtain⟨hw2,hva⟩:=ht.vl_of u.pc
 have CB:=Lib.hid (fun t W=>Se C.table (M2 C.table u.pc) u.pc u.commit.next t W h0.1 h0.2 hc.next.1 hc.next.2 ht hw1 hca)
 have CV:=Lib.hid (fun W=>T1 C.table (Pf C.table u.pc) u.pc u.commit.value W h0.1 h0.2 hc.value.1 hc.value.2 ht hw2 hva)
 have HT:=Lib.hid hT
 rw [Ny]
 unfold Afa at htl ⊢
 have hl:=D6 (i:=u.ins)
 clear hT ht hca hva hw1 hw2 h0 hc
 generalize M2 C.table u.pc=t at *
 generalize Pf C.table u.pc=v at *
 have LB:=Lib.hid (fun W=>Iz u.ins W)
 have HP:=Lib.hid hp
 generalize hlB:Bs u.ins=lb at *
 generalize u.ins.op=op at *
 have HI:=Lib.hid h
 clear h hp
 by_cases q4:op=4
 ·subst q4
  rw [if_pos (Or.inl rfl)] at htl ⊢
  obtain⟨bb,hbb⟩:∃ bb,bb=decide (u.commit.next≠u32 (u.pc+4)):=⟨_,rfl⟩
  rw [←hbb] at htl ⊢
  have hne1:(u.commit.next != (u.pc+4)%4294967296)=bb:=by
   rw [hbb]
   unfold u32
   rw [Bool.eq_iff_iff]
   simp
  clear hbb
  obtain⟨T,hTT⟩:∃ T,T=Gl C.table t u.pc bb u.commit.next:=⟨_,rfl⟩
  rw [←hTT] at htl ⊢
  have HTT:=Lib.hid hTT.symm
  clear hTT
  have HI2:=HI
  have HG:=Lib.hid (Bl (Below.refl w.heap.size w) (some g))
  go_enter Tryz.func34,Tryz.ntmps34
  go_upto_region 2 with(first
   |(refine Am rfl 73 _ rfl p 5 rfl 75 u.cells 5 _ HP.out Tryz.underlying73 rfl Ay (by rw [Uop.size];decide) ?_;rw [Uop.insX])
   |(go_at_call 39;(with_reducible refine(LB.out _).mono ?_);rintro e w2 ⟨rfl,hb0⟩))
  go_simp
  skip
  refine Ae 217964271 16916752 234881023 [0,1,2,3,4,5,6,7,8,9,10,11,12,13,14,15,16,17,18,19,20,21,22,23,24,25,26,27,28] (by kernel_rfl) (by kernel_rfl) (by kernel_rfl) rfl ?_
  repeat'(first
   |refine rZ ?_
   |(refine' oR _ (by decide) (by decide) (by decide) (fun wq hwq K hK=>?_) ?_ ?_;rotate_left 1;(· have k3:=hwq.at_ zp c3;have k17:=hwq.at_ zp c17;have k21:=hwq.at_ zp c21;first | ((refine Ax 52 _ rfl g 44 rfl 62 cs 64 _ (HI.out.blk.ext hwq) Tryz.underlying52 rfl Hy (by omega) ?_;rw [HT.out];exact hK)) | (go_wp2_with(fail);all_goals exact hK));rfl)
   |fail)
  refine oS (fun w1 hw1 K1 hK1=>?_)
  have hb1:Below w.heap.size w w1:=by rw [hw1];exact(Below.refl _ _).drew
  clear hw1
  go_wp2_with(go_at_call 67;(with_reducible refine(CB.out _ w1).mono ?_);rintro e w3 ⟨rfl,hb2⟩;(try rw [hne1]);(try rw [HTT.out]))
  refine hK1 _ _ (fun _=>True) trivial ?_
  simp only [Act.put,sA,sS,sZ]
  clear hK1 K1
  refine rO ?_
  refine oS (fun w4 hw4 K1 hK1=>?_)
  have hb4:Below w.heap.size w w4:=by rw [hw4];first | exact hb1.trans (hb2.mono hb1.size) | exact(hb1.trans (hb2.mono hb1.size)).drew
  clear hw4 hb1 hb2
  have h4:=HI2.out.ext hb4
  have B4:=h4.blk
  refine Cm 52 _ _ rfl g 44 T rfl rfl 62 cs B4 (by rw [htl.size];exact Hy) (by rw [htl.size];omega) htl.one ?_
  intro w5 hB5 hg5
  refine hK1 undef _ (fun _=>True) trivial ?_
  simp only [Act.put,sA,sS,sZ]
  clear hK1 K1
  refine Aj ?_
  rintro w6 rfl
  go_wp2_with(fail)
  refine bodyPost_end (results_none rfl _ _ _) rfl ?_
  exact⟨rfl,HG.out.trans ((Bl hb4 _).trans hg5),_,h4.settab htl.size hB5 hg5⟩
 ·have q4':(op==4)=false:=by simpa using q4
  by_cases q5:5≤op∧op≤10
  ·obtain⟨q5a,q5b⟩:=q5
   have e5:decide (5≤op)=true:=decide_eq_true q5a
   have e6:decide (op≤10)=true:=decide_eq_true q5b
   rw [if_pos (Or.inr ⟨q5a,q5b⟩)] at htl ⊢
   obtain⟨bb,hbb⟩:∃ bb,bb=decide (u.commit.next≠u32 (u.pc+4)):=⟨_,rfl⟩
   rw [←hbb] at htl ⊢
   have hne1:(u.commit.next != (u.pc+4)%4294967296)=bb:=by
    rw [hbb]
    unfold u32
    rw [Bool.eq_iff_iff]
    simp
   clear hbb
   obtain⟨T,hTT⟩:∃ T,T=Gl C.table t u.pc bb u.commit.next:=⟨_,rfl⟩
   rw [←hTT] at htl ⊢
   have HTT:=Lib.hid hTT.symm
   clear hTT
   have HI2:=HI
   have HG:=Lib.hid (Bl (Below.refl w.heap.size w) (some g))
   go_enter Tryz.func34,Tryz.ntmps34
   go_upto_region 2 with(first
    |(refine Am rfl 73 _ rfl p 5 rfl 75 u.cells 5 _ HP.out Tryz.underlying73 rfl Ay (by rw [Uop.size];decide) ?_;rw [Uop.insX])
    |(go_at_call 39;(with_reducible refine(LB.out _).mono ?_);rintro e w2 ⟨rfl,hb0⟩))
   go_simp
   skip
   refine Ae 217964271 16916752 234881023 [0,1,2,3,4,5,6,7,8,9,10,11,12,13,14,15,16,17,18,19,20,21,22,23,24,25,26,27,28] (by kernel_rfl) (by kernel_rfl) (by kernel_rfl) rfl ?_
   repeat'(first
    |refine rZ ?_
    |(refine' oR _ (by decide) (by decide) (by decide) (fun wq hwq K hK=>?_) ?_ ?_;rotate_left 1;(· have k3:=hwq.at_ zp c3;have k17:=hwq.at_ zp c17;have k21:=hwq.at_ zp c21;first | ((refine Ax 52 _ rfl g 44 rfl 62 cs 64 _ (HI.out.blk.ext hwq) Tryz.underlying52 rfl Hy (by omega) ?_;rw [HT.out];exact hK)) | (go_wp2_with(fail);all_goals exact hK));rfl)
    |fail)
   refine oS (fun w1 hw1 K1 hK1=>?_)
   have hb1:Below w.heap.size w w1:=by rw [hw1];exact(Below.refl _ _).drew
   clear hw1
   go_wp2_with(go_at_call 67;(with_reducible refine(CB.out _ w1).mono ?_);rintro e w3 ⟨rfl,hb2⟩;(try rw [hne1]);(try rw [HTT.out]))
   refine hK1 _ _ (fun _=>True) trivial ?_
   simp only [Act.put,sA,sS,sZ]
   clear hK1 K1
   refine rO ?_
   refine oS (fun w4 hw4 K1 hK1=>?_)
   have hb4:Below w.heap.size w w4:=by rw [hw4];first | exact hb1.trans (hb2.mono hb1.size) | exact(hb1.trans (hb2.mono hb1.size)).drew
   clear hw4 hb1 hb2
   have h4:=HI2.out.ext hb4
   have B4:=h4.blk
   refine Cm 52 _ _ rfl g 44 T rfl rfl 62 cs B4 (by rw [htl.size];exact Hy) (by rw [htl.size];omega) htl.one ?_
   intro w5 hB5 hg5
   refine hK1 undef _ (fun _=>True) trivial ?_
   simp only [Act.put,sA,sS,sZ]
   clear hK1 K1
   refine Aj ?_
   rintro w6 rfl
   go_wp2_with(fail)
   refine bodyPost_end (results_none rfl _ _ _) rfl ?_
   exact⟨rfl,HG.out.trans ((Bl hb4 _).trans hg5),_,h4.settab htl.size hB5 hg5⟩
  ·rw [if_neg (by omega)] at htl ⊢
   have q5':op<5∨(5≤op∧10<op):=by omega
   clear q5
   by_cases ql:lb=true
   ·subst ql
    rw [if_pos rfl] at htl ⊢
    have q6:=hl.1 rfl
    have e5:decide (5≤op)=true:=decide_eq_true (by omega)
    have e6:decide (op≤10)=false:=decide_eq_false (by omega)
    obtain⟨T,hTT⟩:∃ T,T=Em C.table v u.pc u.commit.value:=⟨_,rfl⟩
    rw [←hTT] at htl ⊢
    have HTT:=Lib.hid hTT.symm
    have hne1:=trivial
    clear hTT hl q6
    go_enter Tryz.func34,Tryz.ntmps34
    go_upto_region 4 with(first
     |(refine Am rfl 73 _ rfl p 5 rfl 75 u.cells 5 _ HP.out Tryz.underlying73 rfl Ay (by rw [Uop.size];decide) ?_;rw [Uop.insX])
     |(go_at_call 39;(with_reducible refine(LB.out _).mono ?_);rintro e w2 ⟨rfl,hb0⟩))
    go_simp
    (have HI2:=Lib.hid (HI.out.ext hb0);have HG:=Lib.hid (Bl hb0 (some g));replace c3:=(hb0.cell (p:=⟨p,3,none⟩) zp).trans c3;replace c17:=(hb0.cell (p:=⟨p,17,none⟩) zp).trans c17;replace c21:=(hb0.cell (p:=⟨p,21,none⟩) zp).trans c21;replace zp:=Nat.lt_of_lt_of_le zp hb0.size;replace HI:=HI2)
    refine Ae 106223 8464 114687 [0,1,2,3,4,5,6,7,8,9,10,11,12,13,14,15,16,17] (by kernel_rfl) (by kernel_rfl) (by kernel_rfl) rfl ?_
    repeat'(first
     |refine rZ ?_
     |(refine' oR _ (by decide) (by decide) (by decide) (fun wq hwq K hK=>?_) ?_ ?_;rotate_left 1;(· have k3:=hwq.at_ zp c3;have k17:=hwq.at_ zp c17;have k21:=hwq.at_ zp c21;first | ((refine Ax 52 _ rfl g 44 rfl 62 cs 64 _ (HI.out.blk.ext hwq) Tryz.underlying52 rfl Hy (by omega) ?_;rw [HT.out];exact hK)) | (go_wp2_with(fail);all_goals exact hK));rfl)
     |fail)
    refine oS (fun w1 hw1 K1 hK1=>?_)
    have hb1:Below w2.heap.size w2 w1:=by rw [hw1];exact(Below.refl _ _).drew
    clear hw1
    go_wp2_with(go_at_call 68;(with_reducible refine(CV.out w1).mono ?_);rintro e w3 ⟨rfl,hb2⟩;(try rw [hne1]);(try rw [HTT.out]))
    refine hK1 _ _ (fun _=>True) trivial ?_
    simp only [Act.put,sA,sS,sZ]
    clear hK1 K1
    refine rO ?_
    refine oS (fun w4 hw4 K1 hK1=>?_)
    have hb4:Below w2.heap.size w2 w4:=by rw [hw4];first | exact hb1.trans (hb2.mono hb1.size) | exact(hb1.trans (hb2.mono hb1.size)).drew
    clear hw4 hb1 hb2
    have h4:=HI2.out.ext hb4
    have B4:=h4.blk
    refine Cm 52 _ _ rfl g 44 T rfl rfl 62 cs B4 (by rw [htl.size];exact Hy) (by rw [htl.size];omega) htl.one ?_
    intro w5 hB5 hg5
    refine hK1 undef _ (fun _=>True) trivial ?_
    simp only [Act.put,sA,sS,sZ]
    clear hK1 K1
    refine Aj ?_
    rintro w6 rfl
    go_wp2_with(fail)
    refine bodyPost_end (results_none rfl _ _ _) rfl ?_
    exact⟨rfl,HG.out.trans ((Bl hb4 _).trans hg5),_,h4.settab htl.size hB5 hg5⟩
   ·have ql:lb=false:=by simpa using ql
    subst ql
    rw [if_neg (by decide)] at htl ⊢
    rcases q5' with q5 | ⟨q5,q6⟩
    ·have e5:decide (5≤op)=false:=decide_eq_false (by omega)
     clear hl
     go_enter Tryz.func34,Tryz.ntmps34
     go_wp2_with(first
      |(refine Am rfl 73 _ rfl p 5 rfl 75 u.cells 5 _ HP.out Tryz.underlying73 rfl Ay (by rw [Uop.size];decide) ?_;rw [Uop.insX])
      |(go_at_call 39;(with_reducible refine(LB.out _).mono ?_);rintro e w2 ⟨rfl,hb0⟩))
     refine bodyPost_end (results_none rfl _ _ _) rfl ?_
     exact⟨rfl,Bl hb0 _,cs,HI.out.ext hb0⟩
    ·have e5:decide (5≤op)=true:=decide_eq_true q5
     have e6:decide (op≤10)=false:=decide_eq_false (by omega)
     clear hl
     go_enter Tryz.func34,Tryz.ntmps34
     go_wp2_with(first
      |(refine Am rfl 73 _ rfl p 5 rfl 75 u.cells 5 _ HP.out Tryz.underlying73 rfl Ay (by rw [Uop.size];decide) ?_;rw [Uop.insX])
      |(go_at_call 39;(with_reducible refine(LB.out _).mono ?_);rintro e w2 ⟨rfl,hb0⟩))
     refine bodyPost_end (results_none rfl _ _ _) rfl ?_
     exact⟨rfl,Bl hb0 _,cs,HI.out.ext hb0⟩
end
end Go.Proofs.YtapgojgcmlnbgacGreat
namespace Go.Proofs.YtapgojgcmlnbgacGreat
open Go Go.RowKit
theorem Aeg {C:Core} (h:Inv (own C)) (hs:F7 C) {R:List Uop} {u:Uop} (ho:C.ops=u::R) (h2:u.state=2) (h0:(Bq C).hart.state=0):Inv (own (Bq C))∧F7 (Bq C):=by
 obtain⟨hr,hops,hsl⟩:=Ts h ho h2
 have hO:=h.ops [] u R ho
 have hgo:(Bq C).hart=goH C.hart C.mem:=by
  have:=hr.run
  rw [Gq (show C.hart.state=0 from h.runs)] at this
  have:=congrArg Prod.fst this
  exact this.symm
 have hi1:Inv (own (Bq C)):=by
  have:=Y8 h (u:=u) (R:=R) ho h2 (by show(goH C.hart C.mem).state=0;rw [←hgo];exact h0)
  rw [Ep (C:=own C) (u:=u) (R:=R) ho] at this
  rw [Ep ho]
  exact this
 have hstop:Cz u=false:=by
  have hcs:u.commit.state=0:=by
   have:(Bq C).hart=Cq u.commit C.hart:=by rw [Ep ho]
   rw [this] at h0
   exact h0
  unfold Cz
  rw [hcs]
  rcases Decidable.em (u.cause=0) with hc | hc
  ·rw [hc];simp
  ·have:=(hO.fault hc).2.1
   rw [this] at hcs
   cases hcs
 exact⟨hi1,Tt hs ho hstop⟩
structure Left (X Y:Core) (m:Nat) (sq:List Int) (N:Int):Prop where
 inv:Inv (own X)
 still:F7 X
 goes:goneP m X=Y
 seqs:(X.ops.take m).map (·.seq)=sq
 done:∀ u∈X.ops.take m,u.state=2
 many:m≤X.ops.length
 coms:(X.commits.length:Int)+m≤N
theorem Left.head {X Y:Core} {m:Nat} {sq:List Int} {N:Int} (h:Left X Y (m+1) sq N):∃ u R,X.ops=u::R∧u.state=2∧sq=u.seq::(R.take m).map (·.seq):=by
 have hm:=h.many
 cases ho:X.ops with
 |nil=>rw [ho] at hm;simp at hm
 |cons u R=>
  refine⟨u,R,rfl,h.done u (by rw [ho];simp),?_⟩
  rw [←h.seqs,ho]
  rfl
theorem Left.stop {X Y:Core} {m:Nat} {sq:List Int} {N:Int} (h:Left X Y (m+1) sq N) (hs:(Bq X).hart.state≠0):Y=Bq X:=by
 rw [←h.goes]
 unfold goneP
 rw [if_pos hs]
theorem Left.next {X Y:Core} {m:Nat} {sq:List Int} {N:Int} (h:Left X Y (m+1) sq N) (hs:(Bq X).hart.state=0):Left (Bq X) Y m sq.tail N:=by
 obtain⟨u,R,ho,h2,hsq⟩:=h.head
 obtain⟨h3,h4⟩:=Aeg h.inv h.still ho h2 hs
 obtain⟨hr,hops,_⟩:=Ts h.inv ho h2
 have hc:(Bq X).commits.length=X.commits.length+1:=by rw [Ep ho];simp
 refine⟨h3,h4,?_,by rw [hops,hsq];rfl,fun v hv=>h.done v (by rw [ho];rw [hops] at hv;simp [hv]),?_,by have:=h.coms;omega⟩
 ·rw [←h.goes]
  conv=>rhs;unfold goneP
  rw [if_neg (fun hh=>hh hs)]
 ·have:=h.many
  rw [hops]
  rw [ho] at this
  simpa using this
theorem U5 {X X1 X2:Core} {u:Uop} {R:List Uop} {acc':List Acc} (ho:X.ops=u::R)
  (h1:X1=({ X with ops:=R,hart:=Cq u.commit X.hart,mem:=Cs u.commit X.mem,commits:=X.commits++[u.commit],names:=if 0<u.dest then Oh X.names u.old else X.names }:Core))
  (h2:X2=Kx X1 u) (ha:X2.access.filter (fun a=>!decide (a.seq=u.seq))=acc'):Bq X={ X2 with access:=acc',still:=if Be u.ins=true then false else X2.still }:=by
 have hop:X.op 0=u:=by unfold Core.op;rw [ho];rfl
 subst h1 h2 ha
 unfold Bq
 dsimp only
 rw [hop,ho]
 rfl
section
variable {B:Nat} {w w':World} {g p:Nat} {C:Core} {L:Lay} {ps:List Nat} {cs:Array Value}
theorem Df.tail {u:Uop} {R:List Uop} {q:Nat} (h:Df w B (u::R) (q::ps)):Df w B R ps:=
 ⟨by have:=h.len;simpa using this,fun i v r hv hr=>h.at_ (i+1) v r (by simpa using hv) (by simpa using hr),(List.nodup_cons.1 h.nodup).2⟩
theorem Af.popped (h:Af B w g C L (p::ps) cs) {u:Uop} {R:List Uop} (ho:C.ops=u::R) {v':Value} (hr:Cb w B v' ps) (hv:v'.ownBlock=L.ops.ownBlock) :
  Af B (w.setCell ⟨g,335,none⟩ v') g { C with ops:=R } { L with ops:=v' } ps (cs.setIfInBounds 335 v'):=by
 have hu:=h.rows.uops
 rw [ho] at hu
 have hr2:=h.rows.ptr h.low (World.grownBy.refl w _) hr hu.tail (Or.inl hv) (fun q hq=>Or.inl (List.mem_cons_of_mem _ hq))
 exact⟨by simpa using h.low,h.blk.set 335 v',h.cells.set_ops v' R,hr2.core h.low h.blk (grownBy_setCell w ⟨g,335,none⟩ v')⟩
theorem Qf {go oo cap n:Nat} {q:Nat} (h:Cb w B (.slice (some ⟨go,oo,none⟩) n cap) (q::ps)) :
  n=ps.length+1∧n≤cap∧cap≤9223372036854775807∧(cap=1→Cb w B (.slice (some ⟨go,oo,none⟩) 0 0) ps)∧(cap≠1→Cb w B (.slice (some ⟨go,oo+1,none⟩) ps.length (cap - 1)) ps):=by
 rcases h with⟨e,_⟩ | ⟨go',oo',cap',cur,e,hb,hB,h1,h2,h3,h4⟩
 ·cases e
 ·injection e with e1 e2 e3
  injection e1 with e1
  injection e1 with e1 e4
  subst e1 e3 e4
  simp only [List.length_cons] at e2 h1
  refine⟨e2,by omega,h2,fun hc=>?_,fun hc=>?_⟩
  ·have:ps=[]:=List.eq_nil_of_length_eq_zero (by omega)
   subst this
   exact Or.inr ⟨go,oo,0,cur,rfl,hb,hB,Nat.le_refl _,by omega,by omega,fun i r hi=>by cases hi⟩
  ·refine Or.inr ⟨go,oo+1,cap - 1,cur,rfl,hb,hB,by omega,by omega,by omega,fun i r hi=>?_⟩
   have:=h4 (i+1) r (by simpa using hi)
   rwa [show oo+(i+1)=oo+1+i by omega] at this
theorem Agx {v:Value} {q:Nat} (h:Cb w B v (q::ps)):∃ go oo n cap,v = .slice (some ⟨go,oo,none⟩) n cap:=by
 rcases h with⟨_,e⟩ | ⟨go,oo,cap,cur,rfl,_⟩
 ·cases e
 ·exact⟨go,oo,_,cap,rfl⟩
theorem Aak (h:Ak cs C L) (hl:C.hart.regs.length=32) {c:Com} (h0:0≤c.rd) (h1:c.rd≤31):Ak (Ot cs 4 c) { C with hart:=Cq c C.hart } L:=by
 refine h.part_hart (Cq c C.hart) (by rw [Ac8,h.size]) (fun i hi=>?_) (fun j hj=>?_)
 ·rw [←Ac7 C.hart c hl h0 h1]
  have hz:C.hart.cells.size=35:=Al.cells_size hl
  obtain⟨n,hn⟩:=Int.eq_ofNat_of_zero_le h0
  unfold Ot
  dsimp only
  have key:∀ (a b:Array Value) (k:Nat) (v:Value),a.size=340→b.size=35→k<35→(∀ i,i<35→a[4+i]? = b[i]?)→∀ i,i<35→(a.setIfInBounds (4+k) v)[4+i]? = (b.setIfInBounds (0+k) v)[i]? := fun a b k v ha hb hk hab i hi=>by
   rw [Array.getElem?_setIfInBounds,Array.getElem?_setIfInBounds]
   by_cases e:k=i
   ·subst e
    rw [if_pos rfl,if_pos (by omega),if_pos (by omega),if_pos (by omega)]
   ·rw [if_neg (by omega),if_neg (by omega)]
    exact hab i hi
  have k1:=key cs C.hart.cells 32 (.int .u32 c.next) h.size hz (by omega) h.hart
  have k2:=key _ _ 33 (.int .i64 c.state) (by simp [h.size]) (by simp [hz]) (by omega) k1
  have k3:=key _ _ 34 (.int .i64 c.cause) (by simp [h.size]) (by simp [hz]) (by omega) k2
  split
  ·rw [hn,Int.toNat_natCast]
   exact key _ _ n (.int .u32 c.value) (by simp [h.size]) (by simp [hz]) (by omega) k3 i hi
  ·exact k3 i hi
 ·obtain⟨n,hn⟩:=Int.eq_ofNat_of_zero_le h0
  unfold Ot
  dsimp only
  rw [hn,Int.toNat_natCast]
  have key:∀ (a:Array Value) (k:Nat) (v:Value),k<35→(a.setIfInBounds (4+k) v)[j]? = a[j]? := fun a k v hk=>by
   rw [Array.getElem?_setIfInBounds,if_neg (by omega)]
  split
  ·rw [key _ n _ (by omega),key _ 34 _ (by omega),key _ 33 _ (by omega),key _ 32 _ (by omega)]
  ·rw [key _ 34 _ (by omega),key _ 33 _ (by omega),key _ 32 _ (by omega)]
theorem Af.applied (h:Af B w g C L ps cs) (hl:C.hart.regs.length=32) {c:Com} (h0:0≤c.rd) (h1:c.rd≤31) {w1:World} (hg1:w.grownBy w1 (some g)) (hB:Blk w1 g 62 (Ot cs 4 c))
  (hown:w'.ownsRow B 5 1 L.mem C.mem.length ((Cs c C.mem).map (.int .u8))) (hlen:(Cs c C.mem).length=C.mem.length) (hg2:w1.grownBy w' L.mem.ownBlock) :
  Af B w' g { C with hart:=Cq c C.hart,mem:=Cs c C.mem } L ps (Ot cs 4 c):=by
 have hr1:=h.rows.core h.low h.blk hg1
 have hlow1:=Nat.le_trans h.low hg1.size
 have hr2:=hr1.memory hlow1 hg2 (m':=Cs c C.mem) (by rw [hlen];exact hown)
 have hne:some g≠L.mem.ownBlock:=Fb h.blk h.rows.mem (by decide)
 have hc:=Aak h.cells hl h0 h1
 exact⟨Nat.le_trans hlow1 hg2.size,hB.grown hg2 hne,⟨hc.size,hc.window,hc.phys,hc.wide,hc.commits,hc.mem,hc.cycles,hc.taken,hc.backs,hc.script,hc.slots,hc.ops,hc.access,hc.seq,hc.pc,hc.still,hc.hart,hc.tab,hc.names,hc.words,hc.there⟩,hr2⟩
theorem Af.setcoms (h:Af B w g C L ps cs) (hg:w.grownBy w' L.commits.ownBlock) {v':Value} {coms':List Com} (hown:w'.ownsRow B 67 11 v' coms'.length (Eo coms'))
  (hv:v'.ownBlock=L.commits.ownBlock∨∀ k,v'.ownBlock=some k→w.heap.size≤k) :
  (Af B (w'.setCell ⟨g,3,none⟩ v') g { C with commits:=coms' } { L with commits:=v' } ps (cs.setIfInBounds 3 v')∧Ah B w (w'.setCell ⟨g,3,none⟩ v'))∧w'.cell? ⟨g,3,none⟩=some L.commits∧w'.frozen? ⟨g,3,none⟩=false∧g<w'.heap.size:=by
 have hb:Blk w' g 62 cs:=h.blk.grown hg (by
  rcases Bw h.rows.commits h.blk (by decide) with e | e
  ·rw [e];simp
  ·exact fun e'=>e e'.symm)
 have hr:=h.rows.coms h.low hg hown hv
 have ht:Ah B w w':=Ah.grown hg fun k hk=>by
  rcases h.rows.commits.2 with⟨e,_⟩ | ⟨go,c,cur,e,hl,hh,_⟩
  ·rw [e] at hk;cases hk
  ·rw [e] at hk
   cases hk
   exact⟨hl,_,_,_,hh,rfl⟩
 have hg2:=grownBy_setCell w' ⟨g,3,none⟩ v'
 exact⟨⟨⟨Nat.le_trans h.low (Nat.le_trans hg.size hg2.size),hb.set 3 v',h.cells.set_commits v' coms',hr.core (Nat.le_trans h.low hg.size) hb hg2⟩,
  ht.trans (Ah.grown hg2 fun k hk=>by cases hk;exact⟨h.rows.base,_,_,_,hb,rfl⟩)⟩,(hb.cell 3).trans h.cells.commits,hb.frozen 3,hb.lt⟩
structure Kg (w:World) (p bs:Nat) (u:Uop) (base:Nat) (AI:Option Addr) (n cI:Nat) (sq:List Int):Prop where
 head:Blk w p 75 u.cells
 box:Blk w bs 3 #[.int .i64 u.seq]
 gone:w.ownsRow base 3 1 (.slice AI n cI) n (sq.map (.int .i64))
section
variable {bs base n cI:Nat} {u:Uop} {AI:Option Addr} {sq:List Int}
theorem Kg.step (h:Kg w p bs u base AI n cI sq) {row:Option Nat} (hg:w.grownBy w' row) (hr:∀ k,row=some k→∃ t cs,Blk w k t cs∧t≠75∧t≠3):Kg w' p bs u base AI n cI sq:=by
 refine⟨h.head.grown hg (fun e=>?_),h.box.grown hg (fun e=>?_),h.gone.kept hg ?_⟩
 ·obtain⟨t,cs,hk,h1,_⟩:=hr p e.symm
  exact Bo h.head hk (fun e=>h1 e.symm) rfl
 ·obtain⟨t,cs,hk,_,h1⟩:=hr bs e.symm
  exact Bo h.box hk (fun e=>h1 e.symm) rfl
 ·rcases row with _ | k
  ·exact Classical.em _
  ·obtain⟨t,cs,hk,_,h1⟩:=hr k rfl
   exact Bw h.gone hk (fun e=>h1 e.symm)
theorem Kg.ext (h:Kg w p bs u base AI n cI sq) (hb:Below w.heap.size w w'):Kg w' p bs u base AI n cI sq:=h.step (Cp hb) (fun k hk=>by cases hk)
theorem Kg.own (h:Kg w p bs u base AI n cI sq) {v:Value} {e:TypeId} {size m:Nat} {xs:List Value} (ho:w.ownsRow B e size v m xs) (hg:w.grownBy w' v.ownBlock) (h1:e≠75) (h2:e≠3):Kg w' p bs u base AI n cI sq:=
 h.step hg fun k hk=>by
  rcases ho.2 with⟨e',_⟩ | ⟨go,c,cur,e',_,hh,_⟩
  ·rw [e'] at hk;cases hk
  ·rw [e'] at hk
   cases hk
   exact⟨_,_,hh,h1,h2⟩
theorem Kg.core (h:Kg w p bs u base AI n cI sq) (hk:Blk w g 62 cs) (hg:w.grownBy w' (some g)):Kg w' p bs u base AI n cI sq:=
 h.step hg fun k e=>by cases e;exact⟨_,_,hk,by decide,by decide⟩
end
end
theorem Pm {P:Program} (w:World) (base:Nat) (t ty e:TypeId) (i:TypeInfo) (z:Value) (size bytes:Nat) (ht:P.underlying t=some (.slice e)) (hi:P.info? e=some i) (hz:i.zero=some z)
  (hsize:i.size=size) (hby:i.bytes=bytes) (hzs:z.cells.size=size) (hsz:0<size)
  (v:Value) (n:Nat) (xs:List Value) (hown:w.ownsRow base e size v n xs)
  (a:Addr) (m c:Nat) (news:List Value) (hl:news.length=m*size) (hnews:∀ j u,news[j]? = some u→w.cell? (a.add j)=some u) (h1:∀ u∈news,u.oneCell'=true)
  (h63:n+m≤maxLen) (hbytes:(n+m)*bytes≤140737488355328) (v':Value) (w':World) (hr:(Builtin.append_ #[t,t] ty #[v, .slice (some a) m c]).run P w = .ok v' w') :
  v'.ownBlock=v.ownBlock∨∀ k,v'.ownBlock=some k→w.heap.size≤k:=by
 have hsmall:n+m≤9223372036854775807:=by simp only [maxLen] at h63;omega
 rcases hown.2 with⟨rfl,rfl⟩ | ⟨g,cap,cur,rfl,hbg,hg,hnc,hcm,hcs,htake⟩
 ·have hx:xs=[]:=List.eq_nil_of_length_eq_zero (by simpa using hown.1)
  subst hx
  obtain⟨v2,w2,h2,h3,_⟩:=run_append_own (P:=P) w w.heap.size t ty e i z size bytes ht hi hz hsize hby hzs hsz _ 0 [] (World.ownsRow_nil _ _ _ _) a m c news hl hnews h1 h63 hbytes (Nat.le_refl _)
  rw [hr] at h2
  injection h2 with h2 h2'
  subst h2
  exact Or.inr fun k hk=>(h3.lt k hk).1
 ·subst hsize
  subst hby
  by_cases hroom:n+m≤cap
  ·have hfit:n*i.size+news.length≤cur.size:=by rw [hl,hcs,←Nat.add_mul];exact Nat.mul_le_mul_right _ hroom
   have h2:=run_append_room (P:=P) w t ty e i ht hi g n cap cur hg a m c news hl hnews h1 hroom hfit
   rw [hr] at h2
   injection h2 with h2 h2'
   subst h2
   exact Or.inl rfl
  ·have holds:∀ j u,xs[j]? = some u→w.cell? ((⟨g,0,none⟩:Addr).add j)=some u:=hown.cells (g:=g) rfl
   have h2:=run_append_grow (P:=P) w t ty e i z ht hi hz ⟨g,0,none⟩ n cap xs hown.1 holds a m c news hl hnews (by omega) (by omega) (growslice_fits (by omega) hbytes)
   rw [hr] at h2
   injection h2 with h2 h2'
   subst h2
   right
   intro k hk
   simp [Value.ownBlock] at hk
   omega
theorem Re {P:Program} {w:World} {ops:Array Oper} {rest:List Oper} {o:Oper} {a:Act} {Q:Exit→Act→World→Prop} (hgd:o.guard=none) (s x:Operand) (t:TypeId)
  (ho:o.op = .call { callee := .builtin .append,args:=#[s,x],argTypes:=#[t,t] })
  (base:Nat) (e:TypeId) (i:TypeInfo) (z:Value) (size bytes:Nat) (ht:P.underlying t=some (.slice e)) (hi:P.info? e=some i) (hz:i.zero=some z)
  (hsize:i.size=size) (hby:i.bytes=bytes) (hzs:z.cells.size=size) (hsz:0<size)
  (v:Value) (n:Nat) (xs:List Value) (hs:a.eval s=v) (hown:w.ownsRow base e size v n xs)
  (ad:Addr) (m c:Nat) (news:List Value) (hx:a.eval x = .slice (some ad) m c) (hl:news.length=m*size) (hnews:∀ j u,news[j]? = some u→w.cell? (ad.add j)=some u) (h1:∀ u∈news,u.oneCell'=true)
  (h63:n+m≤maxLen) (hbytes:(n+m)*bytes≤140737488355328) (hbase:base≤w.heap.size)
  (h:∀ v' w',w'.ownsRow base e size v' (n+m) (xs++news)→w.grownBy w' v.ownBlock→(v'.ownBlock=v.ownBlock∨∀ k,v'.ownBlock=some k→w.heap.size≤k)→wpList P ops Q rest (a.put o.dst v') w'):wpList P ops Q (o::rest) a w:=
 wpList_plain hgd fun _ hK=>by
  obtain⟨v',w',hr,h2,h3,h4⟩:=run_append_own (P:=P) w base t o.type e i z size bytes ht hi hz hsize hby hzs hsz v n xs hown ad m c news hl hnews h1 h63 hbytes hbase
  have h5:=Pm w base t o.type e i z size bytes ht hi hz hsize hby hzs hsz v n xs hown ad m c news hl hnews h1 h63 hbytes v' w' hr
  unfold Oper.wp execOp
  simp only [ho,resolve,invoke,builtin,Sem.run_bind,Sem.run_pure,Result.andThen_ok,List.map_toArray,List.map_cons,List.map_nil,hs,hx,hr]
  exact hK _ _ (h v' w' h2 h3 h5)
end Go.Proofs.YtapgojgcmlnbgacGreat
