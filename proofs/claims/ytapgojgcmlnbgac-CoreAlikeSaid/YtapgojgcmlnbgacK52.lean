/- Parts of a proof. -/
import Derived.Test.YtapgojgcmlnbgacK50
import Derived.Test.YtapgojgcmlnbgacK20
set_option linter.unusedSimpArgs false
set_option linter.unusedVariables false
set_option maxRecDepth 100000
set_option maxHeartbeats 16000000
namespace Go.Proofs.Ytapgojgcmlnbgac
open Go Go.RowKit
def RunAny (w:World) (X:Int) (C:Core) (e:Ending) (w':World):Prop:=
 Below w.heap.size w w'∧∃ T A n c AM nM cM,e = .returned (.tuple #[.agg T, .int .i64 X]) ∧
  (T.size=40∧T.all (·.oneCell')=true∧T[0]? = some (.slice A n c)∧T[36]? = some (.slice AM nM cM)∧n≤c∧(A=none∨∃ g,A=some ⟨g,0,none⟩)∧(X≠0→n=0) ∧
   (X=0→n=C.commits.length∧nM=C.mem.length∧ComsAt w' w'.heap.size A C.commits))
theorem own_form {w:World} {base:Nat} {e:TypeId} {size:Nat} {A:Option Addr} {n cap:Nat} {xs:List Value} (h:w.ownsRow base e size (.slice A n cap) n xs):n≤cap∧(A=none∨∃ g,A=some ⟨g,0,none⟩):=by
 rcases h.2 with⟨hv,hn⟩ | ⟨g,c,cur,hv,_,_,hc,_⟩
 ·injection hv with h1 h2 h3
  exact⟨by omega,Or.inl h1⟩
 ·injection hv with h1 h2 h3
  subst h3
  exact⟨hc,Or.inr ⟨g,h1⟩⟩
theorem shown_mem (vc:Value) {H:Hart} (hl:H.regs.length=32) (vm:Value) (cy tk bk:Int):(shownCells vc H vm cy tk bk)[36]? = some vm:=by
 have hz:=Hart.cells_size hl
 unfold shownCells
 rw [List.getElem?_toArray,List.getElem?_cons_succ,List.getElem?_append_right (by simp [hz])]
 simp [hz]
theorem run_hart {a b c:Int} {h:Hart} {m:List Int} (ask:Asked a b c h m) (sc:List Int) (n:Nat):(runCore a b c h m sc n).hart.regs.length=32:=by
 have hs:=run_shown ask sc n
 have h1:=(runP_ok (runCore a b c h m sc n).commits.length (h:=h) (m:=m) ⟨ask.hart,ask.may,ask.bytes⟩).1
 rw [hs.run] at h1
 exact h1.hart.len
theorem runC_any (a b c:Int) (h:Hart) (A:Option Addr) (cap:Nat) (m:List Int) (A2:Option Addr) (cap2:Nat) (sc:List Int) (cycles:Int) (w:World) (hh:h.Wf) (hl:m.length≤140737488351232) (hm:Bytes m) (hA:IntsAt w w.heap.size .u8 A m) (hnil:A=none→m=[])
  (hl2:sc.length≤4611686018427387904) (hS:IntsAt w w.heap.size .i64 A2 sc) (hSn:A2=none→sc=[]∧cap2=0) (hS1:sc.length≤cap2) (hS2:cap2≤9223372036854775807) (hSb:∀ x∈sc,x≤9223372036854775807) (s0 : -9223372036854775808≤cycles) (s1:cycles≤9223372036854775807) :
  Calls Try.prog 6 #[.agg #[.int .i64 a, .int .i64 b, .int .i64 c], .agg h.cells, .slice A m.length cap, .slice A2 sc.length cap2, .int .i64 cycles] w (RunAny w (wrongC a b c h m.length sc.length cycles) (runCore a b c h m sc cycles.toNat)):=by
 by_cases hno:wrongC a b c h m.length sc.length cycles=0
 ·obtain⟨ask,h1,h2,h3⟩:=asked_of hh hm hno
  have hrl:=run_hart ask sc cycles.toNat
  refine(runC_ok a b c h A cap m A2 cap2 sc cycles w ask hA hnil hS hSn hS1 hS2 h1 hSb h2 h3).mono ?_
  rintro e w' ⟨hb,vc,vm,rfl,hvc,hvm⟩
  obtain⟨AC,cC,rfl⟩:=own_value hvc
  obtain⟨AM,cM,rfl⟩:=own_value hvm
  obtain⟨f1,f2⟩:=own_form hvc
  refine⟨hb,_,AC,_,cC,AM,_,cM,by rw [hno],shown_size _ hrl _ _ _ _,shown_one _ _ _ _ _ _ _ _ _ _,(shown_at _ hrl _ _ _ _).1,shown_mem _ hrl _ _ _ _,f1,f2,fun hx=>absurd hno hx,fun _=>⟨rfl,rfl,?_⟩⟩
  exact ComsAt.own hvc
 ·refine(runC_no a b c h A cap m.length A2 cap2 sc.length cycles w hh.len hl hl2 s0 s1 hno).mono ?_
  rintro e w' ⟨rfl,hb⟩
  exact⟨hb,shown0,none,0,0,none,0,0,rfl,shown0_size,shown0_one,rfl,shown_mem _ rfl _ _ _ _,Nat.le_refl _,Or.inl rfl,fun _=>rfl,fun hx=>absurd hx hno⟩
theorem ComsAt.front {w:World} {B:Nat} {A:Option Addr} {l k:List Com} (h:ComsAt w B A (l++k)):ComsAt w B A l:=fun hne=>by
 obtain⟨g,cur,h1,h2,h3,h4,h5⟩:=h (by simp [hne])
 have hlen:(l++k).length=l.length+k.length:=List.length_append
 refine⟨g,cur,h1,h2,h3,by omega,?_⟩
 have e:cur.toList.take (l.length*11)=(cur.toList.take ((l++k).length*11)).take (l.length*11):=by rw [List.take_take,Nat.min_eq_left (by omega)]
 rw [e,h5,comsV_append]
 exact List.take_left' (comsV_len l)
theorem alike_front {h:Hart} {m:List Int} {L1 L2:List Com} {x1 x2:Hart×List Int} (r1:runP L1.length h m=(L1,x1)) (r2:runP L2.length h m=(L2,x2)):∃ L R1 R2,L1=L++R1∧L2=L++R2∧L.length=min L1.length L2.length:=by
 have e1:(runP L1.length h m).1=L1:=by rw [r1]
 have e2:(runP L2.length h m).1=L2:=by rw [r2]
 rcases Nat.le_total L1.length L2.length with hle | hle
 ·have:=run_same (h:=h) (m:=m) hle (by rw [e1])
  rw [e1,e2] at this
  refine⟨L1,[],L2.drop L1.length,by simp,?_,by omega⟩
  have h9:=(List.take_append_drop L1.length L2).symm
  rw [this] at h9
  exact h9
 ·have:=run_same (h:=h) (m:=m) hle (by rw [e2])
  rw [e1,e2] at this
  refine⟨L2,L1.drop L2.length,[],?_,by simp,by omega⟩
  have h9:=(List.take_append_drop L2.length L1).symm
  rw [this] at h9
  exact h9
theorem wp_slice_h {P:Program} {o:Oper} {a:Act} {w:World} {K:Act→World→Prop} {Q:Exit→Act→World→Prop} (t:TypeId) (x y:Operand) (ho:o.op = .slice t x none (some y) none) (A:Option Addr) (n c k s:Nat) (hx:a.eval x = .slice A n c) (hy:a.eval y = .int .i64 k)
  (ht:P.underlying t=some (.slice (P.elem t))) (hs:(sizeOf (P.elem t)).run P w = .ok s w) (hA:A=none∨∃ g,A=some ⟨g,0,none⟩) (hk:k≤c) (hK:K (a.put o.dst (.slice A k c)) w):o.wp P a w K Q:=by
 have hr:=run_slice_h (P:=P) w t A n c ht .i64 (k:Int) (by omega) (by omega)
 rw [←run_sliceAt_slice (P:=P) w t _ _ _ _ ht,hs] at hr
 have e:sliced A 0 (k:Int).toNat c s = .slice A k c:=by
  unfold sliced
  rw [Int.toNat_natCast,Nat.sub_zero,Nat.sub_zero,Nat.zero_mul]
  rcases hA with rfl | ⟨g,rfl⟩
  ·simp
  ·simp [Addr.add_lit]
 rw [Result.andThen_ok,e] at hr
 unfold Oper.wp execOp
 simp only [ho,hx,hy,Option.map_some,Option.map_none,Sem.run_bind,Sem.run_pure,Result.andThen_ok,hr]
 exact hK
theorem coms_elem:Try.prog.underlying 32=some (.slice (Try.prog.elem 32)):=by kernel_rfl
theorem coms_sizeOf (w:World):(sizeOf (Try.prog.elem 32)).run Try.prog w = .ok 11 w:=by
 have h:Try.prog.elem 32=65:=by kernel_rfl
 obtain⟨i0,hi,hz0,hz1,hz2⟩:=info_parts coms_info
 rw [h]
 simp [sizeOf,typeInfo,hi,hz1]
end Go.Proofs.Ytapgojgcmlnbgac
namespace Go.Proofs.Ytapgojgcmlnbgac
open Go.RowKit
theorem com_size:(Try.prog.info? 65).map (·.size)=some 11:=by kernel_rfl
theorem msame_any (A A':Option Addr) (cap cap':Nat) (l:List Com) (w:World) (hl:l.length≤1000000) (hw:∀ c∈l,c.Wf) (hA:ComsAt w w.heap.size A l) (hA':ComsAt w w.heap.size A' l) :
  Calls Try.prog 7 #[.slice A l.length cap, .slice A' l.length cap'] w fun e w'=>e = .returned (.bool true)∧Below w.heap.size w w':=by
 obtain⟨N,hN⟩:∃ N,N=l.length:=⟨_,rfl⟩
 rw [←hN] at hl ⊢
 have HA:=Lib.hid hA
 have HA':=Lib.hid hA'
 have HW:=Lib.hid hw
 have HN:=Lib.hid hN
 clear hA hA' hw hN
 have e0:((N:Int) != (N:Int))=false:=by simp
 go_enter Try.func7,Try.ntmps7
 go_upto_region 4 with(fail)
 clear e0
 go_loopw [5] (fun v wr=>∃ k:Nat,v = .int .i64 k∧k≤N∧Below w.heap.size w wr) (fun v _=>N+1 - (intOf v).toNat)
 case atStart=>exact⟨0,rfl,Nat.zero_le _,Below.refl _ _⟩
 case round=>
  obtain⟨k,rfl,hk,hb⟩:=hrel
  by_cases hlt:k<N
  ·have hk':k<l.length:=by rw [←HN.out];exact hlt
   obtain⟨g,cur,rfl,hgB,hB,hs,he⟩:=(HA.out.below hb).at_ hk'
   obtain⟨g',cur',rfl,hgB',hB',hs',he'⟩:=(HA'.out.below hb).at_ hk'
   have hc:=Lib.hid (com_eql (HW.out _ (List.getElem_mem hk')))
   generalize l[k]=c at he he' hc
   have He:=Lib.hid he
   have He':=Lib.hid he'
   clear he he'
   go_upto_region 6 with(fail)
   refine wp_region_below (by kernel_rfl) (by kernel_rfl) ?_
   repeat'(first
    |refine wpMix_plain rfl ?_
    |(refine' wpMixW_quiet _ (fun wq hwq K hK=>?_) ?_ ?_;rotate_left 1;(· first | ((first | (refine wp_load_blk 65 _ rfl g (k*11) rfl 65 cur 11 _ (hB.ext hwq) Try.underlying65 rfl com_size hs ?_;rw [He.out];exact hK _ hwq) | (refine wp_load_blk 65 _ rfl g' (k*11) rfl 65 cur' 11 _ (hB'.ext hwq) Try.underlying65 rfl com_size hs' ?_;rw [He'.out];exact hK _ hwq) | (refine wp_neq_self' 65 _ _ _ rfl c.cells rfl rfl com_guard (neq_self' _ (hc.out _)) ?_;exact hK _ hwq))) | (go_wp2_with(fail);all_goals exact hK _ hwq));rfl)
    |((first | refine wpMix_guardT rfl rfl rfl ?_ ?_ | refine wpMix_guardF rfl rfl rfl ?_ ?_)<;>intro hc<;>first | (cases hc;done) | ((try cases hc);simp only [Act.put,sA,sS,sZ]))
    |refine wpMix_guardU rfl rfl rfl ?_)
   all_goals
    refine wpMix_nil ?_
    intro w9 hw9
    simp only [Act.put,sA,sS,sZ]
    have hb9:=hb.trans (hw9.mono hb.size)
    go_wp2
    go_roundw
    case rel=>exact⟨k+1,by go_num,by omega,hb9⟩
    case measure=>simp [intOf];omega
  ·obtain rfl:k=N:=by omega
   have e1:decide ((k:Int)<k)=false:=by simp
   go_wp2
   go_ret
   exact⟨rfl,hb⟩
end Go.Proofs.Ytapgojgcmlnbgac
