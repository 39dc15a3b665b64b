/- Parts of a proof. -/
import Derived.Test.YtapgojgcmlnbgaaGreatDoorK07
import Derived.Test.YtapgojgcmlnbgaaGreatDoorK09
import Derived.Test.YtapgojgcmlnbgaaGreatDoorK18
set_option linter.unusedSimpArgs false
set_option linter.unusedVariables false
set_option maxRecDepth 100000
set_option maxHeartbeats 16000000
namespace Go.Proofs.YtapgojgcmlnbgaaGreatDoor
open Go Go.RowKit
theorem Abv:(Tryz.prog.info? 30).map (·.size)=some 35:=by kernel_rfl
theorem Qi {t:TypeId} {w:World} {g:Nat} {p:Plr} {vM vC:Value} (hl:p.hart.regs.length=32) (h:Blk w g t (B9 p vM vC)):(loadVar 30 ⟨g,0,none⟩).run Tryz.prog w = .ok (.agg p.hart.cells) w:=by
 have:=Ew (P:=Tryz.prog) w g 0 t 30 _ 35 _ h Tryz.underlying30 rfl Abv (by rw [Uh hl];decide)
 rwa [Aln hl] at this
theorem Als:(Tryz.prog.info? 26).map (·.size)=some 3:=by kernel_rfl
theorem Afj {t:TypeId} {w:World} {g:Nat} {p:Plr} {vM vC:Value} (hl:p.hart.regs.length=32) (h:Blk w g t (B9 p vM vC)):(loadVar 26 ⟨g,36,none⟩).run Tryz.prog w = .ok (.agg #[.int .i64 p.window, .int .i64 p.phys, .int .i64 p.wide]) w:=by
 have:=Ew (P:=Tryz.prog) w g 36 t 26 _ 3 _ h Tryz.underlying26 rfl Als (by rw [Uh hl];decide)
 rwa [Ai5 hl] at this
theorem Ab2 {M R:Plr→Int→List Com×Ap×Int} (H:Adt M R) {B:Nat} (g:Nat) (p:Plr) (vM vC:Value) (s:List UInt8) (ws:List (List UInt8)) (x:Int) (w:World) (V:F5 B w) (hB:B≤g) (hp:Em p) (hP:Ej 59 w g p vM vC) (hl:s.length≤2000000) (hws:Au 32 s=G8::ws) (hn:Db ws=some [x]) :
  Calls Tryz.prog 16 #[.pointer (some ⟨g,0,none⟩),sV s] w (B8 59 w g (p,Kp (M p x).1 (M p x).2.1 (M p x).2.2)):=by
 obtain⟨k0,hk0⟩:∃ k0,k0=G8:=⟨_,rfl⟩
 rw [←hk0] at hws
 have HK0:=Lib.hid hk0
 clear hk0
 obtain⟨l,hl9⟩:∃ l,l=[x]:=⟨_,rfl⟩
 rw [←hl9] at hn
 have HL9:=Lib.hid hl9
 clear hl9
 have HT:=Lib.hid (H.tellM hp x)
 have HM:=Lib.hid (H.callM hp x)
 generalize M p x=Y at HT HM
 obtain⟨AM,cM,rfl⟩:=Aq hP.mem
 obtain⟨Post,hPost⟩:∃ P,P=B8 59 w g (p,Kp Y.1 Y.2.1 Y.2.2):=⟨_,rfl⟩
 rw [←hPost]
 have HPO:=Lib.hid hPost
 have zg:=hP.box.lt
 have CS:=Ex 32 s w V (by omega)
 have hlw:=Dn 32 s
 rw [hws] at CS hlw
 have hs:∀ x∈ws,x.length≤4294967296:=fun x hx=>by have:=B0 32 s x (by rw [hws];exact List.mem_cons_of_mem _ hx);omega
 simp only [List.length_cons] at hlw
 have hnl:=Dg hn
 have hnw:=D7 hn
 have hll:l.length≤2000001:=by omega
 have CN:=Lib.hid (fun A n cap hA hAA=>Fe (k0:=k0) (ws:=ws) (t:=9) V (by omega) (by omega) hs (fun A cap hst=>I2 A ws cap l _ (V.ext ((Below.refl B w).alloc (by omega) _)) (by simp;omega) (by omega) hs hst hn) A n cap hA hAA)
 have CSH:=Lib.hid CS
 have HPP:=Lib.hid hP
 have HNW:=Lib.hid hnw
 have hb1:Below w.heap.size w (w.alloc (.cells ((k0::ws).map sV).toArray 9)):=(Below.refl _ _).alloc (Nat.le_refl _) _
 have hbk:=Blk.new w 9 ((k0::ws).map sV).toArray
 have HB1:=Lib.hid (And.intro hb1 hbk)
 clear CS hPost hP hs hn hws hb1 hbk hnl hlw hnw
 go_enter Tryz.func16,Tryz.ntmps16
 rcases ws with _ | ⟨y,ws⟩
 all_goals
  go_upto_region 6 with(first
   |(go_at_call 15;(with_reducible refine CSH.out.mono ?_);rintro e w2 ⟨rfl,rfl⟩)
   |(go_at_call 27;(refine(CN.out _ _ _ rfl (by first | exact Or.inl rfl | exact Or.inr rfl | exact Or.inr trivial)).mono ?_);rintro e w3 ⟨A',cap',rfl,hown,hb3⟩))
  try go_simp
  have hb9:=HB1.out.1.trans (hb3.mono HB1.out.1.size)
  have c0:w3.cell? ⟨w.heap.size,0,none⟩=some (sV k0):=(HB1.out.2.ext hb3).cell 0
  have HROW:=Lib.hid (G0 hown (base':=g+1) (by simp;omega))
  have HP3:=Lib.hid (HPP.out.ext hb9)
  have HB9:=Lib.hid (hb9.mono (Nat.le_of_lt zg))
  have z9:=hb9.size
  clear hown hb3 hb9 CN CSH HPP HB1
 all_goals
  have hk0:=HK0.out
  have hl9:=HL9.out
  subst hk0 hl9
  obtain⟨kb,o,rfl,hkB,hcell⟩:=(As.own HROW.out) (by simp)
  have cx:w3.cell? ⟨kb,o,none⟩=some (.int .u32 x):=hcell 0 x rfl
  have hx:=HNW.out x (by simp)
  have hh:=hp.hart.len
  have c35:w3.cell? ⟨g,35,none⟩=some (.slice AM p.mem.length cM):=(HP3.out.box.cell 35).trans (I7 hh _ _ 0)
  have zg3:=HP3.out.box.lt
  have cld:=Qi hh HP3.out.box
  have exw:IntKind.i64.wrap x=x:=IntWalk.i64_in x (by omega)
  have CM:=Lib.hid (fun W (hW:Below w3.heap.size w3 W)=>HM.out hx.1 hx.2 AM cM W (Gj HP3.out.mem hW))
  have HC35:=Lib.hid c35
  clear hcell c35 cld
  go_upto_region 19 with(fail)
  try go_simp
  refine kB (S:=fun w'=>Below w3.heap.size w3 w') (by kernel_rfl) (Below.refl _ _).drew (fun hHeld=>?_)
  refine kT 0 rfl rfl (by kernel_rfl) (by kernel_rfl) (by kernel_rfl) (fun _ _ _ h=>h) (fun wq hwq=>by go_simp;(try with_reducible rfl)) (by assumption) ?_
  simp only [Act.put,List.setIfInBounds_toArray,List.set_cons_zero,List.set_cons_succ]
  refine kT 1 rfl rfl (by kernel_rfl) (by kernel_rfl) (by kernel_rfl) (fun _ _ _ h=>h) (fun wq hwq=>by go_simp;(try with_reducible rfl)) (by assumption) ?_
  simp only [Act.put,List.setIfInBounds_toArray,List.set_cons_zero,List.set_cons_succ]
  refine kT 2 rfl rfl (by kernel_rfl) (by kernel_rfl) (by kernel_rfl) (fun _ _ _ h=>h) (fun wq hwq=>by go_simp;(try with_reducible rfl)) (by assumption) ?_
  simp only [Act.put,List.setIfInBounds_toArray,List.set_cons_zero,List.set_cons_succ]
  refine kT 3 rfl rfl (by kernel_rfl) (by kernel_rfl) (by kernel_rfl) (fun _ _ _ h=>h) (fun wq hwq=>Rf 30 _ rfl rfl (Qi hh (HP3.out.box.ext hwq))) (by assumption) ?_
  simp only [Act.put,List.setIfInBounds_toArray,List.set_cons_zero,List.set_cons_succ]
  refine kT 4 rfl rfl (by kernel_rfl) (by kernel_rfl) (by kernel_rfl) (fun _ _ _ h=>h) (fun wq hwq=>by go_simp;(try with_reducible rfl)) (by assumption) ?_
  simp only [Act.put,List.setIfInBounds_toArray,List.set_cons_zero,List.set_cons_succ]
  refine kT 5 rfl rfl (by kernel_rfl) (by kernel_rfl) (by kernel_rfl) (fun _ _ _ h=>h) (fun wq hwq=>by go_simp;(try with_reducible rfl)) (by assumption) ?_
  simp only [Act.put,List.setIfInBounds_toArray,List.set_cons_zero,List.set_cons_succ]
  refine kT 6 rfl rfl (by kernel_rfl) (by kernel_rfl) (by kernel_rfl) (fun _ _ _ h=>h) (fun wq hwq=>by go_simp;(try with_reducible rfl)) (by assumption) ?_
  simp only [Act.put,List.setIfInBounds_toArray,List.set_cons_zero,List.set_cons_succ]
  refine kT 7 rfl rfl (by kernel_rfl) (by kernel_rfl) (by kernel_rfl) (fun _ _ _ h=>h) (fun wq hwq=>by have c9:=hwq.at_ zg3 HC35.out;go_simp;(try with_reducible rfl)) (by assumption) ?_
  simp only [Act.put,List.setIfInBounds_toArray,List.set_cons_zero,List.set_cons_succ]
  refine kT 8 rfl rfl (by kernel_rfl) (by kernel_rfl) (by kernel_rfl) (fun _ _ _ h=>h) (fun wq hwq=>by go_simp;(try with_reducible rfl)) (by assumption) ?_
  simp only [Act.put,List.setIfInBounds_toArray,List.set_cons_zero,List.set_cons_succ]
  refine kT 9 rfl rfl (by kernel_rfl) (by kernel_rfl) (by kernel_rfl) (fun _ _ _ h=>h) (fun wq hwq=>by go_simp;(try with_reducible rfl)) (by assumption) ?_
  simp only [Act.put,List.setIfInBounds_toArray,List.set_cons_zero,List.set_cons_succ]
  refine kT 10 rfl rfl (by kernel_rfl) (by kernel_rfl) (by kernel_rfl) (fun _ _ _ h=>h) (fun wq hwq=>by have c9:=hwq.at_ hkB cx;go_simp;(try with_reducible rfl)) (by assumption) ?_
  simp only [Act.put,List.setIfInBounds_toArray,List.set_cons_zero,List.set_cons_succ]
  refine kT 11 rfl rfl (by kernel_rfl) (by kernel_rfl) (by kernel_rfl) (fun _ _ _ h=>h) (fun wq hwq=>by go_simp;(try with_reducible rfl)) (by assumption) ?_
  simp only [Act.put,List.setIfInBounds_toArray,List.set_cons_zero,List.set_cons_succ]
  generalize w3.drew=wd at hHeld ⊢
  refine k2 12 18 (by kernel_rfl) rfl rfl rfl rfl (fun K hK=>?_) (fun K hK=>?_)
  ·go_wp2_with(go_at_call 11;(refine(CM.out _ hHeld).mono ?_);rintro e w5 ⟨hb5,AL,cL,A2,n2,c2,rfl,hown⟩)
   refine hK.out _ _ (hHeld.trans (hb5.mono hHeld.size)) (fun hHeld=>?_)
   clear hK K
   refine kT 13 rfl rfl (by kernel_rfl) (by kernel_rfl) (by kernel_rfl) (fun _ _ _ h=>h) (fun wq hwq=>by go_simp;(try with_reducible rfl)) (by assumption) ?_
   simp only [Act.put,List.setIfInBounds_toArray,List.set_cons_zero,List.set_cons_succ]
   refine kT 14 rfl rfl (by kernel_rfl) (by kernel_rfl) (by kernel_rfl) (fun _ _ _ h=>h) (fun wq hwq=>by go_simp;(try with_reducible rfl)) (by assumption) ?_
   simp only [Act.put,List.setIfInBounds_toArray,List.set_cons_zero,List.set_cons_succ]
   refine kT 15 rfl rfl (by kernel_rfl) (by kernel_rfl) (by kernel_rfl) (fun _ _ _ h=>h) (fun wq hwq=>by go_simp;(try with_reducible rfl)) (by assumption) ?_
   simp only [Act.put,List.setIfInBounds_toArray,List.set_cons_zero,List.set_cons_succ]
   refine kT 16 rfl rfl (by kernel_rfl) (by kernel_rfl) (by kernel_rfl) (fun _ _ _ h=>h) (fun wq hwq=>by go_simp;(try with_reducible rfl)) (by assumption) ?_
   simp only [Act.put,List.setIfInBounds_toArray,List.set_cons_zero,List.set_cons_succ]
   refine kT 17 rfl rfl (by kernel_rfl) (by kernel_rfl) (by kernel_rfl) (fun _ _ _ h=>h) (fun wq hwq=>by go_simp;(try with_reducible rfl)) (by assumption) ?_
   simp only [Act.put,List.setIfInBounds_toArray,List.set_cons_zero,List.set_cons_succ]
   refine k1 18 (by kernel_rfl) rfl rfl (fun K hK=>?_)
   go_wp2_with(fail)
   refine Xm fun w6 hq=>?_
   have hBH:Blk w6 w5.heap.size 30 E7.cells:=by rw [hq];exact Blk.new w5 _ _
   have hb6:Below w5.heap.size w5 w6:=by rw [hq];exact(Below.refl _ _).alloc (Nat.le_refl _) _
   have hne:(Value.slice AL Y.1.length cL).ownBlock=none∨(Value.slice AL Y.1.length cL).ownBlock≠some w5.heap.size:=Or.inr (fun q=>by have:=(hown.lt _ q).2;omega)
   have hgH:=hHeld.size
   refine hK.out _ _ (hHeld.trans (hb6.mono hHeld.size)) (fun hHeld=>?_)
   replace hown:=Gj hown hb6
   clear hq hK K hb5 hb6
   generalize w5.heap.size=gH at *
   refine kT 19 rfl rfl (by kernel_rfl) (by kernel_rfl) (by kernel_rfl) (fun _ _ _ h=>h) (fun wq hwq=>by go_simp;(try with_reducible rfl)) (by assumption) ?_
   simp only [Act.put,List.setIfInBounds_toArray,List.set_cons_zero,List.set_cons_succ]
   refine k1 20 (by kernel_rfl) rfl rfl (fun K hK=>?_)
   refine E3 30 _ _ rfl gH Y.2.1.cells rfl rfl 30 _ hBH (Cl HT.out.hart.len) (by rw [Ap.cells_size HT.out.hart.len];rfl) (Gx _) ?_
   intro w8 hX hg8
   have hcm:=El.own (hown.kept hg8 hne)
   refine hK.out _ _ (hHeld.grown hg8 hHeld.size (fun k hk=>by cases hk;exact hgH)) (fun hHeld=>?_)
   clear hK K hBH hown hne hg8
   simp only [Act.put,List.setIfInBounds_toArray,List.set_cons_zero,List.set_cons_succ]
   refine kT 21 rfl rfl (by kernel_rfl) (by kernel_rfl) (by kernel_rfl) (fun _ _ _ h=>h) (fun wq hwq=>by go_simp;(try with_reducible rfl)) (by assumption) ?_
   simp only [Act.put,List.setIfInBounds_toArray,List.set_cons_zero,List.set_cons_succ]
   refine kT 22 rfl rfl (by kernel_rfl) (by kernel_rfl) (by kernel_rfl) (fun _ _ _ h=>h) (fun wq hwq=>by go_simp;(try with_reducible rfl)) (by assumption) ?_
   simp only [Act.put,List.setIfInBounds_toArray,List.set_cons_zero,List.set_cons_succ]
   refine kE (by kernel_rfl) ?_
   have hb8:=HB9.out.trans (hHeld.mono (Nat.le_of_lt zg3))
   have CT:=Sv AL Y cL w8 (V.ext (hb8.mono hB)) (by have:=hb8.size;omega) HT.out hcm
   have CTH:=Lib.hid CT
   clear CT c0 cx
   go_wp2_with(first
    |(refine Ac rfl 30 _ rfl gH rfl 30 _ _ hX Tryz.underlying30 rfl (Cl HT.out.hart.len) ?_)
    |(go_at_call 31;(with_reducible refine CTH.out.mono ?_);rintro e w9 ⟨rfl,hb9⟩))
   rw [HPO.out]
   exact⟨hb8.trans (hb9.mono (Nat.le_trans (Nat.le_of_lt zg3) hHeld.size)),rfl,_,_,HP3.out.ext (hHeld.trans (hb9.mono hHeld.size))⟩
  ·go_wp2_with(fail)
   refine Xm fun w5 hq=>?_
   have hBH:Blk w5 wd.heap.size 30 E7.cells:=by rw [hq];exact Blk.new wd _ _
   have hb5:Below wd.heap.size wd w5:=by rw [hq];exact(Below.refl _ _).alloc (Nat.le_refl _) _
   have zH:=hBH.lt
   have hgH:=hHeld.size
   refine hK.out _ _ (hHeld.trans (hb5.mono hHeld.size)) (fun hHeld=>?_)
   clear hq hK K hb5
   generalize wd.heap.size=gH at *
   refine k1 12 (by kernel_rfl) rfl rfl (fun K hK=>?_)
   go_wp2_with(go_at_call 11;(refine(CM.out _ hHeld).mono ?_);rintro e w6 ⟨hb6,AL,cL,A2,n2,c2,rfl,hown⟩)
   have hne:(Value.slice AL Y.1.length cL).ownBlock=none∨(Value.slice AL Y.1.length cL).ownBlock≠some gH:=Or.inr (fun q=>by have:=(hown.lt _ q).1;omega)
   refine hK.out _ _ (hHeld.trans (hb6.mono hHeld.size)) (fun hHeld=>?_)
   replace hBH:=hBH.ext hb6
   clear hK K hb6
   refine kT 13 rfl rfl (by kernel_rfl) (by kernel_rfl) (by kernel_rfl) (fun _ _ _ h=>h) (fun wq hwq=>by go_simp;(try with_reducible rfl)) (by assumption) ?_
   simp only [Act.put,List.setIfInBounds_toArray,List.set_cons_zero,List.set_cons_succ]
   refine kT 14 rfl rfl (by kernel_rfl) (by kernel_rfl) (by kernel_rfl) (fun _ _ _ h=>h) (fun wq hwq=>by go_simp;(try with_reducible rfl)) (by assumption) ?_
   simp only [Act.put,List.setIfInBounds_toArray,List.set_cons_zero,List.set_cons_succ]
   refine kT 15 rfl rfl (by kernel_rfl) (by kernel_rfl) (by kernel_rfl) (fun _ _ _ h=>h) (fun wq hwq=>by go_simp;(try with_reducible rfl)) (by assumption) ?_
   simp only [Act.put,List.setIfInBounds_toArray,List.set_cons_zero,List.set_cons_succ]
   refine kT 16 rfl rfl (by kernel_rfl) (by kernel_rfl) (by kernel_rfl) (fun _ _ _ h=>h) (fun wq hwq=>by go_simp;(try with_reducible rfl)) (by assumption) ?_
   simp only [Act.put,List.setIfInBounds_toArray,List.set_cons_zero,List.set_cons_succ]
   refine kT 17 rfl rfl (by kernel_rfl) (by kernel_rfl) (by kernel_rfl) (fun _ _ _ h=>h) (fun wq hwq=>by go_simp;(try with_reducible rfl)) (by assumption) ?_
   simp only [Act.put,List.setIfInBounds_toArray,List.set_cons_zero,List.set_cons_succ]
   refine kT 19 rfl rfl (by kernel_rfl) (by kernel_rfl) (by kernel_rfl) (fun _ _ _ h=>h) (fun wq hwq=>by go_simp;(try with_reducible rfl)) (by assumption) ?_
   simp only [Act.put,List.setIfInBounds_toArray,List.set_cons_zero,List.set_cons_succ]
   refine k1 20 (by kernel_rfl) rfl rfl (fun K hK=>?_)
   refine E3 30 _ _ rfl gH Y.2.1.cells rfl rfl 30 _ hBH (Cl HT.out.hart.len) (by rw [Ap.cells_size HT.out.hart.len];rfl) (Gx _) ?_
   intro w8 hX hg8
   have hcm:=El.own (hown.kept hg8 hne)
   refine hK.out _ _ (hHeld.grown hg8 hHeld.size (fun k hk=>by cases hk;exact hgH)) (fun hHeld=>?_)
   clear hK K hBH hown hne hg8
   simp only [Act.put,List.setIfInBounds_toArray,List.set_cons_zero,List.set_cons_succ]
   refine kT 21 rfl rfl (by kernel_rfl) (by kernel_rfl) (by kernel_rfl) (fun _ _ _ h=>h) (fun wq hwq=>by go_simp;(try with_reducible rfl)) (by assumption) ?_
   simp only [Act.put,List.setIfInBounds_toArray,List.set_cons_zero,List.set_cons_succ]
   refine kT 22 rfl rfl (by kernel_rfl) (by kernel_rfl) (by kernel_rfl) (fun _ _ _ h=>h) (fun wq hwq=>by go_simp;(try with_reducible rfl)) (by assumption) ?_
   simp only [Act.put,List.setIfInBounds_toArray,List.set_cons_zero,List.set_cons_succ]
   refine kE (by kernel_rfl) ?_
   have hb8:=HB9.out.trans (hHeld.mono (Nat.le_of_lt zg3))
   have CT:=Sv AL Y cL w8 (V.ext (hb8.mono hB)) (by have:=hb8.size;omega) HT.out hcm
   have CTH:=Lib.hid CT
   clear CT c0 cx
   go_wp2_with(first
    |(refine Ac rfl 30 _ rfl gH rfl 30 _ _ hX Tryz.underlying30 rfl (Cl HT.out.hart.len) ?_)
    |(go_at_call 31;(with_reducible refine CTH.out.mono ?_);rintro e w9 ⟨rfl,hb9⟩))
   rw [HPO.out]
   exact⟨hb8.trans (hb9.mono (Nat.le_trans (Nat.le_of_lt zg3) hHeld.size)),rfl,_,_,HP3.out.ext (hHeld.trans (hb9.mono hHeld.size))⟩
theorem Ag4 {M R:Plr→Int→List Com×Ap×Int} (H:Adt M R) {B:Nat} (g:Nat) (p:Plr) (vM vC:Value) (s:List UInt8) (ws:List (List UInt8)) (x:Int) (w:World) (V:F5 B w) (hB:B≤g) (hp:Em p) (hP:Ej 59 w g p vM vC) (hl:s.length≤2000000) (hws:Au 32 s=Pe::ws) (hn:Db ws=some [x]) :
  Calls Tryz.prog 16 #[.pointer (some ⟨g,0,none⟩),sV s] w (B8 59 w g (p,Kp (R p x).1 (R p x).2.1 (R p x).2.2)):=by
 obtain⟨k0,hk0⟩:∃ k0,k0=Pe:=⟨_,rfl⟩
 rw [←hk0] at hws
 have HK0:=Lib.hid hk0
 clear hk0
 obtain⟨l,hl9⟩:∃ l,l=[x]:=⟨_,rfl⟩
 rw [←hl9] at hn
 have HL9:=Lib.hid hl9
 clear hl9
 have HT:=Lib.hid (H.tellR hp x)
 have HM:=Lib.hid (H.callR hp x)
 generalize R p x=Y at HT HM
 obtain⟨AM,cM,rfl⟩:=Aq hP.mem
 obtain⟨AC,cC,rfl⟩:=Aq hP.cho
 obtain⟨Post,hPost⟩:∃ P,P=B8 59 w g (p,Kp Y.1 Y.2.1 Y.2.2):=⟨_,rfl⟩
 rw [←hPost]
 have HPO:=Lib.hid hPost
 have zg:=hP.box.lt
 have CS:=Ex 32 s w V (by omega)
 have hlw:=Dn 32 s
 rw [hws] at CS hlw
 have hs:∀ x∈ws,x.length≤4294967296:=fun x hx=>by have:=B0 32 s x (by rw [hws];exact List.mem_cons_of_mem _ hx);omega
 simp only [List.length_cons] at hlw
 have hnl:=Dg hn
 have hnw:=D7 hn
 have hll:l.length≤2000001:=by omega
 have CN:=Lib.hid (fun A n cap hA hAA=>Fe (k0:=k0) (ws:=ws) (t:=9) V (by omega) (by omega) hs (fun A cap hst=>I2 A ws cap l _ (V.ext ((Below.refl B w).alloc (by omega) _)) (by simp;omega) (by omega) hs hst hn) A n cap hA hAA)
 have CSH:=Lib.hid CS
 have HPP:=Lib.hid hP
 have HNW:=Lib.hid hnw
 have hb1:Below w.heap.size w (w.alloc (.cells ((k0::ws).map sV).toArray 9)):=(Below.refl _ _).alloc (Nat.le_refl _) _
 have hbk:=Blk.new w 9 ((k0::ws).map sV).toArray
 have HB1:=Lib.hid (And.intro hb1 hbk)
 clear CS hPost hP hs hn hws hb1 hbk hnl hlw hnw
 go_enter Tryz.func16,Tryz.ntmps16
 rcases ws with _ | ⟨y,ws⟩
 all_goals
  go_upto_region 6 with(first
   |(go_at_call 15;(with_reducible refine CSH.out.mono ?_);rintro e w2 ⟨rfl,rfl⟩)
   |(go_at_call 27;(refine(CN.out _ _ _ rfl (by first | exact Or.inl rfl | exact Or.inr rfl | exact Or.inr trivial)).mono ?_);rintro e w3 ⟨A',cap',rfl,hown,hb3⟩))
  try go_simp
  have hb9:=HB1.out.1.trans (hb3.mono HB1.out.1.size)
  have c0:w3.cell? ⟨w.heap.size,0,none⟩=some (sV k0):=(HB1.out.2.ext hb3).cell 0
  have HROW:=Lib.hid (G0 hown (base':=g+1) (by simp;omega))
  have HP3:=Lib.hid (HPP.out.ext hb9)
  have HB9:=Lib.hid (hb9.mono (Nat.le_of_lt zg))
  have z9:=hb9.size
  clear hown hb3 hb9 CN CSH HPP HB1
 all_goals
  have hk0:=HK0.out
  have hl9:=HL9.out
  subst hk0 hl9
  obtain⟨kb,o,rfl,hkB,hcell⟩:=(As.own HROW.out) (by simp)
  have cx:w3.cell? ⟨kb,o,none⟩=some (.int .u32 x):=hcell 0 x rfl
  have hx:=HNW.out x (by simp)
  have hh:=hp.hart.len
  have c35:w3.cell? ⟨g,35,none⟩=some (.slice AM p.mem.length cM):=(HP3.out.box.cell 35).trans (I7 hh _ _ 0)
  have zg3:=HP3.out.box.lt
  have cld:=Qi hh HP3.out.box
  have exw:IntKind.i64.wrap x=x:=IntWalk.i64_in x (by omega)
  have c39:w3.cell? ⟨g,39,none⟩=some (.slice AC p.choices.length cC):=(HP3.out.box.cell 39).trans (I7 hh _ _ 4)
  have CM:=Lib.hid (fun W (hW:Below w3.heap.size w3 W)=>HM.out hx.1 hx.2 AM cM AC cC W (Gj HP3.out.mem hW) (Gj HP3.out.cho hW))
  have HC35:=Lib.hid (And.intro c35 c39)
  clear hcell c35 c39 cld
  go_upto_region 22 with(fail)
  try go_simp
  refine kB (S:=fun w'=>Below w3.heap.size w3 w') (by kernel_rfl) (Below.refl _ _).drew (fun hHeld=>?_)
  refine kT 0 rfl rfl (by kernel_rfl) (by kernel_rfl) (by kernel_rfl) (fun _ _ _ h=>h) (fun wq hwq=>by go_simp;(try with_reducible rfl)) (by assumption) ?_
  simp only [Act.put,List.setIfInBounds_toArray,List.set_cons_zero,List.set_cons_succ]
  refine kT 1 rfl rfl (by kernel_rfl) (by kernel_rfl) (by kernel_rfl) (fun _ _ _ h=>h) (fun wq hwq=>by go_simp;(try with_reducible rfl)) (by assumption) ?_
  simp only [Act.put,List.setIfInBounds_toArray,List.set_cons_zero,List.set_cons_succ]
  refine kT 2 rfl rfl (by kernel_rfl) (by kernel_rfl) (by kernel_rfl) (fun _ _ _ h=>h) (fun wq hwq=>by go_simp;(try with_reducible rfl)) (by assumption) ?_
  simp only [Act.put,List.setIfInBounds_toArray,List.set_cons_zero,List.set_cons_succ]
  refine kT 3 rfl rfl (by kernel_rfl) (by kernel_rfl) (by kernel_rfl) (fun _ _ _ h=>h) (fun wq hwq=>Rf 26 _ rfl rfl (Afj hh (HP3.out.box.ext hwq))) (by assumption) ?_
  simp only [Act.put,List.setIfInBounds_toArray,List.set_cons_zero,List.set_cons_succ]
  refine kT 4 rfl rfl (by kernel_rfl) (by kernel_rfl) (by kernel_rfl) (fun _ _ _ h=>h) (fun wq hwq=>by go_simp;(try with_reducible rfl)) (by assumption) ?_
  simp only [Act.put,List.setIfInBounds_toArray,List.set_cons_zero,List.set_cons_succ]
  refine kT 5 rfl rfl (by kernel_rfl) (by kernel_rfl) (by kernel_rfl) (fun _ _ _ h=>h) (fun wq hwq=>by go_simp;(try with_reducible rfl)) (by assumption) ?_
  simp only [Act.put,List.setIfInBounds_toArray,List.set_cons_zero,List.set_cons_succ]
  refine kT 6 rfl rfl (by kernel_rfl) (by kernel_rfl) (by kernel_rfl) (fun _ _ _ h=>h) (fun wq hwq=>by go_simp;(try with_reducible rfl)) (by assumption) ?_
  simp only [Act.put,List.setIfInBounds_toArray,List.set_cons_zero,List.set_cons_succ]
  refine kT 7 rfl rfl (by kernel_rfl) (by kernel_rfl) (by kernel_rfl) (fun _ _ _ h=>h) (fun wq hwq=>Rf 30 _ rfl rfl (Qi hh (HP3.out.box.ext hwq))) (by assumption) ?_
  simp only [Act.put,List.setIfInBounds_toArray,List.set_cons_zero,List.set_cons_succ]
  refine kT 8 rfl rfl (by kernel_rfl) (by kernel_rfl) (by kernel_rfl) (fun _ _ _ h=>h) (fun wq hwq=>by go_simp;(try with_reducible rfl)) (by assumption) ?_
  simp only [Act.put,List.setIfInBounds_toArray,List.set_cons_zero,List.set_cons_succ]
  refine kT 9 rfl rfl (by kernel_rfl) (by kernel_rfl) (by kernel_rfl) (fun _ _ _ h=>h) (fun wq hwq=>by go_simp;(try with_reducible rfl)) (by assumption) ?_
  simp only [Act.put,List.setIfInBounds_toArray,List.set_cons_zero,List.set_cons_succ]
  refine kT 10 rfl rfl (by kernel_rfl) (by kernel_rfl) (by kernel_rfl) (fun _ _ _ h=>h) (fun wq hwq=>by go_simp;(try with_reducible rfl)) (by assumption) ?_
  simp only [Act.put,List.setIfInBounds_toArray,List.set_cons_zero,List.set_cons_succ]
  refine kT 11 rfl rfl (by kernel_rfl) (by kernel_rfl) (by kernel_rfl) (fun _ _ _ h=>h) (fun wq hwq=>by have c9:=hwq.at_ zg3 HC35.out.1;go_simp;(try with_reducible rfl)) (by assumption) ?_
  simp only [Act.put,List.setIfInBounds_toArray,List.set_cons_zero,List.set_cons_succ]
  refine kT 12 rfl rfl (by kernel_rfl) (by kernel_rfl) (by kernel_rfl) (fun _ _ _ h=>h) (fun wq hwq=>by go_simp;(try with_reducible rfl)) (by assumption) ?_
  simp only [Act.put,List.setIfInBounds_toArray,List.set_cons_zero,List.set_cons_succ]
  refine kT 13 rfl rfl (by kernel_rfl) (by kernel_rfl) (by kernel_rfl) (fun _ _ _ h=>h) (fun wq hwq=>by go_simp;(try with_reducible rfl)) (by assumption) ?_
  simp only [Act.put,List.setIfInBounds_toArray,List.set_cons_zero,List.set_cons_succ]
  refine kT 14 rfl rfl (by kernel_rfl) (by kernel_rfl) (by kernel_rfl) (fun _ _ _ h=>h) (fun wq hwq=>by go_simp;(try with_reducible rfl)) (by assumption) ?_
  simp only [Act.put,List.setIfInBounds_toArray,List.set_cons_zero,List.set_cons_succ]
  refine kT 15 rfl rfl (by kernel_rfl) (by kernel_rfl) (by kernel_rfl) (fun _ _ _ h=>h) (fun wq hwq=>by have c9:=hwq.at_ zg3 HC35.out.2;go_simp;(try with_reducible rfl)) (by assumption) ?_
  simp only [Act.put,List.setIfInBounds_toArray,List.set_cons_zero,List.set_cons_succ]
  refine kT 16 rfl rfl (by kernel_rfl) (by kernel_rfl) (by kernel_rfl) (fun _ _ _ h=>h) (fun wq hwq=>by go_simp;(try with_reducible rfl)) (by assumption) ?_
  simp only [Act.put,List.setIfInBounds_toArray,List.set_cons_zero,List.set_cons_succ]
  refine kT 17 rfl rfl (by kernel_rfl) (by kernel_rfl) (by kernel_rfl) (fun _ _ _ h=>h) (fun wq hwq=>by go_simp;(try with_reducible rfl)) (by assumption) ?_
  simp only [Act.put,List.setIfInBounds_toArray,List.set_cons_zero,List.set_cons_succ]
  refine kT 18 rfl rfl (by kernel_rfl) (by kernel_rfl) (by kernel_rfl) (fun _ _ _ h=>h) (fun wq hwq=>by have c9:=hwq.at_ hkB cx;go_simp;(try with_reducible rfl)) (by assumption) ?_
  simp only [Act.put,List.setIfInBounds_toArray,List.set_cons_zero,List.set_cons_succ]
  refine kT 19 rfl rfl (by kernel_rfl) (by kernel_rfl) (by kernel_rfl) (fun _ _ _ h=>h) (fun wq hwq=>by go_simp;(try with_reducible rfl)) (by assumption) ?_
  simp only [Act.put,List.setIfInBounds_toArray,List.set_cons_zero,List.set_cons_succ]
  generalize w3.drew=wd at hHeld ⊢
  refine k2 20 24 (by kernel_rfl) rfl rfl rfl rfl (fun K hK=>?_) (fun K hK=>?_)
  ·go_wp2_with(go_at_call 13;(refine(CM.out _ hHeld).mono ?_);rintro e w5 ⟨hb5,AL,cL,A2,n2,c2,cy,tk,bk,T,hT,rfl,hown⟩;have HTT:=Lib.hid hT;clear hT)
   refine hK.out _ _ (hHeld.trans (hb5.mono hHeld.size)) (fun hHeld=>?_)
   clear hK K
   refine kT 21 rfl rfl (by kernel_rfl) (by kernel_rfl) (by kernel_rfl) (fun _ _ _ h=>h) (fun wq hwq=>by go_simp;(try with_reducible rfl)) (by assumption) ?_
   simp only [Act.put,List.setIfInBounds_toArray,List.set_cons_zero,List.set_cons_succ]
   refine kT 22 rfl rfl (by kernel_rfl) (by kernel_rfl) (by kernel_rfl) (fun _ _ _ h=>h) (fun wq hwq=>by go_simp;(try with_reducible rfl)) (by assumption) ?_
   simp only [Act.put,List.setIfInBounds_toArray,List.set_cons_zero,List.set_cons_succ]
   refine kT 23 rfl rfl (by kernel_rfl) (by kernel_rfl) (by kernel_rfl) (fun _ _ _ h=>h) (fun wq hwq=>by go_simp;(try with_reducible rfl)) (by assumption) ?_
   simp only [Act.put,List.setIfInBounds_toArray,List.set_cons_zero,List.set_cons_succ]
   refine k1 24 (by kernel_rfl) rfl rfl (fun K hK=>?_)
   go_wp2_with(fail)
   refine Xm fun w6 hq=>?_
   have hBH:Blk w6 w5.heap.size 49 Mg:=by rw [hq];exact Blk.new w5 _ _
   have hb6:Below w5.heap.size w5 w6:=by rw [hq];exact(Below.refl _ _).alloc (Nat.le_refl _) _
   have hne:(Value.slice AL Y.1.length cL).ownBlock=none∨(Value.slice AL Y.1.length cL).ownBlock≠some w5.heap.size:=Or.inr (fun q=>by have:=(hown.lt _ q).2;omega)
   have hgH:=hHeld.size
   refine hK.out _ _ (hHeld.trans (hb6.mono hHeld.size)) (fun hHeld=>?_)
   replace hown:=Gj hown hb6
   clear hq hK K hb5 hb6
   generalize w5.heap.size=gH at *
   have hTz:T.size=40:=by rw [HTT.out];exact Mh _ HT.out.hart.len _ _ _ _
   have hT1:T.all (·.oneCell')=true:=by rw [HTT.out];exact N8 _ _ _ _ _ _ _ _ _ _
   have hTx:T.extract 1 (1+35)=Y.2.1.cells:=by rw [HTT.out];exact Sb _ HT.out.hart.len _ _ _ _
   have hT0:T[0]? = some (.slice AL Y.1.length cL):=by rw [HTT.out];rfl
   refine k1 25 (by kernel_rfl) rfl rfl (fun K hK=>?_)
   refine E3 49 _ _ rfl gH T rfl rfl 49 _ hBH (Ir hTz) (by rw [hTz];rfl) hT1 ?_
   intro w8 hX hg8
   have hcm:=El.own (hown.kept hg8 hne)
   refine hK.out _ _ (hHeld.grown hg8 hHeld.size (fun k hk=>by cases hk;exact hgH)) (fun hHeld=>?_)
   clear hK K hBH hown hne hg8
   simp only [Act.put,List.setIfInBounds_toArray,List.set_cons_zero,List.set_cons_succ]
   refine kT 26 rfl rfl (by kernel_rfl) (by kernel_rfl) (by kernel_rfl) (fun _ _ _ h=>h) (fun wq hwq=>by go_simp;(try with_reducible rfl)) (by assumption) ?_
   simp only [Act.put,List.setIfInBounds_toArray,List.set_cons_zero,List.set_cons_succ]
   refine kE (by kernel_rfl) ?_
   have hb8:=HB9.out.trans (hHeld.mono (Nat.le_of_lt zg3))
   have CTH:=Lib.hid (Sv AL Y cL w8 (V.ext (hb8.mono hB)) (by have:=hb8.size;omega) HT.out hcm)
   have cX:=(hX.cell 0).trans hT0
   clear c0 cx hT0 hT1 hcm
   go_wp2_with(first
    |(refine Aj rfl 30 _ rfl gH 1 rfl 49 T 35 _ hX Tryz.underlying30 rfl Abv (by rw [hTz];decide) ?_;rw [hTx])
    |(go_at_call 31;(with_reducible refine CTH.out.mono ?_);rintro e w9 ⟨rfl,hb9⟩))
   rw [HPO.out]
   exact⟨hb8.trans (hb9.mono (Nat.le_trans (Nat.le_of_lt zg3) hHeld.size)),rfl,_,_,HP3.out.ext (hHeld.trans (hb9.mono hHeld.size))⟩
  ·go_wp2_with(fail)
   refine Xm fun w5 hq=>?_
   have hBH:Blk w5 wd.heap.size 49 Mg:=by rw [hq];exact Blk.new wd _ _
   have hb5:Below wd.heap.size wd w5:=by rw [hq];exact(Below.refl _ _).alloc (Nat.le_refl _) _
   have zH:=hBH.lt
   have hgH:=hHeld.size
   refine hK.out _ _ (hHeld.trans (hb5.mono hHeld.size)) (fun hHeld=>?_)
   clear hq hK K hb5
   generalize wd.heap.size=gH at *
   refine k1 20 (by kernel_rfl) rfl rfl (fun K hK=>?_)
   go_wp2_with(go_at_call 13;(refine(CM.out _ hHeld).mono ?_);rintro e w6 ⟨hb6,AL,cL,A2,n2,c2,cy,tk,bk,T,hT,rfl,hown⟩;have HTT:=Lib.hid hT;clear hT)
   have hne:(Value.slice AL Y.1.length cL).ownBlock=none∨(Value.slice AL Y.1.length cL).ownBlock≠some gH:=Or.inr (fun q=>by have:=(hown.lt _ q).1;omega)
   refine hK.out _ _ (hHeld.trans (hb6.mono hHeld.size)) (fun hHeld=>?_)
   replace hBH:=hBH.ext hb6
   clear hK K hb6
   refine kT 21 rfl rfl (by kernel_rfl) (by kernel_rfl) (by kernel_rfl) (fun _ _ _ h=>h) (fun wq hwq=>by go_simp;(try with_reducible rfl)) (by assumption) ?_
   simp only [Act.put,List.setIfInBounds_toArray,List.set_cons_zero,List.set_cons_succ]
   refine kT 22 rfl rfl (by kernel_rfl) (by kernel_rfl) (by kernel_rfl) (fun _ _ _ h=>h) (fun wq hwq=>by go_simp;(try with_reducible rfl)) (by assumption) ?_
   simp only [Act.put,List.setIfInBounds_toArray,List.set_cons_zero,List.set_cons_succ]
   refine kT 23 rfl rfl (by kernel_rfl) (by kernel_rfl) (by kernel_rfl) (fun _ _ _ h=>h) (fun wq hwq=>by go_simp;(try with_reducible rfl)) (by assumption) ?_
   simp only [Act.put,List.setIfInBounds_toArray,List.set_cons_zero,List.set_cons_succ]
   have hTz:T.size=40:=by rw [HTT.out];exact Mh _ HT.out.hart.len _ _ _ _
   have hT1:T.all (·.oneCell')=true:=by rw [HTT.out];exact N8 _ _ _ _ _ _ _ _ _ _
   have hTx:T.extract 1 (1+35)=Y.2.1.cells:=by rw [HTT.out];exact Sb _ HT.out.hart.len _ _ _ _
   have hT0:T[0]? = some (.slice AL Y.1.length cL):=by rw [HTT.out];rfl
   refine k1 25 (by kernel_rfl) rfl rfl (fun K hK=>?_)
   refine E3 49 _ _ rfl gH T rfl rfl 49 _ hBH (Ir hTz) (by rw [hTz];rfl) hT1 ?_
   intro w8 hX hg8
   have hcm:=El.own (hown.kept hg8 hne)
   refine hK.out _ _ (hHeld.grown hg8 hHeld.size (fun k hk=>by cases hk;exact hgH)) (fun hHeld=>?_)
   clear hK K hBH hown hne hg8
   simp only [Act.put,List.setIfInBounds_toArray,List.set_cons_zero,List.set_cons_succ]
   refine kT 26 rfl rfl (by kernel_rfl) (by kernel_rfl) (by kernel_rfl) (fun _ _ _ h=>h) (fun wq hwq=>by go_simp;(try with_reducible rfl)) (by assumption) ?_
   simp only [Act.put,List.setIfInBounds_toArray,List.set_cons_zero,List.set_cons_succ]
   refine kE (by kernel_rfl) ?_
   have hb8:=HB9.out.trans (hHeld.mono (Nat.le_of_lt zg3))
   have CTH:=Lib.hid (Sv AL Y cL w8 (V.ext (hb8.mono hB)) (by have:=hb8.size;omega) HT.out hcm)
   have cX:=(hX.cell 0).trans hT0
   clear c0 cx hT0 hT1 hcm
   go_wp2_with(first
    |(refine Aj rfl 30 _ rfl gH 1 rfl 49 T 35 _ hX Tryz.underlying30 rfl Abv (by rw [hTz];decide) ?_;rw [hTx])
    |(go_at_call 31;(with_reducible refine CTH.out.mono ?_);rintro e w9 ⟨rfl,hb9⟩))
   rw [HPO.out]
   exact⟨hb8.trans (hb9.mono (Nat.le_trans (Nat.le_of_lt zg3) hHeld.size)),rfl,_,_,HP3.out.ext (hHeld.trans (hb9.mono hHeld.size))⟩
end Go.Proofs.YtapgojgcmlnbgaaGreatDoor
