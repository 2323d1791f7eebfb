/- The references of chapter 27: Coins, Assets, Balance. The reference of chapter 27: Balance. -/
import Derived.Test.YtckcamlicgdklaaGreatN40
import Derived.Test.YtckcamlicgdklaaGreatN19
namespace Go.Proofs.YtckcamlicgdklaaGreat
open Go.RowKit Go.Mo Go.Sort
def zAdr:Adr:=⟨false,List.replicate 32 0,rfl⟩
theorem built41:Tryz.prog.built 41 []=some (adrCells zAdr).toArray:=by kernel_rfl
theorem load_sl28 {w:World} {p:Addr} {a:Option Addr} {n c:Nat} (h:w.cell? p=some (.slice a n c)):(loadVar 28 p).run Tryz.prog w=.ok (.slice a n c) w:=by
 go_simp
theorem load_n2 {w:World} {p:Addr} {z:Int} (h:w.cell? p=some (.int .i64 z)):(loadVar 2 p).run Tryz.prog w=.ok (.int .i64 z) w:=by
 go_simp
theorem wides_three (w:World) (a b c:Int):WideAt (w.alloc (.cells #[.int .i64 (hiW a),.int .u64 (loW a),.int .i64 (hiW b),.int .u64 (loW b),.int .i64 (hiW c),.int .u64 (loW c)] 48)) (.slice (some ⟨w.heap.size,0,none⟩) 3 3) [a,b,c]:=by
 have hB:=newB w (.cells #[.int .i64 (hiW a),.int .u64 (loW a),.int .i64 (hiW b),.int .u64 (loW b),.int .i64 (hiW c),.int .u64 (loW c)] 48)
 refine ⟨some ⟨w.heap.size,0,none⟩,3,rfl,fun i y hy=>?_⟩
 have hi:i<3:=by have:=(List.getElem?_eq_some_iff.1 hy).1; simpa using this
 have:i=0∨i=1∨i=2:=by omega
 rcases this with rfl|rfl|rfl <;>
 ·simp at hy; subst hy
  exact ⟨_,0,rfl,ltB hB,by rw [cellB hB]; rfl,by rw [cellB hB]; rfl⟩
theorem exec_wides3 (act:Act) (o:Oper) {w:World} {x y u:Operand} (ho:o.op=.buildSlice 97 3 #[(0,x),(1,y),(2,u)]) (a b c:Int) (hx:act.eval x=wideV a) (hy:act.eval y=wideV b) (hu:act.eval u=wideV c) :
  (execOp act.eval o).run Tryz.prog w=.ok (.value (.slice (some ⟨w.heap.size,0,none⟩) 3 3)) (w.alloc (.cells #[.int .i64 (hiW a),.int .u64 (loW a),.int .i64 (hiW b),.int .u64 (loW b),.int .i64 (hiW c),.int .u64 (loW c)] 48)):=by
 obtain ⟨i57,hi,hz0,hz1,hz2⟩:=info_parts info57
 have:=exec_slicesL act o (w:=w) [(0,x),(1,y),(2,u)] ho [wideV a,wideV b,wideV c] (by simp [hx,hy,hu]) (E:=48) (s:=2) Tryz.underlying97 hi hz0 hz1 (by omega) rfl (by omega) (by omega) (by
  intro v hv
  simp only [List.mem_cons,List.not_mem_nil,or_false] at hv
  rcases hv with rfl|rfl|rfl <;> rfl)
 simpa [Value.cells,wideV] using this
theorem refPlus3 (w:World) (v:Value) (a b c:Int) (h:WideAt w v [a,b,c]):Calls Tryz.prog 36 #[v] w fun e w'=>e=.returned (wideV (a+(b+c)))/\Mod N0 w w':=by
 have:=refPlus_calls w v [a,b,c] h (by simp)
 simpa using this
theorem resR15 {tmps:Array Value} {b:Nat} {W:World} {z:Int} (ht:tmps[2]?.getD undef=.pointer (some ⟨b,0,none⟩)) (h:W.heap[b]?=some (.cells #[.int .i64 (hiW z),.int .u64 (loW z)] 48 (0,0))):(results Tryz.f15 tmps).run Tryz.prog W=.ok (wideV z) W:=by
 have s0:=cellB h 0
 have s1:=cellB h 1
 simp only [List.getElem?_toArray,List.getElem?_cons_zero,List.getElem?_cons_succ] at s0 s1
 simp [results,Tryz.results15,go_sem,ht,s0,s1,wideV]
theorem resR11 {tmps:Array Value} {b:Nat} {W:World} {z:Int} {u:Value} (ht:tmps[4]?.getD undef=.pointer (some ⟨b,0,none⟩)) (hu:tmps[5]?.getD undef=u) (h:W.heap[b]?=some (.cells #[.int .i64 (hiW z),.int .u64 (loW z)] 48 (0,0))):(results Tryz.f11 tmps).run Tryz.prog W=.ok (.tuple #[wideV z,u]) W:=by
 have s0:=cellB h 0
 have s1:=cellB h 1
 simp only [List.getElem?_toArray,List.getElem?_cons_zero,List.getElem?_cons_succ] at s0 s1
 simp [results,Tryz.results11,go_sem,ht,hu,s0,s1,wideV]
theorem vAssets_filter (p:Ent->Bool):∀ es:List Ent,(vAssets ((es.filter p).map (·.val))).length<=(vAssets (es.map (·.val))).length
|[]=>by simp [vAssets]
|x :: es=>by
  have ih:=vAssets_filter p es
  rw [List.filter_cons]
  split <;> simp only [vAssets,List.map_cons,List.flatMap_cons,List.length_append] at * <;> omega
/-- values, then Sums: what both give, together. -/
theorem vals_sums {w:World} {v:Value} {es:List Ent} (h:EntsAt w v es) (hn:(vAssets (es.map (·.val))).length<=900000) {w2:World} {v':Value} {l:List (Val×Value)} (p:Ent->Bool) (hl:l.map (·.1)=((es.filter p).map (·.val))) (hr:RowV w w2 v' l) (hm:Mod N0 w w2) :
  Calls Tryz.prog 32 #[v'] w2 fun e w'=>∃ u,e=.returned (.tuple #[wideV (coins ((es.filter p).map (·.val))),u])/\OutAt w2 w' u ((putAll (vAssets ((es.filter p).map (·.val)))).filter (nzW ·.2))/\Mod N0 w2 w':=by
 obtain ⟨a,c,rfl,hlen,_⟩:=h
 have hv:=hr.vals hm
 rw [hl] at hv
 exact refSums_calls w2 v' _ hv (Nat.le_trans (vAssets_filter p es) hn) (by rw [List.length_map]; exact Nat.le_trans (List.length_filter_le _ _) hlen)
set_option maxRecDepth 100000 in
set_option maxHeartbeats 1000000 in
theorem refCoins_calls (w:World) (cs:List Value) (sv:Value) (fees forf:Int) (hc:StC cs sv fees forf) (hf:In64 fees) (hg:In64 forf) (es:List Ent) (h:EntsAt w sv es) (hn:(vAssets (es.map (·.val))).length<=900000) :
  Calls Tryz.prog 15 #[.agg cs.toArray] w fun e w'=>e=.returned (wideV (coins (es.map (·.val))+(fees+forf)))/\Mod N0 w w':=by
 have hb1:=newB w (.cells cs.toArray 36)
 have hm1:=(Mod.refl N0 w).alloc (.cells cs.toArray 36)
 have hz1:(w.alloc (.cells cs.toArray 36)).heap.size=w.heap.size+1:=by simp
 have HH:=hh (And.intro h hn)
 have HC:=hh (And.intro hc (And.intro hf hg))
 obtain ⟨sa,sc,rfl,_⟩:=h
 clear hn hc hf hg
 go_enter Tryz.func15,Tryz.ntmps15
 go_upto_region 0 with fail
 refine wp_region_lit ?_
 refine ww (exec_box _ _ 36 cs rfl rfl) ?_
 generalize w.alloc (.cells cs.toArray 36)=w1 at hb1 hm1 hz1 ⊢
 have hr1:=newB w1 (.cells #[.int .i64 0,.int .u64 0] 48)
 rw [hz1] at hr1
 refine ww (exec_alloc _ _ 48 #[.int .i64 0,.int .u64 0] rfl zv57) ?_
 have hb2:=allocB hb1 (.cells #[.int .i64 0,.int .u64 0] 48)
 have hm2:=hm1.alloc (.cells #[.int .i64 0,.int .u64 0] 48)
 rw [hz1]
 clear hb1 hm1 hz1
 generalize w1.alloc (.cells #[.int .i64 0,.int .u64 0] 48)=wa at hr1 hb2 hm2 ⊢
 have HB:=hh (And.intro hb2 (And.intro hr1 hm2))
 clear hr1 hb2 hm2
 have HV:=hh (values_all wa _ es (HH.out.1.tr HB.out.2.2) zAdr)
 rw [filter_all] at HV
 go_upto_region 1 with fail
 refine wp_region_lit ?_
 refine ex (v:=.pointer (some ⟨w.heap.size,44,none⟩)) ?_
 refine wx (exec_load_pt _ _ 28 _ rfl ⟨w.heap.size,44,none⟩ rfl (load_sl28 (by rw [cellB HB.out.1,List.getElem?_toArray]; exact HC.out.1.ents))) ?_
 refine wx (exec_buildL _ _ [] rfl [] rfl _ built41) ?_
 go_wp2_with fail
 refine HV.out.mono ?_
 rintro e w2 ⟨v',l,rfl,hl,hrow,hm2⟩
 rename_i hK
 refine hK _ _ ?_
 clear hK
 (try simp only [Act.put,ja,jb,jc])
 have HS:=hh (vals_sums (HH.out.1.tr HB.out.2.2) HH.out.2 (fun _=>true) (by rw [filter_all]; exact hl) hrow hm2)
 rw [filter_all] at HS
 have HM2:=hh hm2
 clear hl hrow hm2
 go_wp2_with fail
 refine HS.out.mono ?_
 rintro e w3 ⟨u,rfl,hu,hm3⟩
 rename_i hK
 refine hK _ _ ?_
 clear hK
 (try simp only [Act.put,ja,jb,jc])
 have HU:=hh (And.intro hu (HM2.out.tr hm3))
 clear hu hm3 HS HV
 generalize hS:coins (es.map (·.val))=S
 have HSE:=hh hS
 clear hS
 refine ex (v:=.tuple #[wideV S,u]) ?_
 refine ex (v:=wideV S) ?_
 refine ex (v:=u) ?_
 have hz3:=newB w3 (.cells #[.int .i64 0,.int .u64 0] 48)
 have hst:=store57 _ w3.heap.size S hz3
 have hC3:=setRow_same (cs:=#[.int .i64 (hiW S),.int .u64 (loW S)]) hz3
 have hm4:Mod N0 w3 ((w3.alloc (.cells #[.int .i64 0,.int .u64 0] 48)).setRow w3.heap.size #[.int .i64 (hiW S),.int .u64 (loW S)]):=Mod_setRow ((Mod.refl _ w3).alloc (.cells #[.int .i64 0,.int .u64 0] 48)) (b:=w3.heap.size) (fun q=>by omega) _
 refine ww (exec_alloc _ _ 48 #[.int .i64 0,.int .u64 0] rfl zv57) ?_
 generalize (w3.alloc (.cells #[.int .i64 0,.int .u64 0] 48)).setRow w3.heap.size #[.int .i64 (hiW S),.int .u64 (loW S)]=w4 at hst hC3 hm4
 refine wpList_execS rfl (exec_store_pt _ _ rfl rfl rfl hst) ?_
 (try simp only [Act.put])
 have H4:=hh (And.intro hC3 (And.intro (HU.out.2.tr hm4) (HU.out.1.tr hm4 (fun _ _ q=>q))))
 have HL4:=hh (show wa.heap.size<=w3.heap.size from HU.out.2.size)
 clear hst hC3 hm4 hz3
 generalize w3.heap.size=b3 at H4 HL4 ⊢
 have HX:=hh ((H4.out.2.1.block _ (ltB HB.out.1) (fun q=>q)).trans HB.out.1)
 have HXR:=hh ((H4.out.2.1.block _ (ltB HB.out.2.1) (fun q=>q)).trans HB.out.2.1)
 go_upto_region 2 with fail
 refine wp_region_held_drew (S:=fun W=>Mod (fun q=>q=w.heap.size+1) w4 W) (by kernel_rfl) (Mod.refl _ w4).drew (fun hH=>?_)
 refine tk (i:=0) (oi:=⟨some 13,.load 48 (.tmp 3),48, "ref.go:24",#[],none⟩) (v:=wideV S) hH (fun w' hSw=>by exact exec_load_pt _ _ 48 _ rfl ⟨b3,0,none⟩ rfl (load57_box ((hSw.block _ (ltB H4.out.1) (fun q=>by have:=ltB HB.out.2.1; have:=HL4.out; omega)).trans H4.out.1))) ?_
 refine tq (i:=1) (oi:=⟨some 14,.fieldAddr 36 (.tmp 1) 7,0, "ref.go:24",#[],none⟩) (v:=.pointer (some ⟨w.heap.size,177,none⟩)) hH ?_
 refine tk (i:=2) (oi:=⟨some 15,.load 2 (.tmp 14),2, "ref.go:24",#[⟨1,.data⟩],none⟩) (v:=.int .i64 fees) hH (fun w' hSw=>by exact exec_load_pt _ _ 2 _ rfl ⟨w.heap.size,177,none⟩ rfl (load_n2 (by rw [cellB ((hSw.block _ (ltB HX.out) (fun q=>by omega)).trans HX.out),List.getElem?_toArray]; exact HC.out.1.fees))) ?_
 refine tq (i:=4) (oi:=⟨some 17,.fieldAddr 36 (.tmp 1) 8,0, "ref.go:24",#[],none⟩) (v:=.pointer (some ⟨w.heap.size,178,none⟩)) hH ?_
 refine tk (i:=5) (oi:=⟨some 18,.load 2 (.tmp 17),2, "ref.go:24",#[⟨4,.data⟩],none⟩) (v:=.int .i64 forf) hH (fun w' hSw=>by exact exec_load_pt _ _ 2 _ rfl ⟨w.heap.size,178,none⟩ rfl (load_n2 (by rw [cellB ((hSw.block _ (ltB HX.out) (fun q=>by omega)).trans HX.out),List.getElem?_toArray]; exact HC.out.1.forf))) ?_
 refine tr (rs:=[3]) ?_
 refine AllReadyH.cons (o:=⟨some 16,.call {callee:=.value (.func 37),args:=#[.tmp 15],argTypes:=#[2]},48, "ref.go:24",#[⟨2,.data⟩],none⟩) rfl (fun K hK=>?_) AllReadyH.nil
 go_simp
 refine (refWide_calls fees HC.out.2.1.1 HC.out.2.1.2 w4.drew).mono ?_
 rintro e w5 ⟨rfl,hm5⟩
 have HM5:=hh (((Mod.refl N0 w4).drew).tr hm5)
 clear hm5
 refine hK.out _ _ (HM5.out.any) (fun hH=>?_)
 clear hK K
 (try simp only [Act.put,ja,jb,jc])
 refine tr (rs:=[6]) ?_
 refine AllReadyH.cons (o:=⟨some 19,.call {callee:=.value (.func 37),args:=#[.tmp 18],argTypes:=#[2]},48, "ref.go:24",#[⟨5,.data⟩,⟨3,.chain⟩],none⟩) rfl (fun K hK=>?_) AllReadyH.nil
 go_simp
 refine (refWide_calls forf HC.out.2.2.1 HC.out.2.2.2 w5).mono ?_
 rintro e w6 ⟨rfl,hm6⟩
 have HM6:=hh (HM5.out.tr hm6)
 clear hm6
 refine hK.out _ _ (HM6.out.any) (fun hH=>?_)
 clear hK K
 (try simp only [Act.put,ja,jb,jc])
 refine tr (rs:=[7]) ?_
 refine AllReadyH.cons (o:=⟨some 20,.buildSlice 97 3 #[(0,.tmp 13),(1,.tmp 16),(2,.tmp 19)],97, "ref.go:24",#[⟨0,.data⟩,⟨3,.data⟩,⟨6,.data⟩],none⟩) rfl (fun K hK=>?_) AllReadyH.nil
 refine step_execW rfl (exec_wides3 _ _ rfl S fees forf rfl rfl rfl) ?_
 have hW:=wides_three w6 S fees forf
 have hm7:=(Mod.refl N0 w6).alloc (.cells #[.int .i64 (hiW S),.int .u64 (loW S),.int .i64 (hiW fees),.int .u64 (loW fees),.int .i64 (hiW forf),.int .u64 (loW forf)] 48)
 generalize w6.alloc (.cells #[.int .i64 (hiW S),.int .u64 (loW S),.int .i64 (hiW fees),.int .u64 (loW fees),.int .i64 (hiW forf),.int .u64 (loW forf)] 48)=w7 at hW hm7 ⊢
 generalize w6.heap.size=g6 at hW ⊢
 have HC7:=hh (refPlus3 w7 _ _ _ _ hW)
 have HM7:=hh (HM6.out.tr hm7)
 clear hW hm7
 refine hK.out _ _ (HM7.out.any) (fun hH=>?_)
 clear hK K
 (try simp only [Act.put,ja,jb,jc])
 refine tr (rs:=[8]) ?_
 refine AllReadyH.cons (o:=⟨some 21,.call {callee:=.value (.func 36),args:=#[.tmp 20],argTypes:=#[97]},48, "ref.go:24",#[⟨7,.data⟩,⟨6,.chain⟩],none⟩) rfl (fun K hK=>?_) AllReadyH.nil
 go_simp
 refine HC7.out.mono ?_
 rintro e w8 ⟨rfl,hm8⟩
 have HM8:=hh (HM7.out.tr hm8)
 clear hm8 HC7
 refine hK.out _ _ (HM8.out.any) (fun hH=>?_)
 clear hK K
 (try simp only [Act.put,ja,jb,jc])
 have hR8:=(HM8.out.block _ (ltB HXR.out) (fun q=>q)).trans HXR.out
 have hst:=store57 w8 (w.heap.size+1) (S+(fees+forf)) hR8
 have hC9:=setRow_same (cs:=#[.int .i64 (hiW (S+(fees+forf))),.int .u64 (loW (S+(fees+forf)))]) hR8
 have hm9:=Mod_setRow (Mod.refl (fun q=>q=w.heap.size+1) w8) (b:=w.heap.size+1) (fun _=>rfl) #[.int .i64 (hiW (S+(fees+forf))),.int .u64 (loW (S+(fees+forf)))]
 generalize w8.setRow (w.heap.size+1) #[.int .i64 (hiW (S+(fees+forf))),.int .u64 (loW (S+(fees+forf)))]=w9 at hst hC9 hm9
 refine tr (rs:=[9]) ?_
 refine AllReadyH.cons (o:=⟨none,.store 48 (.tmp 2) (.tmp 21),0, "ref.go:24",#[⟨8,.data⟩,⟨8,.chain⟩,⟨0,.phase⟩,⟨1,.phase⟩,⟨2,.phase⟩,⟨3,.phase⟩,⟨4,.phase⟩,⟨5,.phase⟩,⟨6,.phase⟩,⟨7,.phase⟩,⟨8,.phase⟩],none⟩) rfl (fun K hK=>?_) AllReadyH.nil
 refine step_execS rfl (exec_store_pt _ _ rfl rfl rfl hst) ?_
 have HM9:=hh ((HM8.out.any (S:=fun q=>q=w.heap.size+1)).tr hm9)
 have H9:=hh hC9
 clear hst hC9 hm9 hR8
 refine hK.out _ _ HM9.out (fun hH=>?_)
 clear hK K
 (try simp only [Act.put])
 refine wpAnyH_done (by kernel_rfl) ?_ _
 go_wp2_with fail
 exact bodyPost_ret (v:=wideV (S+(fees+forf))) (resR15 rfl H9.out) rfl ⟨by rw [HSE.out],(HB.out.2.2.tr H4.out.2.1).trans HM9.out (fun q e hl=>by omega)⟩
set_option maxRecDepth 100000 in
set_option maxHeartbeats 1000000 in
theorem refAssets_calls (w:World) (cs:List Value) (sv:Value) (fees forf:Int) (hc:StC cs sv fees forf) (hf:In64 fees) (hg:In64 forf) (es:List Ent) (h:EntsAt w sv es) (hn:(vAssets (es.map (·.val))).length<=900000) :
  Calls Tryz.prog 16 #[.agg cs.toArray] w fun e w'=>∃ u,e=.returned u/\OutAt w w' u ((putAll (vAssets (es.map (·.val)))).filter (nzW ·.2))/\Mod N0 w w':=by
 have hb1:=newB w (.cells cs.toArray 36)
 have hm1:=(Mod.refl N0 w).alloc (.cells cs.toArray 36)
 have hz1:(w.alloc (.cells cs.toArray 36)).heap.size=w.heap.size+1:=by simp
 have HH:=hh (And.intro h hn)
 have HC:=hh (And.intro hc (And.intro hf hg))
 obtain ⟨sa,sc,rfl,_⟩:=h
 clear hn hc hf hg
 go_enter Tryz.func16,Tryz.ntmps16
 go_upto_region 0 with fail
 refine wp_region_lit ?_
 refine ww (exec_box _ _ 36 cs rfl rfl) ?_
 generalize w.alloc (.cells cs.toArray 36)=w1 at hb1 hm1 hz1 ⊢
 have HB:=hh (And.intro hb1 (And.intro trivial hm1))
 clear hb1 hm1 hz1
 generalize w1=wa at HB ⊢
 have HV:=hh (values_all wa _ es (HH.out.1.tr HB.out.2.2) zAdr)
 rw [filter_all] at HV
 go_upto_region 1 with fail
 refine wp_region_lit ?_
 refine ex (v:=.pointer (some ⟨w.heap.size,44,none⟩)) ?_
 refine wx (exec_load_pt _ _ 28 _ rfl ⟨w.heap.size,44,none⟩ rfl (load_sl28 (by rw [cellB HB.out.1,List.getElem?_toArray]; exact HC.out.1.ents))) ?_
 refine wx (exec_buildL _ _ [] rfl [] rfl _ built41) ?_
 go_wp2_with fail
 refine HV.out.mono ?_
 rintro e w2 ⟨v',l,rfl,hl,hrow,hm2⟩
 rename_i hK
 refine hK _ _ ?_
 clear hK
 (try simp only [Act.put,ja,jb,jc])
 have HS:=hh (vals_sums (HH.out.1.tr HB.out.2.2) HH.out.2 (fun _=>true) (by rw [filter_all]; exact hl) hrow hm2)
 rw [filter_all] at HS
 have HM2:=hh hm2
 clear hl hrow hm2
 go_wp2_with fail
 refine HS.out.mono ?_
 rintro e w3 ⟨u,rfl,hu,hm3⟩
 rename_i hK
 refine hK _ _ ?_
 clear hK
 (try simp only [Act.put,ja,jb,jc])
 have HU:=hh (And.intro hu (HM2.out.tr hm3))
 clear hu hm3 HS HV
 generalize hS:coins (es.map (·.val))=S
 have HSE:=hh hS
 clear hS
 refine ex (v:=.tuple #[wideV S,u]) ?_
 refine ex (v:=wideV S) ?_
 refine ex (v:=u) ?_
 have hz3:=newB w3 (.cells #[.int .i64 0,.int .u64 0] 48)
 have hst:=store57 _ w3.heap.size S hz3
 have hC3:=setRow_same (cs:=#[.int .i64 (hiW S),.int .u64 (loW S)]) hz3
 have hm4:Mod N0 w3 ((w3.alloc (.cells #[.int .i64 0,.int .u64 0] 48)).setRow w3.heap.size #[.int .i64 (hiW S),.int .u64 (loW S)]):=Mod_setRow ((Mod.refl _ w3).alloc (.cells #[.int .i64 0,.int .u64 0] 48)) (b:=w3.heap.size) (fun q=>by omega) _
 refine ww (exec_alloc _ _ 48 #[.int .i64 0,.int .u64 0] rfl zv57) ?_
 generalize (w3.alloc (.cells #[.int .i64 0,.int .u64 0] 48)).setRow w3.heap.size #[.int .i64 (hiW S),.int .u64 (loW S)]=w4 at hst hC3 hm4
 refine wpList_execS rfl (exec_store_pt _ _ rfl rfl rfl hst) ?_
 (try simp only [Act.put])
 have H4:=hh (And.intro hC3 (And.intro (HU.out.2.tr hm4) (HU.out.1.tr hm4 (fun _ _ q=>q))))
 have HL4:=hh (show wa.heap.size<=w3.heap.size from HU.out.2.size)
 clear hst hC3 hm4 hz3
 generalize w3.heap.size=b3 at H4 HL4 ⊢
 go_wp2_with fail
 go_ret
 exact ⟨u,rfl,H4.out.2.2.lift (by have:=HM2.out.size; have:=HB.out.2.2.size; omega),HB.out.2.2.tr H4.out.2.1⟩
end Go.Proofs.YtckcamlicgdklaaGreat
namespace Go.Proofs.YtckcamlicgdklaaGreat
open Go.RowKit Go.Mo Go.Sort
set_option maxRecDepth 100000 in
set_option maxHeartbeats 1000000 in
theorem refBalance_calls (w:World) (cs:List Value) (sv:Value) (fees forf:Int) (hc:StC cs sv fees forf) (t:Adr) (es:List Ent) (h:EntsAt w sv es) (hn:(vAssets (es.map (·.val))).length<=900000) :
  Calls Tryz.prog 11 #[.agg cs.toArray,.agg (adrCells t).toArray] w fun e w'=>∃ u,e=.returned (.tuple #[wideV (coins ((es.filter fun x=>decide (x.addr=t)).map (·.val))),u])/\OutAt w w' u ((putAll (vAssets ((es.filter fun x=>decide (x.addr=t)).map (·.val)))).filter (nzW ·.2))/\Mod N0 w w':=by
 obtain ⟨w1,hw1⟩:∃ w1,((w.alloc (.cells cs.toArray 36)).alloc (.cells (adrCells t).toArray 41)).alloc (.cells #[.int .i64 0,.int .u64 0] 48)=w1:=⟨_,rfl⟩
 have hA:w1.heap[w.heap.size]?=some (.cells cs.toArray 36 (0,0)):=by rw [← hw1]; exact allocB (allocB (newB w _) _) _
 have hQ:w1.heap[w.heap.size+1]?=some (.cells (adrCells t).toArray 41 (0,0)):=by
  rw [← hw1]; have:=newB (w.alloc (.cells cs.toArray 36)) (.cells (adrCells t).toArray 41); rw [World.size_alloc] at this; exact allocB this _
 have hR:w1.heap[w.heap.size+1+1]?=some (.cells #[.int .i64 0,.int .u64 0] 48 (0,0)):=by
  rw [← hw1]; have:=newB ((w.alloc (.cells cs.toArray 36)).alloc (.cells (adrCells t).toArray 41)) (.cells #[.int .i64 0,.int .u64 0] 48); rwa [World.size_alloc,World.size_alloc] at this
 have hm:Mod N0 w w1:=by rw [← hw1]; exact (((Mod.refl _ w).alloc _).alloc _).alloc _
 have HB:=hh (And.intro hA (And.intro hQ (And.intro hR hm)))
 have HH:=hh (And.intro h hn)
 have HC:=hh hc
 have HV:=hh (values_one w1 sv es (h.tr hm) t)
 obtain ⟨sa,sc,rfl,_⟩:=h
 clear hA hQ hR hm hn hc
 go_enter Tryz.func11,Tryz.ntmps11
 go_upto_region 0 with fail
 refine wp_region_lit ?_
 refine ww (exec_box _ _ 36 cs rfl rfl) ?_
 refine ww (exec_box _ _ 41 (adrCells t) rfl rfl) ?_
 refine ww (exec_alloc _ _ 48 #[.int .i64 0,.int .u64 0] rfl zv57) ?_
 simp only [World.size_alloc]
 rw [hw1]
 clear hw1
 go_upto_region 1 with fail
 refine wp_region_lit ?_
 refine ex (v:=.pointer (some ⟨w.heap.size,44,none⟩)) ?_
 refine wx (exec_load_pt _ _ 28 _ rfl ⟨w.heap.size,44,none⟩ rfl (load_sl28 (by rw [cellB HB.out.1,List.getElem?_toArray]; exact HC.out.ents))) ?_
 refine wx (exec_load_pt _ _ 41 _ rfl ⟨w.heap.size+1,0,none⟩ rfl (load40 HB.out.2.1)) ?_
 go_wp2_with fail
 refine HV.out.mono ?_
 rintro e w2 ⟨v',l,rfl,hl,hrow,hm2⟩
 rename_i hK
 refine hK _ _ ?_
 clear hK
 (try simp only [Act.put,ja,jb,jc])
 have HS:=hh (vals_sums (HH.out.1.tr HB.out.2.2.2) HH.out.2 (fun x=>decide (x.addr=t)) hl hrow hm2)
 have HM2:=hh hm2
 clear hl hrow hm2
 go_wp2_with fail
 refine HS.out.mono ?_
 rintro e w3 ⟨u,rfl,hu,hm3⟩
 rename_i hK
 refine hK _ _ ?_
 clear hK
 (try simp only [Act.put,ja,jb,jc])
 have HU:=hh (And.intro hu (And.intro (HM2.out.tr hm3) hm3.size))
 clear hu hm3 HS HV
 generalize hS:coins ((es.filter fun x=>decide (x.addr=t)).map (·.val))=S
 have HSE:=hh hS
 clear hS
 refine ex (v:=wideV S) ?_
 refine ex (v:=u) ?_
 have hR3:=(HU.out.2.1.block _ (ltB HB.out.2.2.1) (fun q=>q)).trans HB.out.2.2.1
 have hst:=store57 w3 (w.heap.size+1+1) S hR3
 have hC4:=setRow_same (cs:=#[.int .i64 (hiW S),.int .u64 (loW S)]) hR3
 have hm4:=Mod_setRow (Mod.refl (fun q=>q=w.heap.size+1+1) w3) (b:=w.heap.size+1+1) (fun _=>rfl) #[.int .i64 (hiW S),.int .u64 (loW S)]
 generalize w3.setRow (w.heap.size+1+1) #[.int .i64 (hiW S),.int .u64 (loW S)]=w4 at hst hC4 hm4
 refine wpList_execS rfl (exec_store_pt _ _ rfl rfl rfl hst) ?_
 (try simp only [Act.put])
 have hsz2:=HM2.out.size
 have hlt2:=ltB HB.out.2.2.1
 have H4:=hh (And.intro hC4 (And.intro ((HB.out.2.2.2.tr HU.out.2.1).trans hm4 (fun q e hl=>by omega)) (show OutAt w w4 u _ from (HU.out.1.tr hm4 (fun q hq e=>by omega)).lift (by omega))))
 clear hst hC4 hm4 hR3 hsz2 hlt2
 go_wp2_with fail
 exact bodyPost_ret (v:=.tuple #[wideV S,u]) (resR11 rfl rfl H4.out.1) rfl ⟨u,by rw [HSE.out],H4.out.2.2,H4.out.2.1⟩
end Go.Proofs.YtckcamlicgdklaaGreat
