/- CopyState. -/
import Derived.Test.YtckcamlicgdklaaGreatN28
namespace Go.Proofs.YtckcamlicgdklaaGreat
open Go.RowKit Go.Mo
theorem zi36:∃ z:Array Value,(∀ w,(zeroValue 36).run Tryz.prog w=.ok (.agg z) w)/\(Tryz.prog.info? 36).map (fun i=>(i.zero,i.size,i.bytes))=some (some (.agg z),182,400)/\z.size=182:=⟨_,Tryz.zeroValue36,by kernel_rfl,by kernel_rfl⟩
set_option maxRecDepth 100000 in
set_option maxHeartbeats 1000000 in
theorem copyState {w0:World} (cs:List Value) (hr:Rd w0 36 cs) (w:World) (hm:Mod N0 w0 w):Calls Tryz.prog 8 #[.agg cs.toArray] w fun e w'=>CpR w0 13 36 w cs e w':=by
 have hl:=hr.len Tryz.underlying36
 rw [zc36] at hl
 obtain ⟨u2,hu2,hru2⟩:=hr.cellAt Tryz.underlying36 2 rfl 28 44 rfl rfl zc28 zc36 (by omega)
 obtain ⟨a2,l2,c2,rfl,_⟩:=id (hru2.slice Tryz.underlying28 zc73 (by omega))
 have HU2:=hh hu2
 have HR2:=hh hru2
 clear hu2 hru2
 obtain ⟨u3,hu3,hru3⟩:=hr.cellAt Tryz.underlying36 3 rfl 29 45 rfl rfl zc29 zc36 (by omega)
 obtain ⟨a3,l3,c3,rfl,_⟩:=id (hru3.slice Tryz.underlying29 zc145 (by omega))
 have HU3:=hh hu3
 have HR3:=hh hru3
 clear hu3 hru3
 obtain ⟨u9,hu9,hru9⟩:=hr.cellAt Tryz.underlying36 9 rfl 33 179 rfl rfl zc33 zc36 (by omega)
 obtain ⟨a9,l9,c9,rfl,_⟩:=id (hru9.slice Tryz.underlying33 zc78 (by omega))
 have HU9:=hh hu9
 have HR9:=hh hru9
 clear hu9 hru9
 obtain ⟨u10,hu10,hru10⟩:=hr.cellAt Tryz.underlying36 10 rfl 34 180 rfl rfl zc34 zc36 (by omega)
 obtain ⟨a10,l10,c10,rfl,_⟩:=id (hru10.slice Tryz.underlying34 zc158 (by omega))
 have HU10:=hh hu10
 have HR10:=hh hru10
 clear hu10 hru10
 obtain ⟨z,hzv,_,hzs⟩:=zi36
 have hA0:((w.alloc (.cells cs.toArray 36)).alloc (.cells z 36)).heap[w.heap.size]?=some (.cells cs.toArray 36 (0,0)):=allocB (newB w _) _
 have hZ0:((w.alloc (.cells cs.toArray 36)).alloc (.cells z 36)).heap[w.heap.size+1]?=some (.cells z 36 (0,0)):=by
  have:=newB (w.alloc (.cells cs.toArray 36)) (.cells z 36); rwa [World.size_alloc] at this
 have hM0:Mod N0 w ((w.alloc (.cells cs.toArray 36)).alloc (.cells z 36)):=((Mod.refl _ w).alloc _).alloc _
 have HZV:=hh (And.intro hzv hzs)
 have HL:=hh hl
 have HM:=hh hm
 have HON:=hh (ones36 hr)
 have HN:=hh hm.size
 clear hzv hzs hl hm hr
 go_enter Tryz.func8,Tryz.ntmps8
 go_upto_region 0 with fail
 refine wp_region_lit ?_
 refine ww (exec_box _ _ 36 cs rfl rfl) ?_
 refine ww (exec_alloc _ _ 36 z rfl HZV.out.1) ?_
 rw [World.size_alloc]
 generalize (w.alloc (.cells cs.toArray 36)).alloc (.cells z 36)=w1 at hA0 hZ0 hM0 ⊢
 have HA0:=hh hA0
 have HZ0:=hh hZ0
 have HM0:=hh hM0
 clear hA0 hZ0 hM0
 go_upto_region 1 with fail
 refine wp_region_lit ?_
 refine ex (v:=.pointer (some ⟨w.heap.size,44,none⟩)) ?_
 have hsub:(cs.drop 44).take 1=(cs.drop 44).take 1:=by
  rfl
 have hc:cs[44]?=some (.slice a2 l2 c2):=flat_cell hsub HU2.out
 have s:w1.cell? ⟨w.heap.size,44,none⟩=some (.slice a2 l2 c2):=(cellB HA0.out 44).trans (by rw [List.getElem?_toArray]; exact hc)
 refine ex (v:=.slice a2 l2 c2) ?_
 clear s hc
 clear hsub
 have HCC:=hh (copyEntries (.slice a2 l2 c2) HR2.out w1 (HM.out.tr HM0.out))
 go_wp2_with fail
 refine HCC.out.mono ?_
 rintro e w1x ⟨x2,rfl,one2,heq2,hm2⟩
 rename_i hK
 refine hK _ _ ?_
 clear hK
 (try simp only [Act.put,ja,jb,jc])
 obtain ⟨mq,hmq,sa,xa2,sl,sc,xc2,hsl,rfl,hqq⟩:=id (heq2.slice rfl Tryz.underlying28 zc73)
 simp only [Value.slice.injEq] at hsl
 obtain ⟨hsa,rfl,hsc⟩:=hsl
 clear hsa hsc hmq hqq mq
 have hAx:=(hm2.block _ (ltB HA0.out) (fun q=>q)).trans HA0.out
 have hZx:=(hm2.block _ (ltB HZ0.out) (fun q=>q)).trans HZ0.out
 have hMx:=HM0.out.tr hm2
 have hst:=store_slice28 (w:=w1x) (a:=xa2) (n:=l2) (c:=xc2) ((cellB hAx 44).trans (by rw [List.getElem?_toArray]; exact List.getElem?_eq_getElem (by rw [HL.out]; omega))) (frozB hAx 44)
 have hAn:=setCell_box hAx 44 (.slice xa2 l2 xc2) (by rw [HL.out]; omega)
 have hmn:Mod (fun q=>q=w.heap.size) w1x (w1x.setCell ⟨w.heap.size,44,none⟩ (.slice xa2 l2 xc2)):=(Mod.refl (fun q=>q=w.heap.size) w1x).setCell (p:=⟨w.heap.size,44,none⟩) (fun _=>rfl) _
 generalize (w1x.setCell ⟨w.heap.size,44,none⟩ (.slice xa2 l2 xc2))=w2 at hst hAn hmn
 have hZn:=(hmn.block _ (ltB hZx) (fun q=>by omega)).trans hZx
 have hMn:Mod N0 w w2:=hMx.trans hmn (fun q e hl=>by omega)
 have HQ2:=hh (EqX.keep (Q':=fun q=>w.heap.size+1<q) heq2 hmn (fun q e=>by subst e; exact ⟨HN.out,fun h=>by have:=ltB HA0.out; omega⟩) (fun q _ h=>by have:=ltB HZ0.out; first|omega|(simp only at h ⊢; omega)) (show 6<=12 by omega))
 have HA1:=hh hAn
 have HZ1:=hh hZn
 have HM1:=hh hMn
 have HPL1:=hh (show (patch cs 44 [.slice xa2 l2 xc2]).length=182 from (patch_length (by rw [show ([.slice xa2 l2 xc2]:List Value).length=1 from rfl,HL.out]; omega)).trans HL.out)
 have HXL2:=hh (show ([.slice xa2 l2 xc2]:List Value).length=1 from rfl)
 have HX12:=hh (show ∀ u∈([.slice xa2 l2 xc2]:List Value),u.oneCell'=true from fun u hu=>by simp at hu; subst hu; rfl)
 have HST:=hh hst
 clear hAx hZx hMx hAn hmn hZn hMn hst heq2 hm2 one2 HCC
 refine ex (v:=.pointer (some ⟨w.heap.size,44,none⟩)) ?_
 refine wpList_execS rfl (exec_store_pt _ _ rfl rfl rfl HST.out) ?_
 (try simp only [Act.put])
 clear HST
 go_upto_region 2 with fail
 refine wp_region_lit ?_
 refine ex (v:=.pointer (some ⟨w.heap.size,45,none⟩)) ?_
 have hsub:((patch cs 44 [.slice xa2 l2 xc2]).drop 45).take 1=(cs.drop 45).take 1:=by
  have hh:=HL.out; have hh1:=HPL1.out
  rw [patch_apart _ _ _ _ _ (by rw [HXL2.out]; omega)]
 have hc:(patch cs 44 [.slice xa2 l2 xc2])[45]?=some (.slice a3 l3 c3):=flat_cell hsub HU3.out
 have s:w2.cell? ⟨w.heap.size,45,none⟩=some (.slice a3 l3 c3):=(cellB HA1.out 45).trans (by rw [List.getElem?_toArray]; exact hc)
 refine ex (v:=.slice a3 l3 c3) ?_
 clear s hc
 clear hsub
 have HCC:=hh (copyStoredRows (.slice a3 l3 c3) HR3.out w2 (HM.out.tr HM1.out))
 go_wp2_with fail
 refine HCC.out.mono ?_
 rintro e w2x ⟨x3,rfl,one3,heq3,hm3⟩
 rename_i hK
 refine hK _ _ ?_
 clear hK
 (try simp only [Act.put,ja,jb,jc])
 obtain ⟨mq,hmq,sa,xa3,sl,sc,xc3,hsl,rfl,hqq⟩:=id (heq3.slice rfl Tryz.underlying29 zc145)
 simp only [Value.slice.injEq] at hsl
 obtain ⟨hsa,rfl,hsc⟩:=hsl
 clear hsa hsc hmq hqq mq
 have hAx:=(hm3.block _ (ltB HA1.out) (fun q=>q)).trans HA1.out
 have hZx:=(hm3.block _ (ltB HZ1.out) (fun q=>q)).trans HZ1.out
 have hMx:=HM1.out.tr hm3
 have hst:=store_slice29 (w:=w2x) (a:=xa3) (n:=l3) (c:=xc3) ((cellB hAx 45).trans (by rw [List.getElem?_toArray]; exact List.getElem?_eq_getElem (by rw [HPL1.out]; omega))) (frozB hAx 45)
 have hAn:=setCell_box hAx 45 (.slice xa3 l3 xc3) (by rw [HPL1.out]; omega)
 have hmn:Mod (fun q=>q=w.heap.size) w2x (w2x.setCell ⟨w.heap.size,45,none⟩ (.slice xa3 l3 xc3)):=(Mod.refl (fun q=>q=w.heap.size) w2x).setCell (p:=⟨w.heap.size,45,none⟩) (fun _=>rfl) _
 generalize (w2x.setCell ⟨w.heap.size,45,none⟩ (.slice xa3 l3 xc3))=w3 at hst hAn hmn
 have hZn:=(hmn.block _ (ltB hZx) (fun q=>by omega)).trans hZx
 have hMn:Mod N0 w w3:=hMx.trans hmn (fun q e hl=>by omega)
 have HQ2:=hh (EqX.keep (EqX.keep HQ2.out hm3 (fun q e=>e.elim) (fun q _ h=>h) (Nat.le_refl _)) hmn (fun q e=>by subst e; exact ⟨HN.out,fun h=>by first|omega|(simp only at h; omega)⟩) (fun q _ h=>h) (Nat.le_refl _))
 have HQ3:=hh (EqX.keep (Q':=fun q=>w.heap.size+1<q) heq3 hmn (fun q e=>by subst e; exact ⟨HN.out,fun h=>by have:=ltB HA1.out; omega⟩) (fun q _ h=>by have:=ltB HZ1.out; first|omega|(simp only at h ⊢; omega)) (show 12<=12 by omega))
 have HA2:=hh hAn
 have HZ2:=hh hZn
 have HM2:=hh hMn
 have HPL2:=hh (show (patch (patch cs 44 [.slice xa2 l2 xc2]) 45 [.slice xa3 l3 xc3]).length=182 from (patch_length (by rw [show ([.slice xa3 l3 xc3]:List Value).length=1 from rfl,HPL1.out]; omega)).trans HPL1.out)
 have HXL3:=hh (show ([.slice xa3 l3 xc3]:List Value).length=1 from rfl)
 have HX13:=hh (show ∀ u∈([.slice xa3 l3 xc3]:List Value),u.oneCell'=true from fun u hu=>by simp at hu; subst hu; rfl)
 have HST:=hh hst
 clear hAx hZx hMx hAn hmn hZn hMn hst heq3 hm3 one3 HCC
 refine ex (v:=.pointer (some ⟨w.heap.size,45,none⟩)) ?_
 refine wpList_execS rfl (exec_store_pt _ _ rfl rfl rfl HST.out) ?_
 (try simp only [Act.put])
 clear HST
 go_upto_region 3 with fail
 refine wp_region_lit ?_
 refine ex (v:=.pointer (some ⟨w.heap.size,179,none⟩)) ?_
 have hsub:((patch (patch cs 44 [.slice xa2 l2 xc2]) 45 [.slice xa3 l3 xc3]).drop 179).take 1=(cs.drop 179).take 1:=by
  have hh:=HL.out; have hh1:=HPL1.out; have hh2:=HPL2.out
  rw [patch_apart _ _ _ _ _ (by rw [HXL3.out]; omega)]
  rw [patch_apart _ _ _ _ _ (by rw [HXL2.out]; omega)]
 have hc:(patch (patch cs 44 [.slice xa2 l2 xc2]) 45 [.slice xa3 l3 xc3])[179]?=some (.slice a9 l9 c9):=flat_cell hsub HU9.out
 have s:w3.cell? ⟨w.heap.size,179,none⟩=some (.slice a9 l9 c9):=(cellB HA2.out 179).trans (by rw [List.getElem?_toArray]; exact hc)
 refine ex (v:=.slice a9 l9 c9) ?_
 clear s hc
 clear hsub
 have HCC:=hh (copyTotals (.slice a9 l9 c9) HR9.out w3 (HM.out.tr HM2.out))
 go_wp2_with fail
 refine HCC.out.mono ?_
 rintro e w3x ⟨x9,rfl,one9,heq9,hm9⟩
 rename_i hK
 refine hK _ _ ?_
 clear hK
 (try simp only [Act.put,ja,jb,jc])
 obtain ⟨mq,hmq,sa,xa9,sl,sc,xc9,hsl,rfl,hqq⟩:=id (heq9.slice rfl Tryz.underlying33 zc78)
 simp only [Value.slice.injEq] at hsl
 obtain ⟨hsa,rfl,hsc⟩:=hsl
 clear hsa hsc hmq hqq mq
 have hAx:=(hm9.block _ (ltB HA2.out) (fun q=>q)).trans HA2.out
 have hZx:=(hm9.block _ (ltB HZ2.out) (fun q=>q)).trans HZ2.out
 have hMx:=HM2.out.tr hm9
 have hst:=store_slice33 (w:=w3x) (a:=xa9) (n:=l9) (c:=xc9) ((cellB hAx 179).trans (by rw [List.getElem?_toArray]; exact List.getElem?_eq_getElem (by rw [HPL2.out]; omega))) (frozB hAx 179)
 have hAn:=setCell_box hAx 179 (.slice xa9 l9 xc9) (by rw [HPL2.out]; omega)
 have hmn:Mod (fun q=>q=w.heap.size) w3x (w3x.setCell ⟨w.heap.size,179,none⟩ (.slice xa9 l9 xc9)):=(Mod.refl (fun q=>q=w.heap.size) w3x).setCell (p:=⟨w.heap.size,179,none⟩) (fun _=>rfl) _
 generalize (w3x.setCell ⟨w.heap.size,179,none⟩ (.slice xa9 l9 xc9))=w4 at hst hAn hmn
 have hZn:=(hmn.block _ (ltB hZx) (fun q=>by omega)).trans hZx
 have hMn:Mod N0 w w4:=hMx.trans hmn (fun q e hl=>by omega)
 have HQ2:=hh (EqX.keep (EqX.keep HQ2.out hm9 (fun q e=>e.elim) (fun q _ h=>h) (Nat.le_refl _)) hmn (fun q e=>by subst e; exact ⟨HN.out,fun h=>by first|omega|(simp only at h; omega)⟩) (fun q _ h=>h) (Nat.le_refl _))
 have HQ3:=hh (EqX.keep (EqX.keep HQ3.out hm9 (fun q e=>e.elim) (fun q _ h=>h) (Nat.le_refl _)) hmn (fun q e=>by subst e; exact ⟨HN.out,fun h=>by first|omega|(simp only at h; omega)⟩) (fun q _ h=>h) (Nat.le_refl _))
 have HQ9:=hh (EqX.keep (Q':=fun q=>w.heap.size+1<q) heq9 hmn (fun q e=>by subst e; exact ⟨HN.out,fun h=>by have:=ltB HA2.out; omega⟩) (fun q _ h=>by have:=ltB HZ2.out; first|omega|(simp only at h ⊢; omega)) (show 2<=12 by omega))
 have HA3:=hh hAn
 have HZ3:=hh hZn
 have HM3:=hh hMn
 have HPL3:=hh (show (patch (patch (patch cs 44 [.slice xa2 l2 xc2]) 45 [.slice xa3 l3 xc3]) 179 [.slice xa9 l9 xc9]).length=182 from (patch_length (by rw [show ([.slice xa9 l9 xc9]:List Value).length=1 from rfl,HPL2.out]; omega)).trans HPL2.out)
 have HXL9:=hh (show ([.slice xa9 l9 xc9]:List Value).length=1 from rfl)
 have HX19:=hh (show ∀ u∈([.slice xa9 l9 xc9]:List Value),u.oneCell'=true from fun u hu=>by simp at hu; subst hu; rfl)
 have HST:=hh hst
 clear hAx hZx hMx hAn hmn hZn hMn hst heq9 hm9 one9 HCC
 refine ex (v:=.pointer (some ⟨w.heap.size,179,none⟩)) ?_
 refine wpList_execS rfl (exec_store_pt _ _ rfl rfl rfl HST.out) ?_
 (try simp only [Act.put])
 clear HST
 go_upto_region 4 with fail
 refine wp_region_lit ?_
 refine ex (v:=.pointer (some ⟨w.heap.size,180,none⟩)) ?_
 have hsub:((patch (patch (patch cs 44 [.slice xa2 l2 xc2]) 45 [.slice xa3 l3 xc3]) 179 [.slice xa9 l9 xc9]).drop 180).take 1=(cs.drop 180).take 1:=by
  have hh:=HL.out; have hh1:=HPL1.out; have hh2:=HPL2.out; have hh3:=HPL3.out
  rw [patch_apart _ _ _ _ _ (by rw [HXL9.out]; omega)]
  rw [patch_apart _ _ _ _ _ (by rw [HXL3.out]; omega)]
  rw [patch_apart _ _ _ _ _ (by rw [HXL2.out]; omega)]
 have hc:(patch (patch (patch cs 44 [.slice xa2 l2 xc2]) 45 [.slice xa3 l3 xc3]) 179 [.slice xa9 l9 xc9])[180]?=some (.slice a10 l10 c10):=flat_cell hsub HU10.out
 have s:w4.cell? ⟨w.heap.size,180,none⟩=some (.slice a10 l10 c10):=(cellB HA3.out 180).trans (by rw [List.getElem?_toArray]; exact hc)
 refine ex (v:=.slice a10 l10 c10) ?_
 clear s hc
 clear hsub
 have HCC:=hh (copyTxs (.slice a10 l10 c10) HR10.out w4 (HM.out.tr HM3.out))
 go_wp2_with fail
 refine HCC.out.mono ?_
 rintro e w4x ⟨x10,rfl,one10,heq10,hm10⟩
 rename_i hK
 refine hK _ _ ?_
 clear hK
 (try simp only [Act.put,ja,jb,jc])
 obtain ⟨mq,hmq,sa,xa10,sl,sc,xc10,hsl,rfl,hqq⟩:=id (heq10.slice rfl Tryz.underlying34 zc158)
 simp only [Value.slice.injEq] at hsl
 obtain ⟨hsa,rfl,hsc⟩:=hsl
 clear hsa hsc hmq hqq mq
 have hAx:=(hm10.block _ (ltB HA3.out) (fun q=>q)).trans HA3.out
 have hZx:=(hm10.block _ (ltB HZ3.out) (fun q=>q)).trans HZ3.out
 have hMx:=HM3.out.tr hm10
 have hst:=store_slice34 (w:=w4x) (a:=xa10) (n:=l10) (c:=xc10) ((cellB hAx 180).trans (by rw [List.getElem?_toArray]; exact List.getElem?_eq_getElem (by rw [HPL3.out]; omega))) (frozB hAx 180)
 have hAn:=setCell_box hAx 180 (.slice xa10 l10 xc10) (by rw [HPL3.out]; omega)
 have hmn:Mod (fun q=>q=w.heap.size) w4x (w4x.setCell ⟨w.heap.size,180,none⟩ (.slice xa10 l10 xc10)):=(Mod.refl (fun q=>q=w.heap.size) w4x).setCell (p:=⟨w.heap.size,180,none⟩) (fun _=>rfl) _
 generalize (w4x.setCell ⟨w.heap.size,180,none⟩ (.slice xa10 l10 xc10))=w5 at hst hAn hmn
 have hZn:=(hmn.block _ (ltB hZx) (fun q=>by omega)).trans hZx
 have hMn:Mod N0 w w5:=hMx.trans hmn (fun q e hl=>by omega)
 have HQ2:=hh (EqX.keep (EqX.keep HQ2.out hm10 (fun q e=>e.elim) (fun q _ h=>h) (Nat.le_refl _)) hmn (fun q e=>by subst e; exact ⟨HN.out,fun h=>by first|omega|(simp only at h; omega)⟩) (fun q _ h=>h) (Nat.le_refl _))
 have HQ3:=hh (EqX.keep (EqX.keep HQ3.out hm10 (fun q e=>e.elim) (fun q _ h=>h) (Nat.le_refl _)) hmn (fun q e=>by subst e; exact ⟨HN.out,fun h=>by first|omega|(simp only at h; omega)⟩) (fun q _ h=>h) (Nat.le_refl _))
 have HQ9:=hh (EqX.keep (EqX.keep HQ9.out hm10 (fun q e=>e.elim) (fun q _ h=>h) (Nat.le_refl _)) hmn (fun q e=>by subst e; exact ⟨HN.out,fun h=>by first|omega|(simp only at h; omega)⟩) (fun q _ h=>h) (Nat.le_refl _))
 have HQ10:=hh (EqX.keep (Q':=fun q=>w.heap.size+1<q) heq10 hmn (fun q e=>by subst e; exact ⟨HN.out,fun h=>by have:=ltB HA3.out; omega⟩) (fun q _ h=>by have:=ltB HZ3.out; first|omega|(simp only at h ⊢; omega)) (show 9<=12 by omega))
 have HA4:=hh hAn
 have HZ4:=hh hZn
 have HM4:=hh hMn
 have HPL4:=hh (show (patch (patch (patch (patch cs 44 [.slice xa2 l2 xc2]) 45 [.slice xa3 l3 xc3]) 179 [.slice xa9 l9 xc9]) 180 [.slice xa10 l10 xc10]).length=182 from (patch_length (by rw [show ([.slice xa10 l10 xc10]:List Value).length=1 from rfl,HPL3.out]; omega)).trans HPL3.out)
 have HXL10:=hh (show ([.slice xa10 l10 xc10]:List Value).length=1 from rfl)
 have HX110:=hh (show ∀ u∈([.slice xa10 l10 xc10]:List Value),u.oneCell'=true from fun u hu=>by simp at hu; subst hu; rfl)
 have HST:=hh hst
 clear hAx hZx hMx hAn hmn hZn hMn hst heq10 hm10 one10 HCC
 refine ex (v:=.pointer (some ⟨w.heap.size,180,none⟩)) ?_
 refine wpList_execS rfl (exec_store_pt _ _ rfl rfl rfl HST.out) ?_
 (try simp only [Act.put])
 clear HST
 have hld:=load_box HA4.out 36 0 182 _ Tryz.underlying36 rfl zs36 (by rw [HPL4.out]; omega)
 rw [List.drop_zero,List.take_of_length_le (by rw [HPL4.out]; omega)] at hld
 have hon:∀ u∈(patch (patch (patch (patch cs 44 [.slice xa2 l2 xc2]) 45 [.slice xa3 l3 xc3]) 179 [.slice xa9 l9 xc9]) 180 [.slice xa10 l10 xc10]),u.oneCell'=true:=(patch_ones (patch_ones (patch_ones (patch_ones HON.out HX12.out) HX13.out) HX19.out) HX110.out)
 have hst:=run_storeVar_row (P:=Tryz.prog) w5 (w.heap.size+1) 36 36 z (patch (patch (patch (patch cs 44 [.slice xa2 l2 xc2]) 45 [.slice xa3 l3 xc3]) 179 [.slice xa9 l9 xc9]) 180 [.slice xa10 l10 xc10]).toArray HZ4.out (by rw [zs36]; simp [HPL4.out]) (by rw [HZV.out.2]; simp [HPL4.out]) (by rw [List.all_toArray,List.all_eq_true]; exact hon)
 have hR:=setRow_same (cs:=(patch (patch (patch (patch cs 44 [.slice xa2 l2 xc2]) 45 [.slice xa3 l3 xc3]) 179 [.slice xa9 l9 xc9]) 180 [.slice xa10 l10 xc10]).toArray) HZ4.out
 have hmr:Mod (fun q=>q=w.heap.size+1) w5 (w5.setRow (w.heap.size+1) (patch (patch (patch (patch cs 44 [.slice xa2 l2 xc2]) 45 [.slice xa3 l3 xc3]) 179 [.slice xa9 l9 xc9]) 180 [.slice xa10 l10 xc10]).toArray):=Mod_setRow (Mod.refl (fun q=>q=w.heap.size+1) w5) (fun _=>rfl) _
 generalize w5.setRow (w.heap.size+1) (patch (patch (patch (patch cs 44 [.slice xa2 l2 xc2]) 45 [.slice xa3 l3 xc3]) 179 [.slice xa9 l9 xc9]) 180 [.slice xa10 l10 xc10]).toArray=wf at hst hR hmr
 have hmf:Mod N0 w wf:=HM4.out.trans hmr (fun q e hl=>by omega)
 have HQ2:=hh (EqX.keep (Q':=fun q=>w.heap.size<=q) HQ2.out hmr (fun q e=>by subst e; exact ⟨by have:=HN.out; omega,fun h=>by first|omega|(simp only at h; omega)⟩) (fun q _ h=>by first|omega|(simp only at h ⊢; omega)) (Nat.le_refl _))
 have HQ3:=hh (EqX.keep (Q':=fun q=>w.heap.size<=q) HQ3.out hmr (fun q e=>by subst e; exact ⟨by have:=HN.out; omega,fun h=>by first|omega|(simp only at h; omega)⟩) (fun q _ h=>by first|omega|(simp only at h ⊢; omega)) (Nat.le_refl _))
 have HQ9:=hh (EqX.keep (Q':=fun q=>w.heap.size<=q) HQ9.out hmr (fun q e=>by subst e; exact ⟨by have:=HN.out; omega,fun h=>by first|omega|(simp only at h; omega)⟩) (fun q _ h=>by first|omega|(simp only at h ⊢; omega)) (Nat.le_refl _))
 have HQ10:=hh (EqX.keep (Q':=fun q=>w.heap.size<=q) HQ10.out hmr (fun q e=>by subst e; exact ⟨by have:=HN.out; omega,fun h=>by first|omega|(simp only at h; omega)⟩) (fun q _ h=>by first|omega|(simp only at h ⊢; omega)) (Nat.le_refl _))
 have hret:=load_box hR 36 0 182 _ Tryz.underlying36 rfl zs36 (by rw [HPL4.out]; omega)
 rw [List.drop_zero,List.take_of_length_le (by rw [HPL4.out]; omega)] at hret
 have HF:=hh (And.intro hst (And.intro hret (And.intro hmf (And.intro hon hld))))
 clear hst hR hmr hmf hon hld hret
 go_upto_region 5 with fail
 refine wp_region_lit ?_
 refine wx (exec_load_pt _ _ 36 _ rfl ⟨w.heap.size,0,none⟩ rfl HF.out.2.2.2.2) ?_
 refine wpList_execS rfl (exec_store_pt _ _ rfl rfl rfl HF.out.1) ?_
 (try simp only [Act.put])
 go_wp2_with fail
 refine bodyPost_ret (v:=.agg (patch (patch (patch (patch cs 44 [.slice xa2 l2 xc2]) 45 [.slice xa3 l3 xc3]) 179 [.slice xa9 l9 xc9]) 180 [.slice xa10 l10 xc10]).toArray) (resC8 rfl HF.out.2.1) rfl ⟨(patch (patch (patch (patch cs 44 [.slice xa2 l2 xc2]) 45 [.slice xa3 l3 xc3]) 179 [.slice xa9 l9 xc9]) 180 [.slice xa10 l10 xc10]),rfl,HF.out.2.2.2.1,?_,HF.out.2.2.1⟩
 refine Eqv.structI (n:=12) rfl Tryz.underlying36 (by rw [zc36]; exact HL.out) (by rw [zc36]; exact HPL4.out) (fun i f hf=>?_)
 match i,hf with
|0,hf=>
  have e:((patch (patch (patch (patch cs 44 [.slice xa2 l2 xc2]) 45 [.slice xa3 l3 xc3]) 179 [.slice xa9 l9 xc9]) 180 [.slice xa10 l10 xc10]).drop 0).take 12=(cs.drop 0).take 12:=by
   have hh:=HL.out; have hh1:=HPL1.out; have hh2:=HPL2.out; have hh3:=HPL3.out; have hh4:=HPL4.out
   rw [patch_apart _ _ _ _ _ (by rw [HXL10.out]; omega)]
   rw [patch_apart _ _ _ _ _ (by rw [HXL9.out]; omega)]
   rw [patch_apart _ _ _ _ _ (by rw [HXL3.out]; omega)]
   rw [patch_apart _ _ _ _ _ (by rw [HXL2.out]; omega)]
  exact eqx_put hf 25 0 12 rfl rfl zc25 (by rw [e]; exact Eqv.flatI 11 rfl)
|1,hf=>
  have e:((patch (patch (patch (patch cs 44 [.slice xa2 l2 xc2]) 45 [.slice xa3 l3 xc3]) 179 [.slice xa9 l9 xc9]) 180 [.slice xa10 l10 xc10]).drop 12).take 32=(cs.drop 12).take 32:=by
   have hh:=HL.out; have hh1:=HPL1.out; have hh2:=HPL2.out; have hh3:=HPL3.out; have hh4:=HPL4.out
   rw [patch_apart _ _ _ _ _ (by rw [HXL10.out]; omega)]
   rw [patch_apart _ _ _ _ _ (by rw [HXL9.out]; omega)]
   rw [patch_apart _ _ _ _ _ (by rw [HXL3.out]; omega)]
   rw [patch_apart _ _ _ _ _ (by rw [HXL2.out]; omega)]
  exact eqx_put hf 27 12 32 rfl rfl zc27 (by rw [e]; exact Eqv.flatI 11 rfl)
|2,hf=>
  have e:((patch (patch (patch (patch cs 44 [.slice xa2 l2 xc2]) 45 [.slice xa3 l3 xc3]) 179 [.slice xa9 l9 xc9]) 180 [.slice xa10 l10 xc10]).drop 44).take 1=[.slice xa2 l2 xc2]:=by
   have hh:=HL.out; have hh1:=HPL1.out; have hh2:=HPL2.out; have hh3:=HPL3.out; have hh4:=HPL4.out
   rw [patch_apart _ _ _ _ _ (by rw [HXL10.out]; omega)]
   rw [patch_apart _ _ _ _ _ (by rw [HXL9.out]; omega)]
   rw [patch_apart _ _ _ _ _ (by rw [HXL3.out]; omega)]
   exact patch_same' HXL2.out _ _ (by have:=HL.out; omega)
  exact eqx_put hf 28 44 1 rfl rfl zc28 (by rw [e,take_one HU2.out]; exact HQ2.out)
|3,hf=>
  have e:((patch (patch (patch (patch cs 44 [.slice xa2 l2 xc2]) 45 [.slice xa3 l3 xc3]) 179 [.slice xa9 l9 xc9]) 180 [.slice xa10 l10 xc10]).drop 45).take 1=[.slice xa3 l3 xc3]:=by
   have hh:=HL.out; have hh1:=HPL1.out; have hh2:=HPL2.out; have hh3:=HPL3.out; have hh4:=HPL4.out
   rw [patch_apart _ _ _ _ _ (by rw [HXL10.out]; omega)]
   rw [patch_apart _ _ _ _ _ (by rw [HXL9.out]; omega)]
   exact patch_same' HXL3.out _ _ (by have:=HL.out; have:=HPL1.out; omega)
  exact eqx_put hf 29 45 1 rfl rfl zc29 (by rw [e,take_one HU3.out]; exact HQ3.out)
|4,hf=>
  have e:((patch (patch (patch (patch cs 44 [.slice xa2 l2 xc2]) 45 [.slice xa3 l3 xc3]) 179 [.slice xa9 l9 xc9]) 180 [.slice xa10 l10 xc10]).drop 46).take 67=(cs.drop 46).take 67:=by
   have hh:=HL.out; have hh1:=HPL1.out; have hh2:=HPL2.out; have hh3:=HPL3.out; have hh4:=HPL4.out
   rw [patch_apart _ _ _ _ _ (by rw [HXL10.out]; omega)]
   rw [patch_apart _ _ _ _ _ (by rw [HXL9.out]; omega)]
   rw [patch_apart _ _ _ _ _ (by rw [HXL3.out]; omega)]
   rw [patch_apart _ _ _ _ _ (by rw [HXL2.out]; omega)]
  exact eqx_put hf 32 46 67 rfl rfl zc32 (by rw [e]; exact Eqv.flatI 11 rfl)
|5,hf=>
  have e:((patch (patch (patch (patch cs 44 [.slice xa2 l2 xc2]) 45 [.slice xa3 l3 xc3]) 179 [.slice xa9 l9 xc9]) 180 [.slice xa10 l10 xc10]).drop 113).take 32=(cs.drop 113).take 32:=by
   have hh:=HL.out; have hh1:=HPL1.out; have hh2:=HPL2.out; have hh3:=HPL3.out; have hh4:=HPL4.out
   rw [patch_apart _ _ _ _ _ (by rw [HXL10.out]; omega)]
   rw [patch_apart _ _ _ _ _ (by rw [HXL9.out]; omega)]
   rw [patch_apart _ _ _ _ _ (by rw [HXL3.out]; omega)]
   rw [patch_apart _ _ _ _ _ (by rw [HXL2.out]; omega)]
  exact eqx_put hf 27 113 32 rfl rfl zc27 (by rw [e]; exact Eqv.flatI 11 rfl)
|6,hf=>
  have e:((patch (patch (patch (patch cs 44 [.slice xa2 l2 xc2]) 45 [.slice xa3 l3 xc3]) 179 [.slice xa9 l9 xc9]) 180 [.slice xa10 l10 xc10]).drop 145).take 32=(cs.drop 145).take 32:=by
   have hh:=HL.out; have hh1:=HPL1.out; have hh2:=HPL2.out; have hh3:=HPL3.out; have hh4:=HPL4.out
   rw [patch_apart _ _ _ _ _ (by rw [HXL10.out]; omega)]
   rw [patch_apart _ _ _ _ _ (by rw [HXL9.out]; omega)]
   rw [patch_apart _ _ _ _ _ (by rw [HXL3.out]; omega)]
   rw [patch_apart _ _ _ _ _ (by rw [HXL2.out]; omega)]
  exact eqx_put hf 27 145 32 rfl rfl zc27 (by rw [e]; exact Eqv.flatI 11 rfl)
|7,hf=>
  have e:((patch (patch (patch (patch cs 44 [.slice xa2 l2 xc2]) 45 [.slice xa3 l3 xc3]) 179 [.slice xa9 l9 xc9]) 180 [.slice xa10 l10 xc10]).drop 177).take 1=(cs.drop 177).take 1:=by
   have hh:=HL.out; have hh1:=HPL1.out; have hh2:=HPL2.out; have hh3:=HPL3.out; have hh4:=HPL4.out
   rw [patch_apart _ _ _ _ _ (by rw [HXL10.out]; omega)]
   rw [patch_apart _ _ _ _ _ (by rw [HXL9.out]; omega)]
   rw [patch_apart _ _ _ _ _ (by rw [HXL3.out]; omega)]
   rw [patch_apart _ _ _ _ _ (by rw [HXL2.out]; omega)]
  exact eqx_put hf 2 177 1 rfl rfl zc2 (by rw [e]; exact Eqv.flatI 11 rfl)
|8,hf=>
  have e:((patch (patch (patch (patch cs 44 [.slice xa2 l2 xc2]) 45 [.slice xa3 l3 xc3]) 179 [.slice xa9 l9 xc9]) 180 [.slice xa10 l10 xc10]).drop 178).take 1=(cs.drop 178).take 1:=by
   have hh:=HL.out; have hh1:=HPL1.out; have hh2:=HPL2.out; have hh3:=HPL3.out; have hh4:=HPL4.out
   rw [patch_apart _ _ _ _ _ (by rw [HXL10.out]; omega)]
   rw [patch_apart _ _ _ _ _ (by rw [HXL9.out]; omega)]
   rw [patch_apart _ _ _ _ _ (by rw [HXL3.out]; omega)]
   rw [patch_apart _ _ _ _ _ (by rw [HXL2.out]; omega)]
  exact eqx_put hf 2 178 1 rfl rfl zc2 (by rw [e]; exact Eqv.flatI 11 rfl)
|9,hf=>
  have e:((patch (patch (patch (patch cs 44 [.slice xa2 l2 xc2]) 45 [.slice xa3 l3 xc3]) 179 [.slice xa9 l9 xc9]) 180 [.slice xa10 l10 xc10]).drop 179).take 1=[.slice xa9 l9 xc9]:=by
   have hh:=HL.out; have hh1:=HPL1.out; have hh2:=HPL2.out; have hh3:=HPL3.out; have hh4:=HPL4.out
   rw [patch_apart _ _ _ _ _ (by rw [HXL10.out]; omega)]
   exact patch_same' HXL9.out _ _ (by have:=HL.out; have:=HPL2.out; omega)
  exact eqx_put hf 33 179 1 rfl rfl zc33 (by rw [e,take_one HU9.out]; exact HQ9.out)
|10,hf=>
  have e:((patch (patch (patch (patch cs 44 [.slice xa2 l2 xc2]) 45 [.slice xa3 l3 xc3]) 179 [.slice xa9 l9 xc9]) 180 [.slice xa10 l10 xc10]).drop 180).take 1=[.slice xa10 l10 xc10]:=by
   exact patch_same' HXL10.out _ _ (by have:=HL.out; have:=HPL3.out; omega)
  exact eqx_put hf 34 180 1 rfl rfl zc34 (by rw [e,take_one HU10.out]; exact HQ10.out)
|11,hf=>
  have e:((patch (patch (patch (patch cs 44 [.slice xa2 l2 xc2]) 45 [.slice xa3 l3 xc3]) 179 [.slice xa9 l9 xc9]) 180 [.slice xa10 l10 xc10]).drop 181).take 1=(cs.drop 181).take 1:=by
   have hh:=HL.out; have hh1:=HPL1.out; have hh2:=HPL2.out; have hh3:=HPL3.out; have hh4:=HPL4.out
   rw [patch_apart _ _ _ _ _ (by rw [HXL10.out]; omega)]
   rw [patch_apart _ _ _ _ _ (by rw [HXL9.out]; omega)]
   rw [patch_apart _ _ _ _ _ (by rw [HXL3.out]; omega)]
   rw [patch_apart _ _ _ _ _ (by rw [HXL2.out]; omega)]
  exact eqx_put hf 2 181 1 rfl rfl zc2 (by rw [e]; exact Eqv.flatI 11 rfl)
|i+12,hf=>simp at hf
end Go.Proofs.YtckcamlicgdklaaGreat
