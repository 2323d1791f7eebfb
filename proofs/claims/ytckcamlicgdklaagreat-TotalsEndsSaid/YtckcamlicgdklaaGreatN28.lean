/- Copies of transactions, blocks, states. -/
import Derived.Test.YtckcamlicgdklaaGreatN27
namespace Go.Proofs.YtckcamlicgdklaaGreat
open Go.RowKit Go.Mo
set_option maxRecDepth 100000 in
set_option maxHeartbeats 1000000 in
theorem copyBody {w0:World} (cs:List Value) (hr:Rd w0 152 cs) (w:World) (hm:Mod N0 w0 w):Calls Tryz.prog 106 #[.agg cs.toArray] w fun e w'=>CpR w0 6 152 w cs e w':=by
 have hl:=hr.len Tryz.underlying152
 rw [zc152] at hl
 obtain ⟨u0,hu0,hru0⟩:=hr.cellAt Tryz.underlying152 0 rfl 150 0 rfl rfl zc150 zc152 (by omega)
 obtain ⟨a0,l0,c0,rfl,_⟩:=id (hru0.slice Tryz.underlying150 zc62 (by omega))
 have HU0:=hh hu0
 have HR0:=hh hru0
 clear hu0 hru0
 obtain ⟨u1,hu1,hru1⟩:=hr.cellAt Tryz.underlying152 1 rfl 150 1 rfl rfl zc150 zc152 (by omega)
 obtain ⟨a1,l1,c1,rfl,_⟩:=id (hru1.slice Tryz.underlying150 zc62 (by omega))
 have HU1:=hh hu1
 have HR1:=hh hru1
 clear hu1 hru1
 obtain ⟨u2,hu2,hru2⟩:=hr.cellAt Tryz.underlying152 2 rfl 37 2 rfl rfl zc37 zc152 (by omega)
 obtain ⟨a2,l2,c2,rfl,_⟩:=id (hru2.slice Tryz.underlying37 zc71 (by omega))
 have HU2:=hh hu2
 have HR2:=hh hru2
 clear hu2 hru2
 obtain ⟨u3,hu3,hru3⟩:=hr.cellAt Tryz.underlying152 3 rfl 37 3 rfl rfl zc37 zc152 (by omega)
 obtain ⟨a3,l3,c3,rfl,_⟩:=id (hru3.slice Tryz.underlying37 zc71 (by omega))
 have HU3:=hh hu3
 have HR3:=hh hru3
 clear hu3 hru3
 obtain ⟨u7,hu7,hru7⟩:=hr.cellAt Tryz.underlying152 7 rfl 63 7 rfl rfl zc63 zc152 (by omega)
 obtain ⟨a7,l7,c7,rfl,_⟩:=id (hru7.slice Tryz.underlying63 zc76 (by omega))
 have HU7:=hh hu7
 have HR7:=hh hru7
 clear hu7 hru7
 obtain ⟨z,hzv,_,hzs⟩:=zi152
 have hA0:((w.alloc (.cells cs.toArray 152)).alloc (.cells z 152)).heap[w.heap.size]?=some (.cells cs.toArray 152 (0,0)):=allocB (newB w _) _
 have hZ0:((w.alloc (.cells cs.toArray 152)).alloc (.cells z 152)).heap[w.heap.size+1]?=some (.cells z 152 (0,0)):=by
  have:=newB (w.alloc (.cells cs.toArray 152)) (.cells z 152); rwa [World.size_alloc] at this
 have hM0:Mod N0 w ((w.alloc (.cells cs.toArray 152)).alloc (.cells z 152)):=((Mod.refl _ w).alloc _).alloc _
 have HZV:=hh (And.intro hzv hzs)
 have HL:=hh hl
 have HM:=hh hm
 have HON:=hh (ones152 hr)
 have HN:=hh hm.size
 clear hzv hzs hl hm hr
 go_enter Tryz.func106,Tryz.ntmps106
 go_upto_region 0 with fail
 refine wp_region_lit ?_
 refine ww (exec_box _ _ 152 cs rfl rfl) ?_
 refine ww (exec_alloc _ _ 152 z rfl HZV.out.1) ?_
 rw [World.size_alloc]
 generalize (w.alloc (.cells cs.toArray 152)).alloc (.cells z 152)=w1 at hA0 hZ0 hM0 ⊢
 have HA0:=hh hA0
 have HZ0:=hh hZ0
 have HM0:=hh hM0
 clear hA0 hZ0 hM0
 go_upto_region 1 with fail
 refine wp_region_lit ?_
 refine ex (v:=.pointer (some ⟨w.heap.size,0,none⟩)) ?_
 have hsub:(cs.drop 0).take 1=(cs.drop 0).take 1:=by
  rfl
 have hc:cs[0]?=some (.slice a0 l0 c0):=flat_cell hsub HU0.out
 have s:w1.cell? ⟨w.heap.size,0,none⟩=some (.slice a0 l0 c0):=(cellB HA0.out 0).trans (by rw [List.getElem?_toArray]; exact hc)
 refine ex (v:=.slice a0 l0 c0) ?_
 clear s hc
 clear hsub
 have HCC:=hh (copyRefs (.slice a0 l0 c0) HR0.out w1 (HM.out.tr HM0.out))
 go_wp2_with fail
 refine HCC.out.mono ?_
 rintro e w1x ⟨x0,rfl,one0,heq0,hm0⟩
 rename_i hK
 refine hK _ _ ?_
 clear hK
 (try simp only [Act.put,ja,jb,jc])
 obtain ⟨mq,hmq,sa,xa0,sl,sc,xc0,hsl,rfl,hqq⟩:=id (heq0.slice rfl Tryz.underlying150 zc62)
 simp only [Value.slice.injEq] at hsl
 obtain ⟨hsa,rfl,hsc⟩:=hsl
 clear hsa hsc hmq hqq mq
 have hAx:=(hm0.block _ (ltB HA0.out) (fun q=>q)).trans HA0.out
 have hZx:=(hm0.block _ (ltB HZ0.out) (fun q=>q)).trans HZ0.out
 have hMx:=HM0.out.tr hm0
 have hst:=store_slice150 (w:=w1x) (a:=xa0) (n:=l0) (c:=xc0) ((cellB hAx 0).trans (by rw [List.getElem?_toArray]; exact List.getElem?_eq_getElem (by rw [HL.out]; omega))) (frozB hAx 0)
 have hAn:=setCell_box hAx 0 (.slice xa0 l0 xc0) (by rw [HL.out]; omega)
 have hmn:Mod (fun q=>q=w.heap.size) w1x (w1x.setCell ⟨w.heap.size,0,none⟩ (.slice xa0 l0 xc0)):=(Mod.refl (fun q=>q=w.heap.size) w1x).setCell (p:=⟨w.heap.size,0,none⟩) (fun _=>rfl) _
 generalize (w1x.setCell ⟨w.heap.size,0,none⟩ (.slice xa0 l0 xc0))=w2 at hst hAn hmn
 have hZn:=(hmn.block _ (ltB hZx) (fun q=>by omega)).trans hZx
 have hMn:Mod N0 w w2:=hMx.trans hmn (fun q e hl=>by omega)
 have HQ0:=hh (EqX.keep (Q':=fun q=>w.heap.size+1<q) heq0 hmn (fun q e=>by subst e; exact ⟨HN.out,fun h=>by have:=ltB HA0.out; omega⟩) (fun q _ h=>by have:=ltB HZ0.out; first|omega|(simp only at h ⊢; omega)) (show 2<=5 by omega))
 have HA1:=hh hAn
 have HZ1:=hh hZn
 have HM1:=hh hMn
 have HPL1:=hh (show (patch cs 0 [.slice xa0 l0 xc0]).length=40 from (patch_length (by rw [show ([.slice xa0 l0 xc0]:List Value).length=1 from rfl,HL.out]; omega)).trans HL.out)
 have HXL0:=hh (show ([.slice xa0 l0 xc0]:List Value).length=1 from rfl)
 have HX10:=hh (show ∀ u∈([.slice xa0 l0 xc0]:List Value),u.oneCell'=true from fun u hu=>by simp at hu; subst hu; rfl)
 have HST:=hh hst
 clear hAx hZx hMx hAn hmn hZn hMn hst heq0 hm0 one0 HCC
 refine ex (v:=.pointer (some ⟨w.heap.size,0,none⟩)) ?_
 refine wpList_execS rfl (exec_store_pt _ _ rfl rfl rfl HST.out) ?_
 (try simp only [Act.put])
 clear HST
 go_upto_region 2 with fail
 refine wp_region_lit ?_
 refine ex (v:=.pointer (some ⟨w.heap.size,1,none⟩)) ?_
 have hsub:((patch cs 0 [.slice xa0 l0 xc0]).drop 1).take 1=(cs.drop 1).take 1:=by
  have hh:=HL.out; have hh1:=HPL1.out
  rw [patch_apart _ _ _ _ _ (by rw [HXL0.out]; omega)]
 have hc:(patch cs 0 [.slice xa0 l0 xc0])[1]?=some (.slice a1 l1 c1):=flat_cell hsub HU1.out
 have s:w2.cell? ⟨w.heap.size,1,none⟩=some (.slice a1 l1 c1):=(cellB HA1.out 1).trans (by rw [List.getElem?_toArray]; exact hc)
 refine ex (v:=.slice a1 l1 c1) ?_
 clear s hc
 clear hsub
 have HCC:=hh (copyRefs (.slice a1 l1 c1) HR1.out w2 (HM.out.tr HM1.out))
 go_wp2_with fail
 refine HCC.out.mono ?_
 rintro e w2x ⟨x1,rfl,one1,heq1,hm1⟩
 rename_i hK
 refine hK _ _ ?_
 clear hK
 (try simp only [Act.put,ja,jb,jc])
 obtain ⟨mq,hmq,sa,xa1,sl,sc,xc1,hsl,rfl,hqq⟩:=id (heq1.slice rfl Tryz.underlying150 zc62)
 simp only [Value.slice.injEq] at hsl
 obtain ⟨hsa,rfl,hsc⟩:=hsl
 clear hsa hsc hmq hqq mq
 have hAx:=(hm1.block _ (ltB HA1.out) (fun q=>q)).trans HA1.out
 have hZx:=(hm1.block _ (ltB HZ1.out) (fun q=>q)).trans HZ1.out
 have hMx:=HM1.out.tr hm1
 have hst:=store_slice150 (w:=w2x) (a:=xa1) (n:=l1) (c:=xc1) ((cellB hAx 1).trans (by rw [List.getElem?_toArray]; exact List.getElem?_eq_getElem (by rw [HPL1.out]; omega))) (frozB hAx 1)
 have hAn:=setCell_box hAx 1 (.slice xa1 l1 xc1) (by rw [HPL1.out]; omega)
 have hmn:Mod (fun q=>q=w.heap.size) w2x (w2x.setCell ⟨w.heap.size,1,none⟩ (.slice xa1 l1 xc1)):=(Mod.refl (fun q=>q=w.heap.size) w2x).setCell (p:=⟨w.heap.size,1,none⟩) (fun _=>rfl) _
 generalize (w2x.setCell ⟨w.heap.size,1,none⟩ (.slice xa1 l1 xc1))=w3 at hst hAn hmn
 have hZn:=(hmn.block _ (ltB hZx) (fun q=>by omega)).trans hZx
 have hMn:Mod N0 w w3:=hMx.trans hmn (fun q e hl=>by omega)
 have HQ0:=hh (EqX.keep (EqX.keep HQ0.out hm1 (fun q e=>e.elim) (fun q _ h=>h) (Nat.le_refl _)) hmn (fun q e=>by subst e; exact ⟨HN.out,fun h=>by first|omega|(simp only at h; omega)⟩) (fun q _ h=>h) (Nat.le_refl _))
 have HQ1:=hh (EqX.keep (Q':=fun q=>w.heap.size+1<q) heq1 hmn (fun q e=>by subst e; exact ⟨HN.out,fun h=>by have:=ltB HA1.out; omega⟩) (fun q _ h=>by have:=ltB HZ1.out; first|omega|(simp only at h ⊢; omega)) (show 2<=5 by omega))
 have HA2:=hh hAn
 have HZ2:=hh hZn
 have HM2:=hh hMn
 have HPL2:=hh (show (patch (patch cs 0 [.slice xa0 l0 xc0]) 1 [.slice xa1 l1 xc1]).length=40 from (patch_length (by rw [show ([.slice xa1 l1 xc1]:List Value).length=1 from rfl,HPL1.out]; omega)).trans HPL1.out)
 have HXL1:=hh (show ([.slice xa1 l1 xc1]:List Value).length=1 from rfl)
 have HX11:=hh (show ∀ u∈([.slice xa1 l1 xc1]:List Value),u.oneCell'=true from fun u hu=>by simp at hu; subst hu; rfl)
 have HST:=hh hst
 clear hAx hZx hMx hAn hmn hZn hMn hst heq1 hm1 one1 HCC
 refine ex (v:=.pointer (some ⟨w.heap.size,1,none⟩)) ?_
 refine wpList_execS rfl (exec_store_pt _ _ rfl rfl rfl HST.out) ?_
 (try simp only [Act.put])
 clear HST
 go_upto_region 3 with fail
 refine wp_region_lit ?_
 refine ex (v:=.pointer (some ⟨w.heap.size,2,none⟩)) ?_
 have hsub:((patch (patch cs 0 [.slice xa0 l0 xc0]) 1 [.slice xa1 l1 xc1]).drop 2).take 1=(cs.drop 2).take 1:=by
  have hh:=HL.out; have hh1:=HPL1.out; have hh2:=HPL2.out
  rw [patch_apart _ _ _ _ _ (by rw [HXL1.out]; omega)]
  rw [patch_apart _ _ _ _ _ (by rw [HXL0.out]; omega)]
 have hc:(patch (patch cs 0 [.slice xa0 l0 xc0]) 1 [.slice xa1 l1 xc1])[2]?=some (.slice a2 l2 c2):=flat_cell hsub HU2.out
 have s:w3.cell? ⟨w.heap.size,2,none⟩=some (.slice a2 l2 c2):=(cellB HA2.out 2).trans (by rw [List.getElem?_toArray]; exact hc)
 refine ex (v:=.slice a2 l2 c2) ?_
 clear s hc
 clear hsub
 have HCC:=hh (copyOutputs (.slice a2 l2 c2) HR2.out w3 (HM.out.tr HM2.out))
 go_wp2_with fail
 refine HCC.out.mono ?_
 rintro e w3x ⟨x2,rfl,one2,heq2,hm2⟩
 rename_i hK
 refine hK _ _ ?_
 clear hK
 (try simp only [Act.put,ja,jb,jc])
 obtain ⟨mq,hmq,sa,xa2,sl,sc,xc2,hsl,rfl,hqq⟩:=id (heq2.slice rfl Tryz.underlying37 zc71)
 simp only [Value.slice.injEq] at hsl
 obtain ⟨hsa,rfl,hsc⟩:=hsl
 clear hsa hsc hmq hqq mq
 have hAx:=(hm2.block _ (ltB HA2.out) (fun q=>q)).trans HA2.out
 have hZx:=(hm2.block _ (ltB HZ2.out) (fun q=>q)).trans HZ2.out
 have hMx:=HM2.out.tr hm2
 have hst:=store_slice37 (w:=w3x) (a:=xa2) (n:=l2) (c:=xc2) ((cellB hAx 2).trans (by rw [List.getElem?_toArray]; exact List.getElem?_eq_getElem (by rw [HPL2.out]; omega))) (frozB hAx 2)
 have hAn:=setCell_box hAx 2 (.slice xa2 l2 xc2) (by rw [HPL2.out]; omega)
 have hmn:Mod (fun q=>q=w.heap.size) w3x (w3x.setCell ⟨w.heap.size,2,none⟩ (.slice xa2 l2 xc2)):=(Mod.refl (fun q=>q=w.heap.size) w3x).setCell (p:=⟨w.heap.size,2,none⟩) (fun _=>rfl) _
 generalize (w3x.setCell ⟨w.heap.size,2,none⟩ (.slice xa2 l2 xc2))=w4 at hst hAn hmn
 have hZn:=(hmn.block _ (ltB hZx) (fun q=>by omega)).trans hZx
 have hMn:Mod N0 w w4:=hMx.trans hmn (fun q e hl=>by omega)
 have HQ0:=hh (EqX.keep (EqX.keep HQ0.out hm2 (fun q e=>e.elim) (fun q _ h=>h) (Nat.le_refl _)) hmn (fun q e=>by subst e; exact ⟨HN.out,fun h=>by first|omega|(simp only at h; omega)⟩) (fun q _ h=>h) (Nat.le_refl _))
 have HQ1:=hh (EqX.keep (EqX.keep HQ1.out hm2 (fun q e=>e.elim) (fun q _ h=>h) (Nat.le_refl _)) hmn (fun q e=>by subst e; exact ⟨HN.out,fun h=>by first|omega|(simp only at h; omega)⟩) (fun q _ h=>h) (Nat.le_refl _))
 have HQ2:=hh (EqX.keep (Q':=fun q=>w.heap.size+1<q) heq2 hmn (fun q e=>by subst e; exact ⟨HN.out,fun h=>by have:=ltB HA2.out; omega⟩) (fun q _ h=>by have:=ltB HZ2.out; first|omega|(simp only at h ⊢; omega)) (show 5<=5 by omega))
 have HA3:=hh hAn
 have HZ3:=hh hZn
 have HM3:=hh hMn
 have HPL3:=hh (show (patch (patch (patch cs 0 [.slice xa0 l0 xc0]) 1 [.slice xa1 l1 xc1]) 2 [.slice xa2 l2 xc2]).length=40 from (patch_length (by rw [show ([.slice xa2 l2 xc2]:List Value).length=1 from rfl,HPL2.out]; omega)).trans HPL2.out)
 have HXL2:=hh (show ([.slice xa2 l2 xc2]:List Value).length=1 from rfl)
 have HX12:=hh (show ∀ u∈([.slice xa2 l2 xc2]:List Value),u.oneCell'=true from fun u hu=>by simp at hu; subst hu; rfl)
 have HST:=hh hst
 clear hAx hZx hMx hAn hmn hZn hMn hst heq2 hm2 one2 HCC
 refine ex (v:=.pointer (some ⟨w.heap.size,2,none⟩)) ?_
 refine wpList_execS rfl (exec_store_pt _ _ rfl rfl rfl HST.out) ?_
 (try simp only [Act.put])
 clear HST
 go_upto_region 4 with fail
 refine wp_region_lit ?_
 refine ex (v:=.pointer (some ⟨w.heap.size,3,none⟩)) ?_
 have hsub:((patch (patch (patch cs 0 [.slice xa0 l0 xc0]) 1 [.slice xa1 l1 xc1]) 2 [.slice xa2 l2 xc2]).drop 3).take 1=(cs.drop 3).take 1:=by
  have hh:=HL.out; have hh1:=HPL1.out; have hh2:=HPL2.out; have hh3:=HPL3.out
  rw [patch_apart _ _ _ _ _ (by rw [HXL2.out]; omega)]
  rw [patch_apart _ _ _ _ _ (by rw [HXL1.out]; omega)]
  rw [patch_apart _ _ _ _ _ (by rw [HXL0.out]; omega)]
 have hc:(patch (patch (patch cs 0 [.slice xa0 l0 xc0]) 1 [.slice xa1 l1 xc1]) 2 [.slice xa2 l2 xc2])[3]?=some (.slice a3 l3 c3):=flat_cell hsub HU3.out
 have s:w4.cell? ⟨w.heap.size,3,none⟩=some (.slice a3 l3 c3):=(cellB HA3.out 3).trans (by rw [List.getElem?_toArray]; exact hc)
 refine ex (v:=.slice a3 l3 c3) ?_
 clear s hc
 clear hsub
 have HCC:=hh (copyOutputs (.slice a3 l3 c3) HR3.out w4 (HM.out.tr HM3.out))
 go_wp2_with fail
 refine HCC.out.mono ?_
 rintro e w4x ⟨x3,rfl,one3,heq3,hm3⟩
 rename_i hK
 refine hK _ _ ?_
 clear hK
 (try simp only [Act.put,ja,jb,jc])
 obtain ⟨mq,hmq,sa,xa3,sl,sc,xc3,hsl,rfl,hqq⟩:=id (heq3.slice rfl Tryz.underlying37 zc71)
 simp only [Value.slice.injEq] at hsl
 obtain ⟨hsa,rfl,hsc⟩:=hsl
 clear hsa hsc hmq hqq mq
 have hAx:=(hm3.block _ (ltB HA3.out) (fun q=>q)).trans HA3.out
 have hZx:=(hm3.block _ (ltB HZ3.out) (fun q=>q)).trans HZ3.out
 have hMx:=HM3.out.tr hm3
 have hst:=store_slice37 (w:=w4x) (a:=xa3) (n:=l3) (c:=xc3) ((cellB hAx 3).trans (by rw [List.getElem?_toArray]; exact List.getElem?_eq_getElem (by rw [HPL3.out]; omega))) (frozB hAx 3)
 have hAn:=setCell_box hAx 3 (.slice xa3 l3 xc3) (by rw [HPL3.out]; omega)
 have hmn:Mod (fun q=>q=w.heap.size) w4x (w4x.setCell ⟨w.heap.size,3,none⟩ (.slice xa3 l3 xc3)):=(Mod.refl (fun q=>q=w.heap.size) w4x).setCell (p:=⟨w.heap.size,3,none⟩) (fun _=>rfl) _
 generalize (w4x.setCell ⟨w.heap.size,3,none⟩ (.slice xa3 l3 xc3))=w5 at hst hAn hmn
 have hZn:=(hmn.block _ (ltB hZx) (fun q=>by omega)).trans hZx
 have hMn:Mod N0 w w5:=hMx.trans hmn (fun q e hl=>by omega)
 have HQ0:=hh (EqX.keep (EqX.keep HQ0.out hm3 (fun q e=>e.elim) (fun q _ h=>h) (Nat.le_refl _)) hmn (fun q e=>by subst e; exact ⟨HN.out,fun h=>by first|omega|(simp only at h; omega)⟩) (fun q _ h=>h) (Nat.le_refl _))
 have HQ1:=hh (EqX.keep (EqX.keep HQ1.out hm3 (fun q e=>e.elim) (fun q _ h=>h) (Nat.le_refl _)) hmn (fun q e=>by subst e; exact ⟨HN.out,fun h=>by first|omega|(simp only at h; omega)⟩) (fun q _ h=>h) (Nat.le_refl _))
 have HQ2:=hh (EqX.keep (EqX.keep HQ2.out hm3 (fun q e=>e.elim) (fun q _ h=>h) (Nat.le_refl _)) hmn (fun q e=>by subst e; exact ⟨HN.out,fun h=>by first|omega|(simp only at h; omega)⟩) (fun q _ h=>h) (Nat.le_refl _))
 have HQ3:=hh (EqX.keep (Q':=fun q=>w.heap.size+1<q) heq3 hmn (fun q e=>by subst e; exact ⟨HN.out,fun h=>by have:=ltB HA3.out; omega⟩) (fun q _ h=>by have:=ltB HZ3.out; first|omega|(simp only at h ⊢; omega)) (show 5<=5 by omega))
 have HA4:=hh hAn
 have HZ4:=hh hZn
 have HM4:=hh hMn
 have HPL4:=hh (show (patch (patch (patch (patch cs 0 [.slice xa0 l0 xc0]) 1 [.slice xa1 l1 xc1]) 2 [.slice xa2 l2 xc2]) 3 [.slice xa3 l3 xc3]).length=40 from (patch_length (by rw [show ([.slice xa3 l3 xc3]:List Value).length=1 from rfl,HPL3.out]; omega)).trans HPL3.out)
 have HXL3:=hh (show ([.slice xa3 l3 xc3]:List Value).length=1 from rfl)
 have HX13:=hh (show ∀ u∈([.slice xa3 l3 xc3]:List Value),u.oneCell'=true from fun u hu=>by simp at hu; subst hu; rfl)
 have HST:=hh hst
 clear hAx hZx hMx hAn hmn hZn hMn hst heq3 hm3 one3 HCC
 refine ex (v:=.pointer (some ⟨w.heap.size,3,none⟩)) ?_
 refine wpList_execS rfl (exec_store_pt _ _ rfl rfl rfl HST.out) ?_
 (try simp only [Act.put])
 clear HST
 go_upto_region 5 with fail
 refine wp_region_lit ?_
 refine ex (v:=.pointer (some ⟨w.heap.size,7,none⟩)) ?_
 have hsub:((patch (patch (patch (patch cs 0 [.slice xa0 l0 xc0]) 1 [.slice xa1 l1 xc1]) 2 [.slice xa2 l2 xc2]) 3 [.slice xa3 l3 xc3]).drop 7).take 1=(cs.drop 7).take 1:=by
  have hh:=HL.out; have hh1:=HPL1.out; have hh2:=HPL2.out; have hh3:=HPL3.out; have hh4:=HPL4.out
  rw [patch_apart _ _ _ _ _ (by rw [HXL3.out]; omega)]
  rw [patch_apart _ _ _ _ _ (by rw [HXL2.out]; omega)]
  rw [patch_apart _ _ _ _ _ (by rw [HXL1.out]; omega)]
  rw [patch_apart _ _ _ _ _ (by rw [HXL0.out]; omega)]
 have hc:(patch (patch (patch (patch cs 0 [.slice xa0 l0 xc0]) 1 [.slice xa1 l1 xc1]) 2 [.slice xa2 l2 xc2]) 3 [.slice xa3 l3 xc3])[7]?=some (.slice a7 l7 c7):=flat_cell hsub HU7.out
 have s:w5.cell? ⟨w.heap.size,7,none⟩=some (.slice a7 l7 c7):=(cellB HA4.out 7).trans (by rw [List.getElem?_toArray]; exact hc)
 refine ex (v:=.slice a7 l7 c7) ?_
 clear s hc
 clear hsub
 have HCC:=hh (copyAssets (.slice a7 l7 c7) HR7.out w5 (HM.out.tr HM4.out))
 go_wp2_with fail
 refine HCC.out.mono ?_
 rintro e w5x ⟨x7,rfl,one7,heq7,hm7⟩
 rename_i hK
 refine hK _ _ ?_
 clear hK
 (try simp only [Act.put,ja,jb,jc])
 obtain ⟨mq,hmq,sa,xa7,sl,sc,xc7,hsl,rfl,hqq⟩:=id (heq7.slice rfl Tryz.underlying63 zc76)
 simp only [Value.slice.injEq] at hsl
 obtain ⟨hsa,rfl,hsc⟩:=hsl
 clear hsa hsc hmq hqq mq
 have hAx:=(hm7.block _ (ltB HA4.out) (fun q=>q)).trans HA4.out
 have hZx:=(hm7.block _ (ltB HZ4.out) (fun q=>q)).trans HZ4.out
 have hMx:=HM4.out.tr hm7
 have hst:=store_slice63 (w:=w5x) (a:=xa7) (n:=l7) (c:=xc7) ((cellB hAx 7).trans (by rw [List.getElem?_toArray]; exact List.getElem?_eq_getElem (by rw [HPL4.out]; omega))) (frozB hAx 7)
 have hAn:=setCell_box hAx 7 (.slice xa7 l7 xc7) (by rw [HPL4.out]; omega)
 have hmn:Mod (fun q=>q=w.heap.size) w5x (w5x.setCell ⟨w.heap.size,7,none⟩ (.slice xa7 l7 xc7)):=(Mod.refl (fun q=>q=w.heap.size) w5x).setCell (p:=⟨w.heap.size,7,none⟩) (fun _=>rfl) _
 generalize (w5x.setCell ⟨w.heap.size,7,none⟩ (.slice xa7 l7 xc7))=w6 at hst hAn hmn
 have hZn:=(hmn.block _ (ltB hZx) (fun q=>by omega)).trans hZx
 have hMn:Mod N0 w w6:=hMx.trans hmn (fun q e hl=>by omega)
 have HQ0:=hh (EqX.keep (EqX.keep HQ0.out hm7 (fun q e=>e.elim) (fun q _ h=>h) (Nat.le_refl _)) hmn (fun q e=>by subst e; exact ⟨HN.out,fun h=>by first|omega|(simp only at h; omega)⟩) (fun q _ h=>h) (Nat.le_refl _))
 have HQ1:=hh (EqX.keep (EqX.keep HQ1.out hm7 (fun q e=>e.elim) (fun q _ h=>h) (Nat.le_refl _)) hmn (fun q e=>by subst e; exact ⟨HN.out,fun h=>by first|omega|(simp only at h; omega)⟩) (fun q _ h=>h) (Nat.le_refl _))
 have HQ2:=hh (EqX.keep (EqX.keep HQ2.out hm7 (fun q e=>e.elim) (fun q _ h=>h) (Nat.le_refl _)) hmn (fun q e=>by subst e; exact ⟨HN.out,fun h=>by first|omega|(simp only at h; omega)⟩) (fun q _ h=>h) (Nat.le_refl _))
 have HQ3:=hh (EqX.keep (EqX.keep HQ3.out hm7 (fun q e=>e.elim) (fun q _ h=>h) (Nat.le_refl _)) hmn (fun q e=>by subst e; exact ⟨HN.out,fun h=>by first|omega|(simp only at h; omega)⟩) (fun q _ h=>h) (Nat.le_refl _))
 have HQ7:=hh (EqX.keep (Q':=fun q=>w.heap.size+1<q) heq7 hmn (fun q e=>by subst e; exact ⟨HN.out,fun h=>by have:=ltB HA4.out; omega⟩) (fun q _ h=>by have:=ltB HZ4.out; first|omega|(simp only at h ⊢; omega)) (show 2<=5 by omega))
 have HA5:=hh hAn
 have HZ5:=hh hZn
 have HM5:=hh hMn
 have HPL5:=hh (show (patch (patch (patch (patch (patch cs 0 [.slice xa0 l0 xc0]) 1 [.slice xa1 l1 xc1]) 2 [.slice xa2 l2 xc2]) 3 [.slice xa3 l3 xc3]) 7 [.slice xa7 l7 xc7]).length=40 from (patch_length (by rw [show ([.slice xa7 l7 xc7]:List Value).length=1 from rfl,HPL4.out]; omega)).trans HPL4.out)
 have HXL7:=hh (show ([.slice xa7 l7 xc7]:List Value).length=1 from rfl)
 have HX17:=hh (show ∀ u∈([.slice xa7 l7 xc7]:List Value),u.oneCell'=true from fun u hu=>by simp at hu; subst hu; rfl)
 have HST:=hh hst
 clear hAx hZx hMx hAn hmn hZn hMn hst heq7 hm7 one7 HCC
 refine ex (v:=.pointer (some ⟨w.heap.size,7,none⟩)) ?_
 refine wpList_execS rfl (exec_store_pt _ _ rfl rfl rfl HST.out) ?_
 (try simp only [Act.put])
 clear HST
 have hld:=load_box HA5.out 152 0 40 _ Tryz.underlying152 rfl zs152 (by rw [HPL5.out]; omega)
 rw [List.drop_zero,List.take_of_length_le (by rw [HPL5.out]; omega)] at hld
 have hon:∀ u∈(patch (patch (patch (patch (patch cs 0 [.slice xa0 l0 xc0]) 1 [.slice xa1 l1 xc1]) 2 [.slice xa2 l2 xc2]) 3 [.slice xa3 l3 xc3]) 7 [.slice xa7 l7 xc7]),u.oneCell'=true:=(patch_ones (patch_ones (patch_ones (patch_ones (patch_ones HON.out HX10.out) HX11.out) HX12.out) HX13.out) HX17.out)
 have hst:=run_storeVar_row (P:=Tryz.prog) w6 (w.heap.size+1) 152 152 z (patch (patch (patch (patch (patch cs 0 [.slice xa0 l0 xc0]) 1 [.slice xa1 l1 xc1]) 2 [.slice xa2 l2 xc2]) 3 [.slice xa3 l3 xc3]) 7 [.slice xa7 l7 xc7]).toArray HZ5.out (by rw [zs152]; simp [HPL5.out]) (by rw [HZV.out.2]; simp [HPL5.out]) (by rw [List.all_toArray,List.all_eq_true]; exact hon)
 have hR:=setRow_same (cs:=(patch (patch (patch (patch (patch cs 0 [.slice xa0 l0 xc0]) 1 [.slice xa1 l1 xc1]) 2 [.slice xa2 l2 xc2]) 3 [.slice xa3 l3 xc3]) 7 [.slice xa7 l7 xc7]).toArray) HZ5.out
 have hmr:Mod (fun q=>q=w.heap.size+1) w6 (w6.setRow (w.heap.size+1) (patch (patch (patch (patch (patch cs 0 [.slice xa0 l0 xc0]) 1 [.slice xa1 l1 xc1]) 2 [.slice xa2 l2 xc2]) 3 [.slice xa3 l3 xc3]) 7 [.slice xa7 l7 xc7]).toArray):=Mod_setRow (Mod.refl (fun q=>q=w.heap.size+1) w6) (fun _=>rfl) _
 generalize w6.setRow (w.heap.size+1) (patch (patch (patch (patch (patch cs 0 [.slice xa0 l0 xc0]) 1 [.slice xa1 l1 xc1]) 2 [.slice xa2 l2 xc2]) 3 [.slice xa3 l3 xc3]) 7 [.slice xa7 l7 xc7]).toArray=wf at hst hR hmr
 have hmf:Mod N0 w wf:=HM5.out.trans hmr (fun q e hl=>by omega)
 have HQ0:=hh (EqX.keep (Q':=fun q=>w.heap.size<=q) HQ0.out hmr (fun q e=>by subst e; exact ⟨by have:=HN.out; omega,fun h=>by first|omega|(simp only at h; omega)⟩) (fun q _ h=>by first|omega|(simp only at h ⊢; omega)) (Nat.le_refl _))
 have HQ1:=hh (EqX.keep (Q':=fun q=>w.heap.size<=q) HQ1.out hmr (fun q e=>by subst e; exact ⟨by have:=HN.out; omega,fun h=>by first|omega|(simp only at h; omega)⟩) (fun q _ h=>by first|omega|(simp only at h ⊢; omega)) (Nat.le_refl _))
 have HQ2:=hh (EqX.keep (Q':=fun q=>w.heap.size<=q) HQ2.out hmr (fun q e=>by subst e; exact ⟨by have:=HN.out; omega,fun h=>by first|omega|(simp only at h; omega)⟩) (fun q _ h=>by first|omega|(simp only at h ⊢; omega)) (Nat.le_refl _))
 have HQ3:=hh (EqX.keep (Q':=fun q=>w.heap.size<=q) HQ3.out hmr (fun q e=>by subst e; exact ⟨by have:=HN.out; omega,fun h=>by first|omega|(simp only at h; omega)⟩) (fun q _ h=>by first|omega|(simp only at h ⊢; omega)) (Nat.le_refl _))
 have HQ7:=hh (EqX.keep (Q':=fun q=>w.heap.size<=q) HQ7.out hmr (fun q e=>by subst e; exact ⟨by have:=HN.out; omega,fun h=>by first|omega|(simp only at h; omega)⟩) (fun q _ h=>by first|omega|(simp only at h ⊢; omega)) (Nat.le_refl _))
 have hret:=load_box hR 152 0 40 _ Tryz.underlying152 rfl zs152 (by rw [HPL5.out]; omega)
 rw [List.drop_zero,List.take_of_length_le (by rw [HPL5.out]; omega)] at hret
 have HF:=hh (And.intro hst (And.intro hret (And.intro hmf (And.intro hon hld))))
 clear hst hR hmr hmf hon hld hret
 go_upto_region 6 with fail
 refine wp_region_lit ?_
 refine wx (exec_load_pt _ _ 152 _ rfl ⟨w.heap.size,0,none⟩ rfl HF.out.2.2.2.2) ?_
 refine wpList_execS rfl (exec_store_pt _ _ rfl rfl rfl HF.out.1) ?_
 (try simp only [Act.put])
 go_wp2_with fail
 refine bodyPost_ret (v:=.agg (patch (patch (patch (patch (patch cs 0 [.slice xa0 l0 xc0]) 1 [.slice xa1 l1 xc1]) 2 [.slice xa2 l2 xc2]) 3 [.slice xa3 l3 xc3]) 7 [.slice xa7 l7 xc7]).toArray) (resC106 rfl HF.out.2.1) rfl ⟨(patch (patch (patch (patch (patch cs 0 [.slice xa0 l0 xc0]) 1 [.slice xa1 l1 xc1]) 2 [.slice xa2 l2 xc2]) 3 [.slice xa3 l3 xc3]) 7 [.slice xa7 l7 xc7]),rfl,HF.out.2.2.2.1,?_,HF.out.2.2.1⟩
 refine Eqv.structI (n:=5) rfl Tryz.underlying152 (by rw [zc152]; exact HL.out) (by rw [zc152]; exact HPL5.out) (fun i f hf=>?_)
 match i,hf with
|0,hf=>
  have e:((patch (patch (patch (patch (patch cs 0 [.slice xa0 l0 xc0]) 1 [.slice xa1 l1 xc1]) 2 [.slice xa2 l2 xc2]) 3 [.slice xa3 l3 xc3]) 7 [.slice xa7 l7 xc7]).drop 0).take 1=[.slice xa0 l0 xc0]:=by
   have hh:=HL.out; have hh1:=HPL1.out; have hh2:=HPL2.out; have hh3:=HPL3.out; have hh4:=HPL4.out; have hh5:=HPL5.out
   rw [patch_apart _ _ _ _ _ (by rw [HXL7.out]; omega)]
   rw [patch_apart _ _ _ _ _ (by rw [HXL3.out]; omega)]
   rw [patch_apart _ _ _ _ _ (by rw [HXL2.out]; omega)]
   rw [patch_apart _ _ _ _ _ (by rw [HXL1.out]; omega)]
   exact patch_same' HXL0.out _ _ (by have:=HL.out; omega)
  exact eqx_put hf 150 0 1 rfl rfl zc150 (by rw [e,take_one HU0.out]; exact HQ0.out)
|1,hf=>
  have e:((patch (patch (patch (patch (patch cs 0 [.slice xa0 l0 xc0]) 1 [.slice xa1 l1 xc1]) 2 [.slice xa2 l2 xc2]) 3 [.slice xa3 l3 xc3]) 7 [.slice xa7 l7 xc7]).drop 1).take 1=[.slice xa1 l1 xc1]:=by
   have hh:=HL.out; have hh1:=HPL1.out; have hh2:=HPL2.out; have hh3:=HPL3.out; have hh4:=HPL4.out; have hh5:=HPL5.out
   rw [patch_apart _ _ _ _ _ (by rw [HXL7.out]; omega)]
   rw [patch_apart _ _ _ _ _ (by rw [HXL3.out]; omega)]
   rw [patch_apart _ _ _ _ _ (by rw [HXL2.out]; omega)]
   exact patch_same' HXL1.out _ _ (by have:=HL.out; have:=HPL1.out; omega)
  exact eqx_put hf 150 1 1 rfl rfl zc150 (by rw [e,take_one HU1.out]; exact HQ1.out)
|2,hf=>
  have e:((patch (patch (patch (patch (patch cs 0 [.slice xa0 l0 xc0]) 1 [.slice xa1 l1 xc1]) 2 [.slice xa2 l2 xc2]) 3 [.slice xa3 l3 xc3]) 7 [.slice xa7 l7 xc7]).drop 2).take 1=[.slice xa2 l2 xc2]:=by
   have hh:=HL.out; have hh1:=HPL1.out; have hh2:=HPL2.out; have hh3:=HPL3.out; have hh4:=HPL4.out; have hh5:=HPL5.out
   rw [patch_apart _ _ _ _ _ (by rw [HXL7.out]; omega)]
   rw [patch_apart _ _ _ _ _ (by rw [HXL3.out]; omega)]
   exact patch_same' HXL2.out _ _ (by have:=HL.out; have:=HPL2.out; omega)
  exact eqx_put hf 37 2 1 rfl rfl zc37 (by rw [e,take_one HU2.out]; exact HQ2.out)
|3,hf=>
  have e:((patch (patch (patch (patch (patch cs 0 [.slice xa0 l0 xc0]) 1 [.slice xa1 l1 xc1]) 2 [.slice xa2 l2 xc2]) 3 [.slice xa3 l3 xc3]) 7 [.slice xa7 l7 xc7]).drop 3).take 1=[.slice xa3 l3 xc3]:=by
   have hh:=HL.out; have hh1:=HPL1.out; have hh2:=HPL2.out; have hh3:=HPL3.out; have hh4:=HPL4.out; have hh5:=HPL5.out
   rw [patch_apart _ _ _ _ _ (by rw [HXL7.out]; omega)]
   exact patch_same' HXL3.out _ _ (by have:=HL.out; have:=HPL3.out; omega)
  exact eqx_put hf 37 3 1 rfl rfl zc37 (by rw [e,take_one HU3.out]; exact HQ3.out)
|4,hf=>
  have e:((patch (patch (patch (patch (patch cs 0 [.slice xa0 l0 xc0]) 1 [.slice xa1 l1 xc1]) 2 [.slice xa2 l2 xc2]) 3 [.slice xa3 l3 xc3]) 7 [.slice xa7 l7 xc7]).drop 4).take 1=(cs.drop 4).take 1:=by
   have hh:=HL.out; have hh1:=HPL1.out; have hh2:=HPL2.out; have hh3:=HPL3.out; have hh4:=HPL4.out; have hh5:=HPL5.out
   rw [patch_apart _ _ _ _ _ (by rw [HXL7.out]; omega)]
   rw [patch_apart _ _ _ _ _ (by rw [HXL3.out]; omega)]
   rw [patch_apart _ _ _ _ _ (by rw [HXL2.out]; omega)]
   rw [patch_apart _ _ _ _ _ (by rw [HXL1.out]; omega)]
   rw [patch_apart _ _ _ _ _ (by rw [HXL0.out]; omega)]
  exact eqx_put hf 2 4 1 rfl rfl zc2 (by rw [e]; exact Eqv.flatI 4 rfl)
|5,hf=>
  have e:((patch (patch (patch (patch (patch cs 0 [.slice xa0 l0 xc0]) 1 [.slice xa1 l1 xc1]) 2 [.slice xa2 l2 xc2]) 3 [.slice xa3 l3 xc3]) 7 [.slice xa7 l7 xc7]).drop 5).take 1=(cs.drop 5).take 1:=by
   have hh:=HL.out; have hh1:=HPL1.out; have hh2:=HPL2.out; have hh3:=HPL3.out; have hh4:=HPL4.out; have hh5:=HPL5.out
   rw [patch_apart _ _ _ _ _ (by rw [HXL7.out]; omega)]
   rw [patch_apart _ _ _ _ _ (by rw [HXL3.out]; omega)]
   rw [patch_apart _ _ _ _ _ (by rw [HXL2.out]; omega)]
   rw [patch_apart _ _ _ _ _ (by rw [HXL1.out]; omega)]
   rw [patch_apart _ _ _ _ _ (by rw [HXL0.out]; omega)]
  exact eqx_put hf 2 5 1 rfl rfl zc2 (by rw [e]; exact Eqv.flatI 4 rfl)
|6,hf=>
  have e:((patch (patch (patch (patch (patch cs 0 [.slice xa0 l0 xc0]) 1 [.slice xa1 l1 xc1]) 2 [.slice xa2 l2 xc2]) 3 [.slice xa3 l3 xc3]) 7 [.slice xa7 l7 xc7]).drop 6).take 1=(cs.drop 6).take 1:=by
   have hh:=HL.out; have hh1:=HPL1.out; have hh2:=HPL2.out; have hh3:=HPL3.out; have hh4:=HPL4.out; have hh5:=HPL5.out
   rw [patch_apart _ _ _ _ _ (by rw [HXL7.out]; omega)]
   rw [patch_apart _ _ _ _ _ (by rw [HXL3.out]; omega)]
   rw [patch_apart _ _ _ _ _ (by rw [HXL2.out]; omega)]
   rw [patch_apart _ _ _ _ _ (by rw [HXL1.out]; omega)]
   rw [patch_apart _ _ _ _ _ (by rw [HXL0.out]; omega)]
  exact eqx_put hf 2 6 1 rfl rfl zc2 (by rw [e]; exact Eqv.flatI 4 rfl)
|7,hf=>
  have e:((patch (patch (patch (patch (patch cs 0 [.slice xa0 l0 xc0]) 1 [.slice xa1 l1 xc1]) 2 [.slice xa2 l2 xc2]) 3 [.slice xa3 l3 xc3]) 7 [.slice xa7 l7 xc7]).drop 7).take 1=[.slice xa7 l7 xc7]:=by
   exact patch_same' HXL7.out _ _ (by have:=HL.out; have:=HPL4.out; omega)
  exact eqx_put hf 63 7 1 rfl rfl zc63 (by rw [e,take_one HU7.out]; exact HQ7.out)
|8,hf=>
  have e:((patch (patch (patch (patch (patch cs 0 [.slice xa0 l0 xc0]) 1 [.slice xa1 l1 xc1]) 2 [.slice xa2 l2 xc2]) 3 [.slice xa3 l3 xc3]) 7 [.slice xa7 l7 xc7]).drop 8).take 32=(cs.drop 8).take 32:=by
   have hh:=HL.out; have hh1:=HPL1.out; have hh2:=HPL2.out; have hh3:=HPL3.out; have hh4:=HPL4.out; have hh5:=HPL5.out
   rw [patch_apart _ _ _ _ _ (by rw [HXL7.out]; omega)]
   rw [patch_apart _ _ _ _ _ (by rw [HXL3.out]; omega)]
   rw [patch_apart _ _ _ _ _ (by rw [HXL2.out]; omega)]
   rw [patch_apart _ _ _ _ _ (by rw [HXL1.out]; omega)]
   rw [patch_apart _ _ _ _ _ (by rw [HXL0.out]; omega)]
  exact eqx_put hf 27 8 32 rfl rfl zc27 (by rw [e]; exact Eqv.flatI 4 rfl)
|i+9,hf=>simp at hf
set_option maxRecDepth 100000 in
set_option maxHeartbeats 1000000 in
theorem copyTx {w0:World} (cs:List Value) (hr:Rd w0 158 cs) (w:World) (hm:Mod N0 w0 w):Calls Tryz.prog 54 #[.agg cs.toArray] w fun e w'=>CpR w0 8 158 w cs e w':=by
 have hl:=hr.len Tryz.underlying158
 rw [zc158] at hl
 have HR0:=hh (hr.fieldAt Tryz.underlying158 0 rfl 152 0 40 rfl rfl zc152)
 obtain ⟨u1,hu1,hru1⟩:=hr.cellAt Tryz.underlying158 1 rfl 153 40 rfl rfl zc153 zc158 (by omega)
 obtain ⟨a1,l1,c1,rfl,_⟩:=id (hru1.slice Tryz.underlying153 zc275 (by omega))
 have HU1:=hh hu1
 have HR1:=hh hru1
 clear hu1 hru1
 obtain ⟨u2,hu2,hru2⟩:=hr.cellAt Tryz.underlying158 2 rfl 154 41 rfl rfl zc154 zc158 (by omega)
 obtain ⟨a2,l2,c2,rfl,_⟩:=id (hru2.slice Tryz.underlying154 zc264 (by omega))
 have HU2:=hh hu2
 have HR2:=hh hru2
 clear hu2 hru2
 obtain ⟨u3,hu3,hru3⟩:=hr.cellAt Tryz.underlying158 3 rfl 155 42 rfl rfl zc155 zc158 (by omega)
 obtain ⟨a3,l3,c3,rfl,_⟩:=id (hru3.slice Tryz.underlying155 zc69 (by omega))
 have HU3:=hh hu3
 have HR3:=hh hru3
 clear hu3 hru3
 obtain ⟨u4,hu4,hru4⟩:=hr.cellAt Tryz.underlying158 4 rfl 156 43 rfl rfl zc156 zc158 (by omega)
 obtain ⟨a4,l4,c4,rfl,_⟩:=id (hru4.slice Tryz.underlying156 zc269 (by omega))
 have HU4:=hh hu4
 have HR4:=hh hru4
 clear hu4 hru4
 obtain ⟨z,hzv,_,hzs⟩:=zi158
 have hA0:((w.alloc (.cells cs.toArray 158)).alloc (.cells z 158)).heap[w.heap.size]?=some (.cells cs.toArray 158 (0,0)):=allocB (newB w _) _
 have hZ0:((w.alloc (.cells cs.toArray 158)).alloc (.cells z 158)).heap[w.heap.size+1]?=some (.cells z 158 (0,0)):=by
  have:=newB (w.alloc (.cells cs.toArray 158)) (.cells z 158); rwa [World.size_alloc] at this
 have hM0:Mod N0 w ((w.alloc (.cells cs.toArray 158)).alloc (.cells z 158)):=((Mod.refl _ w).alloc _).alloc _
 have HZV:=hh (And.intro hzv hzs)
 have HL:=hh hl
 have HM:=hh hm
 have HON:=hh (ones158 hr)
 have HN:=hh hm.size
 clear hzv hzs hl hm hr
 go_enter Tryz.func54,Tryz.ntmps54
 go_upto_region 0 with fail
 refine wp_region_lit ?_
 refine ww (exec_box _ _ 158 cs rfl rfl) ?_
 refine ww (exec_alloc _ _ 158 z rfl HZV.out.1) ?_
 rw [World.size_alloc]
 generalize (w.alloc (.cells cs.toArray 158)).alloc (.cells z 158)=w1 at hA0 hZ0 hM0 ⊢
 have HA0:=hh hA0
 have HZ0:=hh hZ0
 have HM0:=hh hM0
 clear hA0 hZ0 hM0
 go_upto_region 1 with fail
 refine wp_region_lit ?_
 refine ex (v:=.pointer (some ⟨w.heap.size,0,none⟩)) ?_
 have hsub:(cs.drop 0).take 40=(cs.drop 0).take 40:=by
  rfl
 have hld:=load_box HA0.out 152 0 40 _ Tryz.underlying152 rfl zs152 (by have:=HL.out; omega)
 rw [hsub] at hld
 refine wx (exec_load_pt _ _ 152 _ rfl ⟨w.heap.size,0,none⟩ rfl hld) ?_
 clear hld
 clear hsub
 have HCC:=hh (copyBody ((cs.drop 0).take 40) HR0.out w1 (HM.out.tr HM0.out))
 go_wp2_with fail
 refine HCC.out.mono ?_
 rintro e w1x ⟨x0,rfl,one0,heq0,hm0⟩
 rename_i hK
 refine hK _ _ ?_
 clear hK
 (try simp only [Act.put,ja,jb,jc])
 have hxl:x0.length=40:=by
  obtain ⟨_,_,_,h,_⟩:=heq0.struct rfl Tryz.underlying152
  rw [h,zc152]
 have hAx:=(hm0.block _ (ltB HA0.out) (fun q=>q)).trans HA0.out
 have hZx:=(hm0.block _ (ltB HZ0.out) (fun q=>q)).trans HZ0.out
 have hMx:=HM0.out.tr hm0
 have hst:=run_storeVar_mid (P:=Tryz.prog) w1x w.heap.size 0 152 x0.toArray (there_box hAx (by simp only [List.size_toArray]; rw [hxl,HL.out]; omega)) (by rw [zs152]; simp [hxl]) (by rw [List.all_toArray,List.all_eq_true]; exact one0)
 have hAn:=setCells_box x0 w1x cs 0 hAx (by rw [hxl,HL.out]; omega)
 have hmn:=setCells_mod w1x w.heap.size x0 0
 have hst:(storeVar 152 ⟨w.heap.size,0,none⟩ (.agg x0.toArray)).run Tryz.prog w1x=.ok () (w1x.setCells w.heap.size 0 x0):=by simpa using hst
 generalize (w1x.setCells w.heap.size 0 x0)=w2 at hst hAn hmn
 have hZn:=(hmn.block _ (ltB hZx) (fun q=>by omega)).trans hZx
 have hMn:Mod N0 w w2:=hMx.trans hmn (fun q e hl=>by omega)
 have HQ0:=hh (EqX.keep (Q':=fun q=>w.heap.size+1<q) heq0 hmn (fun q e=>by subst e; exact ⟨HN.out,fun h=>by have:=ltB HA0.out; omega⟩) (fun q _ h=>by have:=ltB HZ0.out; first|omega|(simp only at h ⊢; omega)) (show 6<=7 by omega))
 have HA1:=hh hAn
 have HZ1:=hh hZn
 have HM1:=hh hMn
 have HPL1:=hh (show (patch cs 0 x0).length=45 from (patch_length (by rw [hxl,HL.out]; omega)).trans HL.out)
 have HXL0:=hh (show (x0:List Value).length=40 from hxl)
 have HX10:=hh (show ∀ u∈(x0:List Value),u.oneCell'=true from one0)
 have HST:=hh hst
 clear hAx hZx hMx hAn hmn hZn hMn hst heq0 hm0 one0 HCC hxl
 refine ex (v:=.pointer (some ⟨w.heap.size,0,none⟩)) ?_
 refine wpList_execS rfl (exec_store_pt _ _ rfl rfl rfl HST.out) ?_
 (try simp only [Act.put])
 clear HST
 go_upto_region 2 with fail
 refine wp_region_lit ?_
 refine ex (v:=.pointer (some ⟨w.heap.size,40,none⟩)) ?_
 have hsub:((patch cs 0 x0).drop 40).take 1=(cs.drop 40).take 1:=by
  have hh:=HL.out; have hh1:=HPL1.out
  rw [patch_apart _ _ _ _ _ (by rw [HXL0.out]; omega)]
 have hc:(patch cs 0 x0)[40]?=some (.slice a1 l1 c1):=flat_cell hsub HU1.out
 have s:w2.cell? ⟨w.heap.size,40,none⟩=some (.slice a1 l1 c1):=(cellB HA1.out 40).trans (by rw [List.getElem?_toArray]; exact hc)
 refine ex (v:=.slice a1 l1 c1) ?_
 clear s hc
 clear hsub
 have HCC:=hh (copySignatures (.slice a1 l1 c1) HR1.out w2 (HM.out.tr HM1.out))
 go_wp2_with fail
 refine HCC.out.mono ?_
 rintro e w2x ⟨x1,rfl,one1,heq1,hm1⟩
 rename_i hK
 refine hK _ _ ?_
 clear hK
 (try simp only [Act.put,ja,jb,jc])
 obtain ⟨mq,hmq,sa,xa1,sl,sc,xc1,hsl,rfl,hqq⟩:=id (heq1.slice rfl Tryz.underlying153 zc275)
 simp only [Value.slice.injEq] at hsl
 obtain ⟨hsa,rfl,hsc⟩:=hsl
 clear hsa hsc hmq hqq mq
 have hAx:=(hm1.block _ (ltB HA1.out) (fun q=>q)).trans HA1.out
 have hZx:=(hm1.block _ (ltB HZ1.out) (fun q=>q)).trans HZ1.out
 have hMx:=HM1.out.tr hm1
 have hst:=store_slice153 (w:=w2x) (a:=xa1) (n:=l1) (c:=xc1) ((cellB hAx 40).trans (by rw [List.getElem?_toArray]; exact List.getElem?_eq_getElem (by rw [HPL1.out]; omega))) (frozB hAx 40)
 have hAn:=setCell_box hAx 40 (.slice xa1 l1 xc1) (by rw [HPL1.out]; omega)
 have hmn:Mod (fun q=>q=w.heap.size) w2x (w2x.setCell ⟨w.heap.size,40,none⟩ (.slice xa1 l1 xc1)):=(Mod.refl (fun q=>q=w.heap.size) w2x).setCell (p:=⟨w.heap.size,40,none⟩) (fun _=>rfl) _
 generalize (w2x.setCell ⟨w.heap.size,40,none⟩ (.slice xa1 l1 xc1))=w3 at hst hAn hmn
 have hZn:=(hmn.block _ (ltB hZx) (fun q=>by omega)).trans hZx
 have hMn:Mod N0 w w3:=hMx.trans hmn (fun q e hl=>by omega)
 have HQ0:=hh (EqX.keep (EqX.keep HQ0.out hm1 (fun q e=>e.elim) (fun q _ h=>h) (Nat.le_refl _)) hmn (fun q e=>by subst e; exact ⟨HN.out,fun h=>by first|omega|(simp only at h; omega)⟩) (fun q _ h=>h) (Nat.le_refl _))
 have HQ1:=hh (EqX.keep (Q':=fun q=>w.heap.size+1<q) heq1 hmn (fun q e=>by subst e; exact ⟨HN.out,fun h=>by have:=ltB HA1.out; omega⟩) (fun q _ h=>by have:=ltB HZ1.out; first|omega|(simp only at h ⊢; omega)) (show 4<=7 by omega))
 have HA2:=hh hAn
 have HZ2:=hh hZn
 have HM2:=hh hMn
 have HPL2:=hh (show (patch (patch cs 0 x0) 40 [.slice xa1 l1 xc1]).length=45 from (patch_length (by rw [show ([.slice xa1 l1 xc1]:List Value).length=1 from rfl,HPL1.out]; omega)).trans HPL1.out)
 have HXL1:=hh (show ([.slice xa1 l1 xc1]:List Value).length=1 from rfl)
 have HX11:=hh (show ∀ u∈([.slice xa1 l1 xc1]:List Value),u.oneCell'=true from fun u hu=>by simp at hu; subst hu; rfl)
 have HST:=hh hst
 clear hAx hZx hMx hAn hmn hZn hMn hst heq1 hm1 one1 HCC
 refine ex (v:=.pointer (some ⟨w.heap.size,40,none⟩)) ?_
 refine wpList_execS rfl (exec_store_pt _ _ rfl rfl rfl HST.out) ?_
 (try simp only [Act.put])
 clear HST
 go_upto_region 3 with fail
 refine wp_region_lit ?_
 refine ex (v:=.pointer (some ⟨w.heap.size,41,none⟩)) ?_
 have hsub:((patch (patch cs 0 x0) 40 [.slice xa1 l1 xc1]).drop 41).take 1=(cs.drop 41).take 1:=by
  have hh:=HL.out; have hh1:=HPL1.out; have hh2:=HPL2.out
  rw [patch_apart _ _ _ _ _ (by rw [HXL1.out]; omega)]
  rw [patch_apart _ _ _ _ _ (by rw [HXL0.out]; omega)]
 have hc:(patch (patch cs 0 x0) 40 [.slice xa1 l1 xc1])[41]?=some (.slice a2 l2 c2):=flat_cell hsub HU2.out
 have s:w3.cell? ⟨w.heap.size,41,none⟩=some (.slice a2 l2 c2):=(cellB HA2.out 41).trans (by rw [List.getElem?_toArray]; exact hc)
 refine ex (v:=.slice a2 l2 c2) ?_
 clear s hc
 clear hsub
 have HCC:=hh (copyPrograms (.slice a2 l2 c2) HR2.out w3 (HM.out.tr HM2.out))
 go_wp2_with fail
 refine HCC.out.mono ?_
 rintro e w3x ⟨x2,rfl,one2,heq2,hm2⟩
 rename_i hK
 refine hK _ _ ?_
 clear hK
 (try simp only [Act.put,ja,jb,jc])
 obtain ⟨mq,hmq,sa,xa2,sl,sc,xc2,hsl,rfl,hqq⟩:=id (heq2.slice rfl Tryz.underlying154 zc264)
 simp only [Value.slice.injEq] at hsl
 obtain ⟨hsa,rfl,hsc⟩:=hsl
 clear hsa hsc hmq hqq mq
 have hAx:=(hm2.block _ (ltB HA2.out) (fun q=>q)).trans HA2.out
 have hZx:=(hm2.block _ (ltB HZ2.out) (fun q=>q)).trans HZ2.out
 have hMx:=HM2.out.tr hm2
 have hst:=store_slice154 (w:=w3x) (a:=xa2) (n:=l2) (c:=xc2) ((cellB hAx 41).trans (by rw [List.getElem?_toArray]; exact List.getElem?_eq_getElem (by rw [HPL2.out]; omega))) (frozB hAx 41)
 have hAn:=setCell_box hAx 41 (.slice xa2 l2 xc2) (by rw [HPL2.out]; omega)
 have hmn:Mod (fun q=>q=w.heap.size) w3x (w3x.setCell ⟨w.heap.size,41,none⟩ (.slice xa2 l2 xc2)):=(Mod.refl (fun q=>q=w.heap.size) w3x).setCell (p:=⟨w.heap.size,41,none⟩) (fun _=>rfl) _
 generalize (w3x.setCell ⟨w.heap.size,41,none⟩ (.slice xa2 l2 xc2))=w4 at hst hAn hmn
 have hZn:=(hmn.block _ (ltB hZx) (fun q=>by omega)).trans hZx
 have hMn:Mod N0 w w4:=hMx.trans hmn (fun q e hl=>by omega)
 have HQ0:=hh (EqX.keep (EqX.keep HQ0.out hm2 (fun q e=>e.elim) (fun q _ h=>h) (Nat.le_refl _)) hmn (fun q e=>by subst e; exact ⟨HN.out,fun h=>by first|omega|(simp only at h; omega)⟩) (fun q _ h=>h) (Nat.le_refl _))
 have HQ1:=hh (EqX.keep (EqX.keep HQ1.out hm2 (fun q e=>e.elim) (fun q _ h=>h) (Nat.le_refl _)) hmn (fun q e=>by subst e; exact ⟨HN.out,fun h=>by first|omega|(simp only at h; omega)⟩) (fun q _ h=>h) (Nat.le_refl _))
 have HQ2:=hh (EqX.keep (Q':=fun q=>w.heap.size+1<q) heq2 hmn (fun q e=>by subst e; exact ⟨HN.out,fun h=>by have:=ltB HA2.out; omega⟩) (fun q _ h=>by have:=ltB HZ2.out; first|omega|(simp only at h ⊢; omega)) (show 7<=7 by omega))
 have HA3:=hh hAn
 have HZ3:=hh hZn
 have HM3:=hh hMn
 have HPL3:=hh (show (patch (patch (patch cs 0 x0) 40 [.slice xa1 l1 xc1]) 41 [.slice xa2 l2 xc2]).length=45 from (patch_length (by rw [show ([.slice xa2 l2 xc2]:List Value).length=1 from rfl,HPL2.out]; omega)).trans HPL2.out)
 have HXL2:=hh (show ([.slice xa2 l2 xc2]:List Value).length=1 from rfl)
 have HX12:=hh (show ∀ u∈([.slice xa2 l2 xc2]:List Value),u.oneCell'=true from fun u hu=>by simp at hu; subst hu; rfl)
 have HST:=hh hst
 clear hAx hZx hMx hAn hmn hZn hMn hst heq2 hm2 one2 HCC
 refine ex (v:=.pointer (some ⟨w.heap.size,41,none⟩)) ?_
 refine wpList_execS rfl (exec_store_pt _ _ rfl rfl rfl HST.out) ?_
 (try simp only [Act.put])
 clear HST
 go_upto_region 4 with fail
 refine wp_region_lit ?_
 refine ex (v:=.pointer (some ⟨w.heap.size,42,none⟩)) ?_
 have hsub:((patch (patch (patch cs 0 x0) 40 [.slice xa1 l1 xc1]) 41 [.slice xa2 l2 xc2]).drop 42).take 1=(cs.drop 42).take 1:=by
  have hh:=HL.out; have hh1:=HPL1.out; have hh2:=HPL2.out; have hh3:=HPL3.out
  rw [patch_apart _ _ _ _ _ (by rw [HXL2.out]; omega)]
  rw [patch_apart _ _ _ _ _ (by rw [HXL1.out]; omega)]
  rw [patch_apart _ _ _ _ _ (by rw [HXL0.out]; omega)]
 have hc:(patch (patch (patch cs 0 x0) 40 [.slice xa1 l1 xc1]) 41 [.slice xa2 l2 xc2])[42]?=some (.slice a3 l3 c3):=flat_cell hsub HU3.out
 have s:w4.cell? ⟨w.heap.size,42,none⟩=some (.slice a3 l3 c3):=(cellB HA3.out 42).trans (by rw [List.getElem?_toArray]; exact hc)
 refine ex (v:=.slice a3 l3 c3) ?_
 clear s hc
 clear hsub
 have HCC:=hh (copyTerms (.slice a3 l3 c3) HR3.out w4 (HM.out.tr HM3.out))
 go_wp2_with fail
 refine HCC.out.mono ?_
 rintro e w4x ⟨x3,rfl,one3,heq3,hm3⟩
 rename_i hK
 refine hK _ _ ?_
 clear hK
 (try simp only [Act.put,ja,jb,jc])
 obtain ⟨mq,hmq,sa,xa3,sl,sc,xc3,hsl,rfl,hqq⟩:=id (heq3.slice rfl Tryz.underlying155 zc69)
 simp only [Value.slice.injEq] at hsl
 obtain ⟨hsa,rfl,hsc⟩:=hsl
 clear hsa hsc hmq hqq mq
 have hAx:=(hm3.block _ (ltB HA3.out) (fun q=>q)).trans HA3.out
 have hZx:=(hm3.block _ (ltB HZ3.out) (fun q=>q)).trans HZ3.out
 have hMx:=HM3.out.tr hm3
 have hst:=store_slice155 (w:=w4x) (a:=xa3) (n:=l3) (c:=xc3) ((cellB hAx 42).trans (by rw [List.getElem?_toArray]; exact List.getElem?_eq_getElem (by rw [HPL3.out]; omega))) (frozB hAx 42)
 have hAn:=setCell_box hAx 42 (.slice xa3 l3 xc3) (by rw [HPL3.out]; omega)
 have hmn:Mod (fun q=>q=w.heap.size) w4x (w4x.setCell ⟨w.heap.size,42,none⟩ (.slice xa3 l3 xc3)):=(Mod.refl (fun q=>q=w.heap.size) w4x).setCell (p:=⟨w.heap.size,42,none⟩) (fun _=>rfl) _
 generalize (w4x.setCell ⟨w.heap.size,42,none⟩ (.slice xa3 l3 xc3))=w5 at hst hAn hmn
 have hZn:=(hmn.block _ (ltB hZx) (fun q=>by omega)).trans hZx
 have hMn:Mod N0 w w5:=hMx.trans hmn (fun q e hl=>by omega)
 have HQ0:=hh (EqX.keep (EqX.keep HQ0.out hm3 (fun q e=>e.elim) (fun q _ h=>h) (Nat.le_refl _)) hmn (fun q e=>by subst e; exact ⟨HN.out,fun h=>by first|omega|(simp only at h; omega)⟩) (fun q _ h=>h) (Nat.le_refl _))
 have HQ1:=hh (EqX.keep (EqX.keep HQ1.out hm3 (fun q e=>e.elim) (fun q _ h=>h) (Nat.le_refl _)) hmn (fun q e=>by subst e; exact ⟨HN.out,fun h=>by first|omega|(simp only at h; omega)⟩) (fun q _ h=>h) (Nat.le_refl _))
 have HQ2:=hh (EqX.keep (EqX.keep HQ2.out hm3 (fun q e=>e.elim) (fun q _ h=>h) (Nat.le_refl _)) hmn (fun q e=>by subst e; exact ⟨HN.out,fun h=>by first|omega|(simp only at h; omega)⟩) (fun q _ h=>h) (Nat.le_refl _))
 have HQ3:=hh (EqX.keep (Q':=fun q=>w.heap.size+1<q) heq3 hmn (fun q e=>by subst e; exact ⟨HN.out,fun h=>by have:=ltB HA3.out; omega⟩) (fun q _ h=>by have:=ltB HZ3.out; first|omega|(simp only at h ⊢; omega)) (show 4<=7 by omega))
 have HA4:=hh hAn
 have HZ4:=hh hZn
 have HM4:=hh hMn
 have HPL4:=hh (show (patch (patch (patch (patch cs 0 x0) 40 [.slice xa1 l1 xc1]) 41 [.slice xa2 l2 xc2]) 42 [.slice xa3 l3 xc3]).length=45 from (patch_length (by rw [show ([.slice xa3 l3 xc3]:List Value).length=1 from rfl,HPL3.out]; omega)).trans HPL3.out)
 have HXL3:=hh (show ([.slice xa3 l3 xc3]:List Value).length=1 from rfl)
 have HX13:=hh (show ∀ u∈([.slice xa3 l3 xc3]:List Value),u.oneCell'=true from fun u hu=>by simp at hu; subst hu; rfl)
 have HST:=hh hst
 clear hAx hZx hMx hAn hmn hZn hMn hst heq3 hm3 one3 HCC
 refine ex (v:=.pointer (some ⟨w.heap.size,42,none⟩)) ?_
 refine wpList_execS rfl (exec_store_pt _ _ rfl rfl rfl HST.out) ?_
 (try simp only [Act.put])
 clear HST
 go_upto_region 5 with fail
 refine wp_region_lit ?_
 refine ex (v:=.pointer (some ⟨w.heap.size,43,none⟩)) ?_
 have hsub:((patch (patch (patch (patch cs 0 x0) 40 [.slice xa1 l1 xc1]) 41 [.slice xa2 l2 xc2]) 42 [.slice xa3 l3 xc3]).drop 43).take 1=(cs.drop 43).take 1:=by
  have hh:=HL.out; have hh1:=HPL1.out; have hh2:=HPL2.out; have hh3:=HPL3.out; have hh4:=HPL4.out
  rw [patch_apart _ _ _ _ _ (by rw [HXL3.out]; omega)]
  rw [patch_apart _ _ _ _ _ (by rw [HXL2.out]; omega)]
  rw [patch_apart _ _ _ _ _ (by rw [HXL1.out]; omega)]
  rw [patch_apart _ _ _ _ _ (by rw [HXL0.out]; omega)]
 have hc:(patch (patch (patch (patch cs 0 x0) 40 [.slice xa1 l1 xc1]) 41 [.slice xa2 l2 xc2]) 42 [.slice xa3 l3 xc3])[43]?=some (.slice a4 l4 c4):=flat_cell hsub HU4.out
 have s:w5.cell? ⟨w.heap.size,43,none⟩=some (.slice a4 l4 c4):=(cellB HA4.out 43).trans (by rw [List.getElem?_toArray]; exact hc)
 refine ex (v:=.slice a4 l4 c4) ?_
 clear s hc
 clear hsub
 have HCC:=hh (copyRedeemers (.slice a4 l4 c4) HR4.out w5 (HM.out.tr HM4.out))
 go_wp2_with fail
 refine HCC.out.mono ?_
 rintro e w5x ⟨x4,rfl,one4,heq4,hm4⟩
 rename_i hK
 refine hK _ _ ?_
 clear hK
 (try simp only [Act.put,ja,jb,jc])
 obtain ⟨mq,hmq,sa,xa4,sl,sc,xc4,hsl,rfl,hqq⟩:=id (heq4.slice rfl Tryz.underlying156 zc269)
 simp only [Value.slice.injEq] at hsl
 obtain ⟨hsa,rfl,hsc⟩:=hsl
 clear hsa hsc hmq hqq mq
 have hAx:=(hm4.block _ (ltB HA4.out) (fun q=>q)).trans HA4.out
 have hZx:=(hm4.block _ (ltB HZ4.out) (fun q=>q)).trans HZ4.out
 have hMx:=HM4.out.tr hm4
 have hst:=store_slice156 (w:=w5x) (a:=xa4) (n:=l4) (c:=xc4) ((cellB hAx 43).trans (by rw [List.getElem?_toArray]; exact List.getElem?_eq_getElem (by rw [HPL4.out]; omega))) (frozB hAx 43)
 have hAn:=setCell_box hAx 43 (.slice xa4 l4 xc4) (by rw [HPL4.out]; omega)
 have hmn:Mod (fun q=>q=w.heap.size) w5x (w5x.setCell ⟨w.heap.size,43,none⟩ (.slice xa4 l4 xc4)):=(Mod.refl (fun q=>q=w.heap.size) w5x).setCell (p:=⟨w.heap.size,43,none⟩) (fun _=>rfl) _
 generalize (w5x.setCell ⟨w.heap.size,43,none⟩ (.slice xa4 l4 xc4))=w6 at hst hAn hmn
 have hZn:=(hmn.block _ (ltB hZx) (fun q=>by omega)).trans hZx
 have hMn:Mod N0 w w6:=hMx.trans hmn (fun q e hl=>by omega)
 have HQ0:=hh (EqX.keep (EqX.keep HQ0.out hm4 (fun q e=>e.elim) (fun q _ h=>h) (Nat.le_refl _)) hmn (fun q e=>by subst e; exact ⟨HN.out,fun h=>by first|omega|(simp only at h; omega)⟩) (fun q _ h=>h) (Nat.le_refl _))
 have HQ1:=hh (EqX.keep (EqX.keep HQ1.out hm4 (fun q e=>e.elim) (fun q _ h=>h) (Nat.le_refl _)) hmn (fun q e=>by subst e; exact ⟨HN.out,fun h=>by first|omega|(simp only at h; omega)⟩) (fun q _ h=>h) (Nat.le_refl _))
 have HQ2:=hh (EqX.keep (EqX.keep HQ2.out hm4 (fun q e=>e.elim) (fun q _ h=>h) (Nat.le_refl _)) hmn (fun q e=>by subst e; exact ⟨HN.out,fun h=>by first|omega|(simp only at h; omega)⟩) (fun q _ h=>h) (Nat.le_refl _))
 have HQ3:=hh (EqX.keep (EqX.keep HQ3.out hm4 (fun q e=>e.elim) (fun q _ h=>h) (Nat.le_refl _)) hmn (fun q e=>by subst e; exact ⟨HN.out,fun h=>by first|omega|(simp only at h; omega)⟩) (fun q _ h=>h) (Nat.le_refl _))
 have HQ4:=hh (EqX.keep (Q':=fun q=>w.heap.size+1<q) heq4 hmn (fun q e=>by subst e; exact ⟨HN.out,fun h=>by have:=ltB HA4.out; omega⟩) (fun q _ h=>by have:=ltB HZ4.out; first|omega|(simp only at h ⊢; omega)) (show 5<=7 by omega))
 have HA5:=hh hAn
 have HZ5:=hh hZn
 have HM5:=hh hMn
 have HPL5:=hh (show (patch (patch (patch (patch (patch cs 0 x0) 40 [.slice xa1 l1 xc1]) 41 [.slice xa2 l2 xc2]) 42 [.slice xa3 l3 xc3]) 43 [.slice xa4 l4 xc4]).length=45 from (patch_length (by rw [show ([.slice xa4 l4 xc4]:List Value).length=1 from rfl,HPL4.out]; omega)).trans HPL4.out)
 have HXL4:=hh (show ([.slice xa4 l4 xc4]:List Value).length=1 from rfl)
 have HX14:=hh (show ∀ u∈([.slice xa4 l4 xc4]:List Value),u.oneCell'=true from fun u hu=>by simp at hu; subst hu; rfl)
 have HST:=hh hst
 clear hAx hZx hMx hAn hmn hZn hMn hst heq4 hm4 one4 HCC
 refine ex (v:=.pointer (some ⟨w.heap.size,43,none⟩)) ?_
 refine wpList_execS rfl (exec_store_pt _ _ rfl rfl rfl HST.out) ?_
 (try simp only [Act.put])
 clear HST
 have hld:=load_box HA5.out 158 0 45 _ Tryz.underlying158 rfl zs158 (by rw [HPL5.out]; omega)
 rw [List.drop_zero,List.take_of_length_le (by rw [HPL5.out]; omega)] at hld
 have hon:∀ u∈(patch (patch (patch (patch (patch cs 0 x0) 40 [.slice xa1 l1 xc1]) 41 [.slice xa2 l2 xc2]) 42 [.slice xa3 l3 xc3]) 43 [.slice xa4 l4 xc4]),u.oneCell'=true:=(patch_ones (patch_ones (patch_ones (patch_ones (patch_ones HON.out HX10.out) HX11.out) HX12.out) HX13.out) HX14.out)
 have hst:=run_storeVar_row (P:=Tryz.prog) w6 (w.heap.size+1) 158 158 z (patch (patch (patch (patch (patch cs 0 x0) 40 [.slice xa1 l1 xc1]) 41 [.slice xa2 l2 xc2]) 42 [.slice xa3 l3 xc3]) 43 [.slice xa4 l4 xc4]).toArray HZ5.out (by rw [zs158]; simp [HPL5.out]) (by rw [HZV.out.2]; simp [HPL5.out]) (by rw [List.all_toArray,List.all_eq_true]; exact hon)
 have hR:=setRow_same (cs:=(patch (patch (patch (patch (patch cs 0 x0) 40 [.slice xa1 l1 xc1]) 41 [.slice xa2 l2 xc2]) 42 [.slice xa3 l3 xc3]) 43 [.slice xa4 l4 xc4]).toArray) HZ5.out
 have hmr:Mod (fun q=>q=w.heap.size+1) w6 (w6.setRow (w.heap.size+1) (patch (patch (patch (patch (patch cs 0 x0) 40 [.slice xa1 l1 xc1]) 41 [.slice xa2 l2 xc2]) 42 [.slice xa3 l3 xc3]) 43 [.slice xa4 l4 xc4]).toArray):=Mod_setRow (Mod.refl (fun q=>q=w.heap.size+1) w6) (fun _=>rfl) _
 generalize w6.setRow (w.heap.size+1) (patch (patch (patch (patch (patch cs 0 x0) 40 [.slice xa1 l1 xc1]) 41 [.slice xa2 l2 xc2]) 42 [.slice xa3 l3 xc3]) 43 [.slice xa4 l4 xc4]).toArray=wf at hst hR hmr
 have hmf:Mod N0 w wf:=HM5.out.trans hmr (fun q e hl=>by omega)
 have HQ0:=hh (EqX.keep (Q':=fun q=>w.heap.size<=q) HQ0.out hmr (fun q e=>by subst e; exact ⟨by have:=HN.out; omega,fun h=>by first|omega|(simp only at h; omega)⟩) (fun q _ h=>by first|omega|(simp only at h ⊢; omega)) (Nat.le_refl _))
 have HQ1:=hh (EqX.keep (Q':=fun q=>w.heap.size<=q) HQ1.out hmr (fun q e=>by subst e; exact ⟨by have:=HN.out; omega,fun h=>by first|omega|(simp only at h; omega)⟩) (fun q _ h=>by first|omega|(simp only at h ⊢; omega)) (Nat.le_refl _))
 have HQ2:=hh (EqX.keep (Q':=fun q=>w.heap.size<=q) HQ2.out hmr (fun q e=>by subst e; exact ⟨by have:=HN.out; omega,fun h=>by first|omega|(simp only at h; omega)⟩) (fun q _ h=>by first|omega|(simp only at h ⊢; omega)) (Nat.le_refl _))
 have HQ3:=hh (EqX.keep (Q':=fun q=>w.heap.size<=q) HQ3.out hmr (fun q e=>by subst e; exact ⟨by have:=HN.out; omega,fun h=>by first|omega|(simp only at h; omega)⟩) (fun q _ h=>by first|omega|(simp only at h ⊢; omega)) (Nat.le_refl _))
 have HQ4:=hh (EqX.keep (Q':=fun q=>w.heap.size<=q) HQ4.out hmr (fun q e=>by subst e; exact ⟨by have:=HN.out; omega,fun h=>by first|omega|(simp only at h; omega)⟩) (fun q _ h=>by first|omega|(simp only at h ⊢; omega)) (Nat.le_refl _))
 have hret:=load_box hR 158 0 45 _ Tryz.underlying158 rfl zs158 (by rw [HPL5.out]; omega)
 rw [List.drop_zero,List.take_of_length_le (by rw [HPL5.out]; omega)] at hret
 have HF:=hh (And.intro hst (And.intro hret (And.intro hmf (And.intro hon hld))))
 clear hst hR hmr hmf hon hld hret
 go_upto_region 6 with fail
 refine wp_region_lit ?_
 refine wx (exec_load_pt _ _ 158 _ rfl ⟨w.heap.size,0,none⟩ rfl HF.out.2.2.2.2) ?_
 refine wpList_execS rfl (exec_store_pt _ _ rfl rfl rfl HF.out.1) ?_
 (try simp only [Act.put])
 go_wp2_with fail
 refine bodyPost_ret (v:=.agg (patch (patch (patch (patch (patch cs 0 x0) 40 [.slice xa1 l1 xc1]) 41 [.slice xa2 l2 xc2]) 42 [.slice xa3 l3 xc3]) 43 [.slice xa4 l4 xc4]).toArray) (resC54 rfl HF.out.2.1) rfl ⟨(patch (patch (patch (patch (patch cs 0 x0) 40 [.slice xa1 l1 xc1]) 41 [.slice xa2 l2 xc2]) 42 [.slice xa3 l3 xc3]) 43 [.slice xa4 l4 xc4]),rfl,HF.out.2.2.2.1,?_,HF.out.2.2.1⟩
 refine Eqv.structI (n:=7) rfl Tryz.underlying158 (by rw [zc158]; exact HL.out) (by rw [zc158]; exact HPL5.out) (fun i f hf=>?_)
 match i,hf with
|0,hf=>
  have e:((patch (patch (patch (patch (patch cs 0 x0) 40 [.slice xa1 l1 xc1]) 41 [.slice xa2 l2 xc2]) 42 [.slice xa3 l3 xc3]) 43 [.slice xa4 l4 xc4]).drop 0).take 40=x0:=by
   have hh:=HL.out; have hh1:=HPL1.out; have hh2:=HPL2.out; have hh3:=HPL3.out; have hh4:=HPL4.out; have hh5:=HPL5.out
   rw [patch_apart _ _ _ _ _ (by rw [HXL4.out]; omega)]
   rw [patch_apart _ _ _ _ _ (by rw [HXL3.out]; omega)]
   rw [patch_apart _ _ _ _ _ (by rw [HXL2.out]; omega)]
   rw [patch_apart _ _ _ _ _ (by rw [HXL1.out]; omega)]
   exact patch_same' HXL0.out _ _ (by have:=HL.out; omega)
  exact eqx_put hf 152 0 40 rfl rfl zc152 (by rw [e]; exact HQ0.out)
|1,hf=>
  have e:((patch (patch (patch (patch (patch cs 0 x0) 40 [.slice xa1 l1 xc1]) 41 [.slice xa2 l2 xc2]) 42 [.slice xa3 l3 xc3]) 43 [.slice xa4 l4 xc4]).drop 40).take 1=[.slice xa1 l1 xc1]:=by
   have hh:=HL.out; have hh1:=HPL1.out; have hh2:=HPL2.out; have hh3:=HPL3.out; have hh4:=HPL4.out; have hh5:=HPL5.out
   rw [patch_apart _ _ _ _ _ (by rw [HXL4.out]; omega)]
   rw [patch_apart _ _ _ _ _ (by rw [HXL3.out]; omega)]
   rw [patch_apart _ _ _ _ _ (by rw [HXL2.out]; omega)]
   exact patch_same' HXL1.out _ _ (by have:=HL.out; have:=HPL1.out; omega)
  exact eqx_put hf 153 40 1 rfl rfl zc153 (by rw [e,take_one HU1.out]; exact HQ1.out)
|2,hf=>
  have e:((patch (patch (patch (patch (patch cs 0 x0) 40 [.slice xa1 l1 xc1]) 41 [.slice xa2 l2 xc2]) 42 [.slice xa3 l3 xc3]) 43 [.slice xa4 l4 xc4]).drop 41).take 1=[.slice xa2 l2 xc2]:=by
   have hh:=HL.out; have hh1:=HPL1.out; have hh2:=HPL2.out; have hh3:=HPL3.out; have hh4:=HPL4.out; have hh5:=HPL5.out
   rw [patch_apart _ _ _ _ _ (by rw [HXL4.out]; omega)]
   rw [patch_apart _ _ _ _ _ (by rw [HXL3.out]; omega)]
   exact patch_same' HXL2.out _ _ (by have:=HL.out; have:=HPL2.out; omega)
  exact eqx_put hf 154 41 1 rfl rfl zc154 (by rw [e,take_one HU2.out]; exact HQ2.out)
|3,hf=>
  have e:((patch (patch (patch (patch (patch cs 0 x0) 40 [.slice xa1 l1 xc1]) 41 [.slice xa2 l2 xc2]) 42 [.slice xa3 l3 xc3]) 43 [.slice xa4 l4 xc4]).drop 42).take 1=[.slice xa3 l3 xc3]:=by
   have hh:=HL.out; have hh1:=HPL1.out; have hh2:=HPL2.out; have hh3:=HPL3.out; have hh4:=HPL4.out; have hh5:=HPL5.out
   rw [patch_apart _ _ _ _ _ (by rw [HXL4.out]; omega)]
   exact patch_same' HXL3.out _ _ (by have:=HL.out; have:=HPL3.out; omega)
  exact eqx_put hf 155 42 1 rfl rfl zc155 (by rw [e,take_one HU3.out]; exact HQ3.out)
|4,hf=>
  have e:((patch (patch (patch (patch (patch cs 0 x0) 40 [.slice xa1 l1 xc1]) 41 [.slice xa2 l2 xc2]) 42 [.slice xa3 l3 xc3]) 43 [.slice xa4 l4 xc4]).drop 43).take 1=[.slice xa4 l4 xc4]:=by
   exact patch_same' HXL4.out _ _ (by have:=HL.out; have:=HPL4.out; omega)
  exact eqx_put hf 156 43 1 rfl rfl zc156 (by rw [e,take_one HU4.out]; exact HQ4.out)
|5,hf=>
  have e:((patch (patch (patch (patch (patch cs 0 x0) 40 [.slice xa1 l1 xc1]) 41 [.slice xa2 l2 xc2]) 42 [.slice xa3 l3 xc3]) 43 [.slice xa4 l4 xc4]).drop 44).take 1=(cs.drop 44).take 1:=by
   have hh:=HL.out; have hh1:=HPL1.out; have hh2:=HPL2.out; have hh3:=HPL3.out; have hh4:=HPL4.out; have hh5:=HPL5.out
   rw [patch_apart _ _ _ _ _ (by rw [HXL4.out]; omega)]
   rw [patch_apart _ _ _ _ _ (by rw [HXL3.out]; omega)]
   rw [patch_apart _ _ _ _ _ (by rw [HXL2.out]; omega)]
   rw [patch_apart _ _ _ _ _ (by rw [HXL1.out]; omega)]
   rw [patch_apart _ _ _ _ _ (by rw [HXL0.out]; omega)]
  exact eqx_put hf 4 44 1 rfl rfl zc4 (by rw [e]; exact Eqv.flatI 6 rfl)
|i+6,hf=>simp at hf
set_option maxRecDepth 100000 in
set_option maxHeartbeats 1000000 in
theorem copyTxs {w0:World} (v:Value) (hr:Rd w0 34 [v]) (w:World) (hm:Mod N0 w0 w):Calls Tryz.prog 28 #[v] w fun e w'=>CpS w0 9 34 w v e w':=by
 obtain ⟨a,len,cap,rfl,hb,_,hel⟩:=hr.slice Tryz.underlying34 zc158 (by omega)
 rw [zbo158] at hb
 obtain ⟨z,hzv,hinf,hzs⟩:=zi158
 have HE:=hh hel
 have HM:=hh hm
 have HZ:=hh (And.intro hzv (And.intro hinf hzs))
 have hb2:len * 280<=140737488351232:=hb
 clear hel hm hzv hinf hzs hr hb
 go_enter Tryz.func28,Tryz.ntmps28
 go_wp2_with fail
 go_loopw [3,4] (fun v3 i wr=>∃ (k:Nat) (v':Value) (rows:List (List Value)),k<=len/\v'=v3/\i=.int .i64 k/\rows.length=k/\CL w0 w 8 158 45 a v' rows wr) (fun _ i _=>len - (intOf i).toNat)
 case atStart=>exact ⟨0,_,[],by omega,rfl,rfl,rfl,CL.nil HM.out⟩
 case round=>
  obtain ⟨k,v3,rows,hk,rfl,rfl,hrl,hcl⟩:=hrel
  have HCL:=hh hcl
  have HRL:=hh hrl
  clear hcl hrl
  by_cases hlt:k<len
  ·obtain ⟨L,off,ds,rfl,hL,hl,hrd,hc⟩:=HE.out k hlt
   have hld:(loadVar 158 ⟨L,off+k * 45,none⟩).run Tryz.prog wr=.ok (.agg ds.toArray) wr:=by
    have:=load_mid (w:=wr) (p:=off+k * 45) (fun j u hu=>((HM.out.tr HCL.out.mod).cell (p:=⟨L,_,none⟩) hL (fun q=>q)).trans (hc j u hu)) 158 0 45 _ Tryz.underlying158 rfl zs158 (by omega)
    rw [List.drop_zero,List.take_of_length_le (by omega),Nat.add_zero] at this
    exact this
   have HLD:=hh hld
   have HCC:=hh (copyTx ds hrd wr (HM.out.tr HCL.out.mod))
   have HS:=hh (And.intro hL (And.intro hl (And.intro hrd hc)))
   clear hld hL hl hrd hc
   go_wp2_with (refine wpList_exec rfl (exec_load_pt _ _ 158 _ rfl ⟨L,off+k * 45,none⟩ rfl HLD.out) ?_)
   refine HCC.out.mono ?_
   rintro e w2 ⟨cs',rfl,one,heq,hm2⟩
   rename_i hK
   refine hK _ _ ?_
   clear hK
   (try simp only [Act.put,ja,jb,jc])
   have hcl':cs'.length=45:=by
    obtain ⟨_,_,_,h,_⟩:=heq.struct rfl Tryz.underlying158
    rw [h,zc158]
   have hst:=run_storeVar_row (P:=Tryz.prog) (w2.alloc (.cells z 158)) w2.heap.size 158 158 z cs'.toArray (newB w2 _) (by rw [zs158]; simp [hcl']) (by rw [HZ.out.2.2]; simp [hcl']) (by rw [List.all_toArray,List.all_eq_true]; exact one)
   have hR:=setRow_same (cs:=cs'.toArray) (newB w2 (.cells z 158))
   have hmr:Mod N0 w2 ((w2.alloc (.cells z 158)).setRow w2.heap.size cs'.toArray):=Mod_setRow ((Mod.refl _ w2).alloc (.cells z 158)) (b:=w2.heap.size) (fun q=>by omega) _
   generalize (w2.alloc (.cells z 158)).setRow w2.heap.size cs'.toArray=w3 at hst hR hmr
   have hld3:=load_box hR 158 0 45 _ Tryz.underlying158 rfl zs158 (by omega)
   rw [List.drop_zero,List.take_of_length_le (by omega)] at hld3
   have HST:=hh (And.intro hst hld3)
   have HQ:=hh (And.intro heq (And.intro one (And.intro hcl' (And.intro hm2 hmr))))
   clear hst hR hmr hld3 heq one hcl' hm2
   refine ww (exec_alloc _ _ 158 z rfl HZ.out.1) ?_
   refine wpList_execS rfl (exec_store_pt _ _ rfl rfl rfl HST.out.1) ?_
   (try simp only [Act.put])
   go_upto_region 6 with fail
   refine wp_region_lit ?_
   refine ex (v:=v3) ?_
   refine wx (exec_load_pt _ _ 158 _ rfl ⟨w2.heap.size,0,none⟩ rfl HST.out.2) ?_
   obtain ⟨i,hi,hz0,hz1,hz2⟩:=info_parts HZ.out.2.1
   have hsl:∀ (act:Act) (o:Oper) (x:Operand),o.op=.buildSlice 34 1 #[(0,x)]->act.eval x=.agg cs'.toArray->(execOp act.eval o).run Tryz.prog w3=.ok (.value (.slice (some ⟨w3.heap.size,0,none⟩) 1 1)) (w3.alloc (.cells cs'.toArray 158)):=by
    intro act o x ho hx
    have:=exec_slicesL act o (w:=w3) [(0,x)] ho [.agg cs'.toArray] (by simp [hx]) (E:=158) (s:=45) Tryz.underlying34 hi hz0 hz1 (by omega) rfl (by omega) (by omega) (by intro y hy; simp at hy; subst hy; simpa [Value.cells] using HQ.out.2.2.1)
    simpa [Value.cells] using this
   refine ww (hsl _ _ _ rfl rfl) ?_
   clear hsl
   have hN:=row_cells (newB w3 (.cells cs'.toArray 158))
   have hmA:Mod N0 wr (w3.alloc (.cells cs'.toArray 158)):=((HQ.out.2.2.2.1.tr HQ.out.2.2.2.2)).alloc _
   have hqA:=EqX.keep (Q':=fun q=>wr.heap.size<=q) HQ.out.1 (HQ.out.2.2.2.2.alloc (.cells cs'.toArray 158)) (fun q e=>e.elim) (fun q _ h=>h) (Nat.le_refl _)
   generalize w3.alloc (.cells cs'.toArray 158)=w4 at hN hmA hqA ⊢
   generalize w3.heap.size=g3 at hN ⊢
   have HN:=hh hN
   have HA:=hh (And.intro hmA hqA)
   have HO:=hh (ownsRow_block HCL.out.own (fun q hq=>hmA.block q (ownsRow_lt HCL.out.own hq) (fun e=>e)))
   clear hN hmA hqA
   refine wpList_append_at _ rfl _ _ 34 rfl 158 i _ 45 280 Tryz.underlying34 hi hz0 hz1 hz2 (by simpa [Value.cells] using HZ.out.2.2) (by decide) v3 rows.length rows.flatten rfl HO.out ⟨g3,0,none⟩ 1 1 cs' rfl (by rw [HQ.out.2.2.1]) HN.out HQ.out.2.1 (by have:=HRL.out; simp only [maxLen]; omega) (by have:=HRL.out; omega) ?_
   intro v6 w6 ho6 hg6 hat6
   have HF:=hh (HCL.out.more (k:=k) HRL.out rfl HS.out.1 HS.out.2.1 HS.out.2.2.1 HS.out.2.2.2 HA.out.1 HQ.out.2.2.1 HA.out.2 ho6 hg6 hat6)
   clear ho6 hg6 hat6 hi hz0 hz1 hz2
   (try simp only [Act.put,ja,jb,jc])
   go_wp2_with fail
   go_roundw
   case rel=>exact ⟨k+1,_,_,by omega,rfl,by simp,by rw [List.length_append,HRL.out]; rfl,HF.out⟩
   case measure=>simp [intOf]; omega
  ·have e:k=len:=by omega
   subst e
   have HF:=hh (HCL.out.fin (t:=34) (cap:=cap) rfl Tryz.underlying34 zc158 (by omega) HM.out)
   rw [HRL.out] at HF
   go_wp2_with fail
   go_ret
   exact ⟨_,rfl,HF.out.1,HF.out.2,HCL.out.mod⟩
set_option maxRecDepth 100000 in
set_option maxHeartbeats 1000000 in
theorem copyBlock {w0:World} (cs:List Value) (hr:Rd w0 140 cs) (w:World) (hm:Mod N0 w0 w):Calls Tryz.prog 104 #[.agg cs.toArray] w fun e w'=>CpR w0 10 140 w cs e w':=by
 have hl:=hr.len Tryz.underlying140
 rw [zc140] at hl
 obtain ⟨u1,hu1,hru1⟩:=hr.cellAt Tryz.underlying140 1 rfl 34 67 rfl rfl zc34 zc140 (by omega)
 obtain ⟨a1,l1,c1,rfl,_⟩:=id (hru1.slice Tryz.underlying34 zc158 (by omega))
 have HU1:=hh hu1
 have HR1:=hh hru1
 clear hu1 hru1
 obtain ⟨z,hzv,_,hzs⟩:=zi140
 have hA0:((w.alloc (.cells cs.toArray 140)).alloc (.cells z 140)).heap[w.heap.size]?=some (.cells cs.toArray 140 (0,0)):=allocB (newB w _) _
 have hZ0:((w.alloc (.cells cs.toArray 140)).alloc (.cells z 140)).heap[w.heap.size+1]?=some (.cells z 140 (0,0)):=by
  have:=newB (w.alloc (.cells cs.toArray 140)) (.cells z 140); rwa [World.size_alloc] at this
 have hM0:Mod N0 w ((w.alloc (.cells cs.toArray 140)).alloc (.cells z 140)):=((Mod.refl _ w).alloc _).alloc _
 have HZV:=hh (And.intro hzv hzs)
 have HL:=hh hl
 have HM:=hh hm
 have HON:=hh (ones140 hr)
 have HN:=hh hm.size
 clear hzv hzs hl hm hr
 go_enter Tryz.func104,Tryz.ntmps104
 go_upto_region 0 with fail
 refine wp_region_lit ?_
 refine ww (exec_box _ _ 140 cs rfl rfl) ?_
 refine ww (exec_alloc _ _ 140 z rfl HZV.out.1) ?_
 rw [World.size_alloc]
 generalize (w.alloc (.cells cs.toArray 140)).alloc (.cells z 140)=w1 at hA0 hZ0 hM0 ⊢
 have HA0:=hh hA0
 have HZ0:=hh hZ0
 have HM0:=hh hM0
 clear hA0 hZ0 hM0
 go_upto_region 1 with fail
 refine wp_region_lit ?_
 refine ex (v:=.pointer (some ⟨w.heap.size,67,none⟩)) ?_
 have hsub:(cs.drop 67).take 1=(cs.drop 67).take 1:=by
  rfl
 have hc:cs[67]?=some (.slice a1 l1 c1):=flat_cell hsub HU1.out
 have s:w1.cell? ⟨w.heap.size,67,none⟩=some (.slice a1 l1 c1):=(cellB HA0.out 67).trans (by rw [List.getElem?_toArray]; exact hc)
 refine ex (v:=.slice a1 l1 c1) ?_
 clear s hc
 clear hsub
 have HCC:=hh (copyTxs (.slice a1 l1 c1) HR1.out w1 (HM.out.tr HM0.out))
 go_wp2_with fail
 refine HCC.out.mono ?_
 rintro e w1x ⟨x1,rfl,one1,heq1,hm1⟩
 rename_i hK
 refine hK _ _ ?_
 clear hK
 (try simp only [Act.put,ja,jb,jc])
 obtain ⟨mq,hmq,sa,xa1,sl,sc,xc1,hsl,rfl,hqq⟩:=id (heq1.slice rfl Tryz.underlying34 zc158)
 simp only [Value.slice.injEq] at hsl
 obtain ⟨hsa,rfl,hsc⟩:=hsl
 clear hsa hsc hmq hqq mq
 have hAx:=(hm1.block _ (ltB HA0.out) (fun q=>q)).trans HA0.out
 have hZx:=(hm1.block _ (ltB HZ0.out) (fun q=>q)).trans HZ0.out
 have hMx:=HM0.out.tr hm1
 have hst:=store_slice34 (w:=w1x) (a:=xa1) (n:=l1) (c:=xc1) ((cellB hAx 67).trans (by rw [List.getElem?_toArray]; exact List.getElem?_eq_getElem (by rw [HL.out]; omega))) (frozB hAx 67)
 have hAn:=setCell_box hAx 67 (.slice xa1 l1 xc1) (by rw [HL.out]; omega)
 have hmn:Mod (fun q=>q=w.heap.size) w1x (w1x.setCell ⟨w.heap.size,67,none⟩ (.slice xa1 l1 xc1)):=(Mod.refl (fun q=>q=w.heap.size) w1x).setCell (p:=⟨w.heap.size,67,none⟩) (fun _=>rfl) _
 generalize (w1x.setCell ⟨w.heap.size,67,none⟩ (.slice xa1 l1 xc1))=w2 at hst hAn hmn
 have hZn:=(hmn.block _ (ltB hZx) (fun q=>by omega)).trans hZx
 have hMn:Mod N0 w w2:=hMx.trans hmn (fun q e hl=>by omega)
 have HQ1:=hh (EqX.keep (Q':=fun q=>w.heap.size+1<q) heq1 hmn (fun q e=>by subst e; exact ⟨HN.out,fun h=>by have:=ltB HA0.out; omega⟩) (fun q _ h=>by have:=ltB HZ0.out; first|omega|(simp only at h ⊢; omega)) (show 9<=9 by omega))
 have HA1:=hh hAn
 have HZ1:=hh hZn
 have HM1:=hh hMn
 have HPL1:=hh (show (patch cs 67 [.slice xa1 l1 xc1]).length=68 from (patch_length (by rw [show ([.slice xa1 l1 xc1]:List Value).length=1 from rfl,HL.out]; omega)).trans HL.out)
 have HXL1:=hh (show ([.slice xa1 l1 xc1]:List Value).length=1 from rfl)
 have HX11:=hh (show ∀ u∈([.slice xa1 l1 xc1]:List Value),u.oneCell'=true from fun u hu=>by simp at hu; subst hu; rfl)
 have HST:=hh hst
 clear hAx hZx hMx hAn hmn hZn hMn hst heq1 hm1 one1 HCC
 refine ex (v:=.pointer (some ⟨w.heap.size,67,none⟩)) ?_
 refine wpList_execS rfl (exec_store_pt _ _ rfl rfl rfl HST.out) ?_
 (try simp only [Act.put])
 clear HST
 have hld:=load_box HA1.out 140 0 68 _ Tryz.underlying140 rfl zs140 (by rw [HPL1.out]; omega)
 rw [List.drop_zero,List.take_of_length_le (by rw [HPL1.out]; omega)] at hld
 have hon:∀ u∈(patch cs 67 [.slice xa1 l1 xc1]),u.oneCell'=true:=(patch_ones HON.out HX11.out)
 have hst:=run_storeVar_row (P:=Tryz.prog) w2 (w.heap.size+1) 140 140 z (patch cs 67 [.slice xa1 l1 xc1]).toArray HZ1.out (by rw [zs140]; simp [HPL1.out]) (by rw [HZV.out.2]; simp [HPL1.out]) (by rw [List.all_toArray,List.all_eq_true]; exact hon)
 have hR:=setRow_same (cs:=(patch cs 67 [.slice xa1 l1 xc1]).toArray) HZ1.out
 have hmr:Mod (fun q=>q=w.heap.size+1) w2 (w2.setRow (w.heap.size+1) (patch cs 67 [.slice xa1 l1 xc1]).toArray):=Mod_setRow (Mod.refl (fun q=>q=w.heap.size+1) w2) (fun _=>rfl) _
 generalize w2.setRow (w.heap.size+1) (patch cs 67 [.slice xa1 l1 xc1]).toArray=wf at hst hR hmr
 have hmf:Mod N0 w wf:=HM1.out.trans hmr (fun q e hl=>by omega)
 have HQ1:=hh (EqX.keep (Q':=fun q=>w.heap.size<=q) HQ1.out hmr (fun q e=>by subst e; exact ⟨by have:=HN.out; omega,fun h=>by first|omega|(simp only at h; omega)⟩) (fun q _ h=>by first|omega|(simp only at h ⊢; omega)) (Nat.le_refl _))
 have hret:=load_box hR 140 0 68 _ Tryz.underlying140 rfl zs140 (by rw [HPL1.out]; omega)
 rw [List.drop_zero,List.take_of_length_le (by rw [HPL1.out]; omega)] at hret
 have HF:=hh (And.intro hst (And.intro hret (And.intro hmf (And.intro hon hld))))
 clear hst hR hmr hmf hon hld hret
 go_upto_region 2 with fail
 refine wp_region_lit ?_
 refine wx (exec_load_pt _ _ 140 _ rfl ⟨w.heap.size,0,none⟩ rfl HF.out.2.2.2.2) ?_
 refine wpList_execS rfl (exec_store_pt _ _ rfl rfl rfl HF.out.1) ?_
 (try simp only [Act.put])
 go_wp2_with fail
 refine bodyPost_ret (v:=.agg (patch cs 67 [.slice xa1 l1 xc1]).toArray) (resC104 rfl HF.out.2.1) rfl ⟨(patch cs 67 [.slice xa1 l1 xc1]),rfl,HF.out.2.2.2.1,?_,HF.out.2.2.1⟩
 refine Eqv.structI (n:=9) rfl Tryz.underlying140 (by rw [zc140]; exact HL.out) (by rw [zc140]; exact HPL1.out) (fun i f hf=>?_)
 match i,hf with
|0,hf=>
  have e:((patch cs 67 [.slice xa1 l1 xc1]).drop 0).take 67=(cs.drop 0).take 67:=by
   have hh:=HL.out; have hh1:=HPL1.out
   rw [patch_apart _ _ _ _ _ (by rw [HXL1.out]; omega)]
  exact eqx_put hf 32 0 67 rfl rfl zc32 (by rw [e]; exact Eqv.flatI 8 rfl)
|1,hf=>
  have e:((patch cs 67 [.slice xa1 l1 xc1]).drop 67).take 1=[.slice xa1 l1 xc1]:=by
   exact patch_same' HXL1.out _ _ (by have:=HL.out; omega)
  exact eqx_put hf 34 67 1 rfl rfl zc34 (by rw [e,take_one HU1.out]; exact HQ1.out)
|i+2,hf=>simp at hf
set_option maxRecDepth 100000 in
set_option maxHeartbeats 1000000 in
theorem copyDiff {w0:World} (cs:List Value) (hr:Rd w0 143 cs) (w:World) (hm:Mod N0 w0 w):Calls Tryz.prog 105 #[.agg cs.toArray] w fun e w'=>CpR w0 7 143 w cs e w':=by
 have hl:=hr.len Tryz.underlying143
 rw [zc143] at hl
 obtain ⟨u0,hu0,hru0⟩:=hr.cellAt Tryz.underlying143 0 rfl 28 0 rfl rfl zc28 zc143 (by omega)
 obtain ⟨a0,l0,c0,rfl,_⟩:=id (hru0.slice Tryz.underlying28 zc73 (by omega))
 have HU0:=hh hu0
 have HR0:=hh hru0
 clear hu0 hru0
 obtain ⟨u1,hu1,hru1⟩:=hr.cellAt Tryz.underlying143 1 rfl 28 1 rfl rfl zc28 zc143 (by omega)
 obtain ⟨a1,l1,c1,rfl,_⟩:=id (hru1.slice Tryz.underlying28 zc73 (by omega))
 have HU1:=hh hu1
 have HR1:=hh hru1
 clear hu1 hru1
 obtain ⟨u4,hu4,hru4⟩:=hr.cellAt Tryz.underlying143 4 rfl 33 4 rfl rfl zc33 zc143 (by omega)
 obtain ⟨a4,l4,c4,rfl,_⟩:=id (hru4.slice Tryz.underlying33 zc78 (by omega))
 have HU4:=hh hu4
 have HR4:=hh hru4
 clear hu4 hru4
 obtain ⟨z,hzv,_,hzs⟩:=zi143
 have hA0:((w.alloc (.cells cs.toArray 143)).alloc (.cells z 143)).heap[w.heap.size]?=some (.cells cs.toArray 143 (0,0)):=allocB (newB w _) _
 have hZ0:((w.alloc (.cells cs.toArray 143)).alloc (.cells z 143)).heap[w.heap.size+1]?=some (.cells z 143 (0,0)):=by
  have:=newB (w.alloc (.cells cs.toArray 143)) (.cells z 143); rwa [World.size_alloc] at this
 have hM0:Mod N0 w ((w.alloc (.cells cs.toArray 143)).alloc (.cells z 143)):=((Mod.refl _ w).alloc _).alloc _
 have HZV:=hh (And.intro hzv hzs)
 have HL:=hh hl
 have HM:=hh hm
 have HON:=hh (ones143 hr)
 have HN:=hh hm.size
 clear hzv hzs hl hm hr
 go_enter Tryz.func105,Tryz.ntmps105
 go_upto_region 0 with fail
 refine wp_region_lit ?_
 refine ww (exec_box _ _ 143 cs rfl rfl) ?_
 refine ww (exec_alloc _ _ 143 z rfl HZV.out.1) ?_
 rw [World.size_alloc]
 generalize (w.alloc (.cells cs.toArray 143)).alloc (.cells z 143)=w1 at hA0 hZ0 hM0 ⊢
 have HA0:=hh hA0
 have HZ0:=hh hZ0
 have HM0:=hh hM0
 clear hA0 hZ0 hM0
 go_upto_region 1 with fail
 refine wp_region_lit ?_
 refine ex (v:=.pointer (some ⟨w.heap.size,0,none⟩)) ?_
 have hsub:(cs.drop 0).take 1=(cs.drop 0).take 1:=by
  rfl
 have hc:cs[0]?=some (.slice a0 l0 c0):=flat_cell hsub HU0.out
 have s:w1.cell? ⟨w.heap.size,0,none⟩=some (.slice a0 l0 c0):=(cellB HA0.out 0).trans (by rw [List.getElem?_toArray]; exact hc)
 refine ex (v:=.slice a0 l0 c0) ?_
 clear s hc
 clear hsub
 have HCC:=hh (copyEntries (.slice a0 l0 c0) HR0.out w1 (HM.out.tr HM0.out))
 go_wp2_with fail
 refine HCC.out.mono ?_
 rintro e w1x ⟨x0,rfl,one0,heq0,hm0⟩
 rename_i hK
 refine hK _ _ ?_
 clear hK
 (try simp only [Act.put,ja,jb,jc])
 obtain ⟨mq,hmq,sa,xa0,sl,sc,xc0,hsl,rfl,hqq⟩:=id (heq0.slice rfl Tryz.underlying28 zc73)
 simp only [Value.slice.injEq] at hsl
 obtain ⟨hsa,rfl,hsc⟩:=hsl
 clear hsa hsc hmq hqq mq
 have hAx:=(hm0.block _ (ltB HA0.out) (fun q=>q)).trans HA0.out
 have hZx:=(hm0.block _ (ltB HZ0.out) (fun q=>q)).trans HZ0.out
 have hMx:=HM0.out.tr hm0
 have hst:=store_slice28 (w:=w1x) (a:=xa0) (n:=l0) (c:=xc0) ((cellB hAx 0).trans (by rw [List.getElem?_toArray]; exact List.getElem?_eq_getElem (by rw [HL.out]; omega))) (frozB hAx 0)
 have hAn:=setCell_box hAx 0 (.slice xa0 l0 xc0) (by rw [HL.out]; omega)
 have hmn:Mod (fun q=>q=w.heap.size) w1x (w1x.setCell ⟨w.heap.size,0,none⟩ (.slice xa0 l0 xc0)):=(Mod.refl (fun q=>q=w.heap.size) w1x).setCell (p:=⟨w.heap.size,0,none⟩) (fun _=>rfl) _
 generalize (w1x.setCell ⟨w.heap.size,0,none⟩ (.slice xa0 l0 xc0))=w2 at hst hAn hmn
 have hZn:=(hmn.block _ (ltB hZx) (fun q=>by omega)).trans hZx
 have hMn:Mod N0 w w2:=hMx.trans hmn (fun q e hl=>by omega)
 have HQ0:=hh (EqX.keep (Q':=fun q=>w.heap.size+1<q) heq0 hmn (fun q e=>by subst e; exact ⟨HN.out,fun h=>by have:=ltB HA0.out; omega⟩) (fun q _ h=>by have:=ltB HZ0.out; first|omega|(simp only at h ⊢; omega)) (show 6<=6 by omega))
 have HA1:=hh hAn
 have HZ1:=hh hZn
 have HM1:=hh hMn
 have HPL1:=hh (show (patch cs 0 [.slice xa0 l0 xc0]).length=5 from (patch_length (by rw [show ([.slice xa0 l0 xc0]:List Value).length=1 from rfl,HL.out]; omega)).trans HL.out)
 have HXL0:=hh (show ([.slice xa0 l0 xc0]:List Value).length=1 from rfl)
 have HX10:=hh (show ∀ u∈([.slice xa0 l0 xc0]:List Value),u.oneCell'=true from fun u hu=>by simp at hu; subst hu; rfl)
 have HST:=hh hst
 clear hAx hZx hMx hAn hmn hZn hMn hst heq0 hm0 one0 HCC
 refine ex (v:=.pointer (some ⟨w.heap.size,0,none⟩)) ?_
 refine wpList_execS rfl (exec_store_pt _ _ rfl rfl rfl HST.out) ?_
 (try simp only [Act.put])
 clear HST
 go_upto_region 2 with fail
 refine wp_region_lit ?_
 refine ex (v:=.pointer (some ⟨w.heap.size,1,none⟩)) ?_
 have hsub:((patch cs 0 [.slice xa0 l0 xc0]).drop 1).take 1=(cs.drop 1).take 1:=by
  have hh:=HL.out; have hh1:=HPL1.out
  rw [patch_apart _ _ _ _ _ (by rw [HXL0.out]; omega)]
 have hc:(patch cs 0 [.slice xa0 l0 xc0])[1]?=some (.slice a1 l1 c1):=flat_cell hsub HU1.out
 have s:w2.cell? ⟨w.heap.size,1,none⟩=some (.slice a1 l1 c1):=(cellB HA1.out 1).trans (by rw [List.getElem?_toArray]; exact hc)
 refine ex (v:=.slice a1 l1 c1) ?_
 clear s hc
 clear hsub
 have HCC:=hh (copyEntries (.slice a1 l1 c1) HR1.out w2 (HM.out.tr HM1.out))
 go_wp2_with fail
 refine HCC.out.mono ?_
 rintro e w2x ⟨x1,rfl,one1,heq1,hm1⟩
 rename_i hK
 refine hK _ _ ?_
 clear hK
 (try simp only [Act.put,ja,jb,jc])
 obtain ⟨mq,hmq,sa,xa1,sl,sc,xc1,hsl,rfl,hqq⟩:=id (heq1.slice rfl Tryz.underlying28 zc73)
 simp only [Value.slice.injEq] at hsl
 obtain ⟨hsa,rfl,hsc⟩:=hsl
 clear hsa hsc hmq hqq mq
 have hAx:=(hm1.block _ (ltB HA1.out) (fun q=>q)).trans HA1.out
 have hZx:=(hm1.block _ (ltB HZ1.out) (fun q=>q)).trans HZ1.out
 have hMx:=HM1.out.tr hm1
 have hst:=store_slice28 (w:=w2x) (a:=xa1) (n:=l1) (c:=xc1) ((cellB hAx 1).trans (by rw [List.getElem?_toArray]; exact List.getElem?_eq_getElem (by rw [HPL1.out]; omega))) (frozB hAx 1)
 have hAn:=setCell_box hAx 1 (.slice xa1 l1 xc1) (by rw [HPL1.out]; omega)
 have hmn:Mod (fun q=>q=w.heap.size) w2x (w2x.setCell ⟨w.heap.size,1,none⟩ (.slice xa1 l1 xc1)):=(Mod.refl (fun q=>q=w.heap.size) w2x).setCell (p:=⟨w.heap.size,1,none⟩) (fun _=>rfl) _
 generalize (w2x.setCell ⟨w.heap.size,1,none⟩ (.slice xa1 l1 xc1))=w3 at hst hAn hmn
 have hZn:=(hmn.block _ (ltB hZx) (fun q=>by omega)).trans hZx
 have hMn:Mod N0 w w3:=hMx.trans hmn (fun q e hl=>by omega)
 have HQ0:=hh (EqX.keep (EqX.keep HQ0.out hm1 (fun q e=>e.elim) (fun q _ h=>h) (Nat.le_refl _)) hmn (fun q e=>by subst e; exact ⟨HN.out,fun h=>by first|omega|(simp only at h; omega)⟩) (fun q _ h=>h) (Nat.le_refl _))
 have HQ1:=hh (EqX.keep (Q':=fun q=>w.heap.size+1<q) heq1 hmn (fun q e=>by subst e; exact ⟨HN.out,fun h=>by have:=ltB HA1.out; omega⟩) (fun q _ h=>by have:=ltB HZ1.out; first|omega|(simp only at h ⊢; omega)) (show 6<=6 by omega))
 have HA2:=hh hAn
 have HZ2:=hh hZn
 have HM2:=hh hMn
 have HPL2:=hh (show (patch (patch cs 0 [.slice xa0 l0 xc0]) 1 [.slice xa1 l1 xc1]).length=5 from (patch_length (by rw [show ([.slice xa1 l1 xc1]:List Value).length=1 from rfl,HPL1.out]; omega)).trans HPL1.out)
 have HXL1:=hh (show ([.slice xa1 l1 xc1]:List Value).length=1 from rfl)
 have HX11:=hh (show ∀ u∈([.slice xa1 l1 xc1]:List Value),u.oneCell'=true from fun u hu=>by simp at hu; subst hu; rfl)
 have HST:=hh hst
 clear hAx hZx hMx hAn hmn hZn hMn hst heq1 hm1 one1 HCC
 refine ex (v:=.pointer (some ⟨w.heap.size,1,none⟩)) ?_
 refine wpList_execS rfl (exec_store_pt _ _ rfl rfl rfl HST.out) ?_
 (try simp only [Act.put])
 clear HST
 go_upto_region 3 with fail
 refine wp_region_lit ?_
 refine ex (v:=.pointer (some ⟨w.heap.size,4,none⟩)) ?_
 have hsub:((patch (patch cs 0 [.slice xa0 l0 xc0]) 1 [.slice xa1 l1 xc1]).drop 4).take 1=(cs.drop 4).take 1:=by
  have hh:=HL.out; have hh1:=HPL1.out; have hh2:=HPL2.out
  rw [patch_apart _ _ _ _ _ (by rw [HXL1.out]; omega)]
  rw [patch_apart _ _ _ _ _ (by rw [HXL0.out]; omega)]
 have hc:(patch (patch cs 0 [.slice xa0 l0 xc0]) 1 [.slice xa1 l1 xc1])[4]?=some (.slice a4 l4 c4):=flat_cell hsub HU4.out
 have s:w3.cell? ⟨w.heap.size,4,none⟩=some (.slice a4 l4 c4):=(cellB HA2.out 4).trans (by rw [List.getElem?_toArray]; exact hc)
 refine ex (v:=.slice a4 l4 c4) ?_
 clear s hc
 clear hsub
 have HCC:=hh (copyTotals (.slice a4 l4 c4) HR4.out w3 (HM.out.tr HM2.out))
 go_wp2_with fail
 refine HCC.out.mono ?_
 rintro e w3x ⟨x4,rfl,one4,heq4,hm4⟩
 rename_i hK
 refine hK _ _ ?_
 clear hK
 (try simp only [Act.put,ja,jb,jc])
 obtain ⟨mq,hmq,sa,xa4,sl,sc,xc4,hsl,rfl,hqq⟩:=id (heq4.slice rfl Tryz.underlying33 zc78)
 simp only [Value.slice.injEq] at hsl
 obtain ⟨hsa,rfl,hsc⟩:=hsl
 clear hsa hsc hmq hqq mq
 have hAx:=(hm4.block _ (ltB HA2.out) (fun q=>q)).trans HA2.out
 have hZx:=(hm4.block _ (ltB HZ2.out) (fun q=>q)).trans HZ2.out
 have hMx:=HM2.out.tr hm4
 have hst:=store_slice33 (w:=w3x) (a:=xa4) (n:=l4) (c:=xc4) ((cellB hAx 4).trans (by rw [List.getElem?_toArray]; exact List.getElem?_eq_getElem (by rw [HPL2.out]; omega))) (frozB hAx 4)
 have hAn:=setCell_box hAx 4 (.slice xa4 l4 xc4) (by rw [HPL2.out]; omega)
 have hmn:Mod (fun q=>q=w.heap.size) w3x (w3x.setCell ⟨w.heap.size,4,none⟩ (.slice xa4 l4 xc4)):=(Mod.refl (fun q=>q=w.heap.size) w3x).setCell (p:=⟨w.heap.size,4,none⟩) (fun _=>rfl) _
 generalize (w3x.setCell ⟨w.heap.size,4,none⟩ (.slice xa4 l4 xc4))=w4 at hst hAn hmn
 have hZn:=(hmn.block _ (ltB hZx) (fun q=>by omega)).trans hZx
 have hMn:Mod N0 w w4:=hMx.trans hmn (fun q e hl=>by omega)
 have HQ0:=hh (EqX.keep (EqX.keep HQ0.out hm4 (fun q e=>e.elim) (fun q _ h=>h) (Nat.le_refl _)) hmn (fun q e=>by subst e; exact ⟨HN.out,fun h=>by first|omega|(simp only at h; omega)⟩) (fun q _ h=>h) (Nat.le_refl _))
 have HQ1:=hh (EqX.keep (EqX.keep HQ1.out hm4 (fun q e=>e.elim) (fun q _ h=>h) (Nat.le_refl _)) hmn (fun q e=>by subst e; exact ⟨HN.out,fun h=>by first|omega|(simp only at h; omega)⟩) (fun q _ h=>h) (Nat.le_refl _))
 have HQ4:=hh (EqX.keep (Q':=fun q=>w.heap.size+1<q) heq4 hmn (fun q e=>by subst e; exact ⟨HN.out,fun h=>by have:=ltB HA2.out; omega⟩) (fun q _ h=>by have:=ltB HZ2.out; first|omega|(simp only at h ⊢; omega)) (show 2<=6 by omega))
 have HA3:=hh hAn
 have HZ3:=hh hZn
 have HM3:=hh hMn
 have HPL3:=hh (show (patch (patch (patch cs 0 [.slice xa0 l0 xc0]) 1 [.slice xa1 l1 xc1]) 4 [.slice xa4 l4 xc4]).length=5 from (patch_length (by rw [show ([.slice xa4 l4 xc4]:List Value).length=1 from rfl,HPL2.out]; omega)).trans HPL2.out)
 have HXL4:=hh (show ([.slice xa4 l4 xc4]:List Value).length=1 from rfl)
 have HX14:=hh (show ∀ u∈([.slice xa4 l4 xc4]:List Value),u.oneCell'=true from fun u hu=>by simp at hu; subst hu; rfl)
 have HST:=hh hst
 clear hAx hZx hMx hAn hmn hZn hMn hst heq4 hm4 one4 HCC
 refine ex (v:=.pointer (some ⟨w.heap.size,4,none⟩)) ?_
 refine wpList_execS rfl (exec_store_pt _ _ rfl rfl rfl HST.out) ?_
 (try simp only [Act.put])
 clear HST
 have hld:=load_box HA3.out 143 0 5 _ Tryz.underlying143 rfl zs143 (by rw [HPL3.out]; omega)
 rw [List.drop_zero,List.take_of_length_le (by rw [HPL3.out]; omega)] at hld
 have hon:∀ u∈(patch (patch (patch cs 0 [.slice xa0 l0 xc0]) 1 [.slice xa1 l1 xc1]) 4 [.slice xa4 l4 xc4]),u.oneCell'=true:=(patch_ones (patch_ones (patch_ones HON.out HX10.out) HX11.out) HX14.out)
 have hst:=run_storeVar_row (P:=Tryz.prog) w4 (w.heap.size+1) 143 143 z (patch (patch (patch cs 0 [.slice xa0 l0 xc0]) 1 [.slice xa1 l1 xc1]) 4 [.slice xa4 l4 xc4]).toArray HZ3.out (by rw [zs143]; simp [HPL3.out]) (by rw [HZV.out.2]; simp [HPL3.out]) (by rw [List.all_toArray,List.all_eq_true]; exact hon)
 have hR:=setRow_same (cs:=(patch (patch (patch cs 0 [.slice xa0 l0 xc0]) 1 [.slice xa1 l1 xc1]) 4 [.slice xa4 l4 xc4]).toArray) HZ3.out
 have hmr:Mod (fun q=>q=w.heap.size+1) w4 (w4.setRow (w.heap.size+1) (patch (patch (patch cs 0 [.slice xa0 l0 xc0]) 1 [.slice xa1 l1 xc1]) 4 [.slice xa4 l4 xc4]).toArray):=Mod_setRow (Mod.refl (fun q=>q=w.heap.size+1) w4) (fun _=>rfl) _
 generalize w4.setRow (w.heap.size+1) (patch (patch (patch cs 0 [.slice xa0 l0 xc0]) 1 [.slice xa1 l1 xc1]) 4 [.slice xa4 l4 xc4]).toArray=wf at hst hR hmr
 have hmf:Mod N0 w wf:=HM3.out.trans hmr (fun q e hl=>by omega)
 have HQ0:=hh (EqX.keep (Q':=fun q=>w.heap.size<=q) HQ0.out hmr (fun q e=>by subst e; exact ⟨by have:=HN.out; omega,fun h=>by first|omega|(simp only at h; omega)⟩) (fun q _ h=>by first|omega|(simp only at h ⊢; omega)) (Nat.le_refl _))
 have HQ1:=hh (EqX.keep (Q':=fun q=>w.heap.size<=q) HQ1.out hmr (fun q e=>by subst e; exact ⟨by have:=HN.out; omega,fun h=>by first|omega|(simp only at h; omega)⟩) (fun q _ h=>by first|omega|(simp only at h ⊢; omega)) (Nat.le_refl _))
 have HQ4:=hh (EqX.keep (Q':=fun q=>w.heap.size<=q) HQ4.out hmr (fun q e=>by subst e; exact ⟨by have:=HN.out; omega,fun h=>by first|omega|(simp only at h; omega)⟩) (fun q _ h=>by first|omega|(simp only at h ⊢; omega)) (Nat.le_refl _))
 have hret:=load_box hR 143 0 5 _ Tryz.underlying143 rfl zs143 (by rw [HPL3.out]; omega)
 rw [List.drop_zero,List.take_of_length_le (by rw [HPL3.out]; omega)] at hret
 have HF:=hh (And.intro hst (And.intro hret (And.intro hmf (And.intro hon hld))))
 clear hst hR hmr hmf hon hld hret
 go_upto_region 4 with fail
 refine wp_region_lit ?_
 refine wx (exec_load_pt _ _ 143 _ rfl ⟨w.heap.size,0,none⟩ rfl HF.out.2.2.2.2) ?_
 refine wpList_execS rfl (exec_store_pt _ _ rfl rfl rfl HF.out.1) ?_
 (try simp only [Act.put])
 go_wp2_with fail
 refine bodyPost_ret (v:=.agg (patch (patch (patch cs 0 [.slice xa0 l0 xc0]) 1 [.slice xa1 l1 xc1]) 4 [.slice xa4 l4 xc4]).toArray) (resC105 rfl HF.out.2.1) rfl ⟨(patch (patch (patch cs 0 [.slice xa0 l0 xc0]) 1 [.slice xa1 l1 xc1]) 4 [.slice xa4 l4 xc4]),rfl,HF.out.2.2.2.1,?_,HF.out.2.2.1⟩
 refine Eqv.structI (n:=6) rfl Tryz.underlying143 (by rw [zc143]; exact HL.out) (by rw [zc143]; exact HPL3.out) (fun i f hf=>?_)
 match i,hf with
|0,hf=>
  have e:((patch (patch (patch cs 0 [.slice xa0 l0 xc0]) 1 [.slice xa1 l1 xc1]) 4 [.slice xa4 l4 xc4]).drop 0).take 1=[.slice xa0 l0 xc0]:=by
   have hh:=HL.out; have hh1:=HPL1.out; have hh2:=HPL2.out; have hh3:=HPL3.out
   rw [patch_apart _ _ _ _ _ (by rw [HXL4.out]; omega)]
   rw [patch_apart _ _ _ _ _ (by rw [HXL1.out]; omega)]
   exact patch_same' HXL0.out _ _ (by have:=HL.out; omega)
  exact eqx_put hf 28 0 1 rfl rfl zc28 (by rw [e,take_one HU0.out]; exact HQ0.out)
|1,hf=>
  have e:((patch (patch (patch cs 0 [.slice xa0 l0 xc0]) 1 [.slice xa1 l1 xc1]) 4 [.slice xa4 l4 xc4]).drop 1).take 1=[.slice xa1 l1 xc1]:=by
   have hh:=HL.out; have hh1:=HPL1.out; have hh2:=HPL2.out; have hh3:=HPL3.out
   rw [patch_apart _ _ _ _ _ (by rw [HXL4.out]; omega)]
   exact patch_same' HXL1.out _ _ (by have:=HL.out; have:=HPL1.out; omega)
  exact eqx_put hf 28 1 1 rfl rfl zc28 (by rw [e,take_one HU1.out]; exact HQ1.out)
|2,hf=>
  have e:((patch (patch (patch cs 0 [.slice xa0 l0 xc0]) 1 [.slice xa1 l1 xc1]) 4 [.slice xa4 l4 xc4]).drop 2).take 1=(cs.drop 2).take 1:=by
   have hh:=HL.out; have hh1:=HPL1.out; have hh2:=HPL2.out; have hh3:=HPL3.out
   rw [patch_apart _ _ _ _ _ (by rw [HXL4.out]; omega)]
   rw [patch_apart _ _ _ _ _ (by rw [HXL1.out]; omega)]
   rw [patch_apart _ _ _ _ _ (by rw [HXL0.out]; omega)]
  exact eqx_put hf 2 2 1 rfl rfl zc2 (by rw [e]; exact Eqv.flatI 5 rfl)
|3,hf=>
  have e:((patch (patch (patch cs 0 [.slice xa0 l0 xc0]) 1 [.slice xa1 l1 xc1]) 4 [.slice xa4 l4 xc4]).drop 3).take 1=(cs.drop 3).take 1:=by
   have hh:=HL.out; have hh1:=HPL1.out; have hh2:=HPL2.out; have hh3:=HPL3.out
   rw [patch_apart _ _ _ _ _ (by rw [HXL4.out]; omega)]
   rw [patch_apart _ _ _ _ _ (by rw [HXL1.out]; omega)]
   rw [patch_apart _ _ _ _ _ (by rw [HXL0.out]; omega)]
  exact eqx_put hf 2 3 1 rfl rfl zc2 (by rw [e]; exact Eqv.flatI 5 rfl)
|4,hf=>
  have e:((patch (patch (patch cs 0 [.slice xa0 l0 xc0]) 1 [.slice xa1 l1 xc1]) 4 [.slice xa4 l4 xc4]).drop 4).take 1=[.slice xa4 l4 xc4]:=by
   exact patch_same' HXL4.out _ _ (by have:=HL.out; have:=HPL2.out; omega)
  exact eqx_put hf 33 4 1 rfl rfl zc33 (by rw [e,take_one HU4.out]; exact HQ4.out)
|i+5,hf=>simp at hf
set_option maxRecDepth 100000 in
set_option maxHeartbeats 1000000 in
theorem copyStored {w0:World} (cs:List Value) (hr:Rd w0 145 cs) (w:World) (hm:Mod N0 w0 w):Calls Tryz.prog 53 #[.agg cs.toArray] w fun e w'=>CpR w0 11 145 w cs e w':=by
 have hl:=hr.len Tryz.underlying145
 rw [zc145] at hl
 have HR1:=hh (hr.fieldAt Tryz.underlying145 1 rfl 140 32 68 rfl rfl zc140)
 have HR3:=hh (hr.fieldAt Tryz.underlying145 3 rfl 143 101 5 rfl rfl zc143)
 obtain ⟨z,hzv,_,hzs⟩:=zi145
 have hA0:((w.alloc (.cells cs.toArray 145)).alloc (.cells z 145)).heap[w.heap.size]?=some (.cells cs.toArray 145 (0,0)):=allocB (newB w _) _
 have hZ0:((w.alloc (.cells cs.toArray 145)).alloc (.cells z 145)).heap[w.heap.size+1]?=some (.cells z 145 (0,0)):=by
  have:=newB (w.alloc (.cells cs.toArray 145)) (.cells z 145); rwa [World.size_alloc] at this
 have hM0:Mod N0 w ((w.alloc (.cells cs.toArray 145)).alloc (.cells z 145)):=((Mod.refl _ w).alloc _).alloc _
 have HZV:=hh (And.intro hzv hzs)
 have HL:=hh hl
 have HM:=hh hm
 have HON:=hh (ones145 hr)
 have HN:=hh hm.size
 clear hzv hzs hl hm hr
 go_enter Tryz.func53,Tryz.ntmps53
 go_upto_region 0 with fail
 refine wp_region_lit ?_
 refine ww (exec_box _ _ 145 cs rfl rfl) ?_
 refine ww (exec_alloc _ _ 145 z rfl HZV.out.1) ?_
 rw [World.size_alloc]
 generalize (w.alloc (.cells cs.toArray 145)).alloc (.cells z 145)=w1 at hA0 hZ0 hM0 ⊢
 have HA0:=hh hA0
 have HZ0:=hh hZ0
 have HM0:=hh hM0
 clear hA0 hZ0 hM0
 go_upto_region 1 with fail
 refine wp_region_lit ?_
 refine ex (v:=.pointer (some ⟨w.heap.size,32,none⟩)) ?_
 have hsub:(cs.drop 32).take 68=(cs.drop 32).take 68:=by
  rfl
 have hld:=load_box HA0.out 140 32 68 _ Tryz.underlying140 rfl zs140 (by have:=HL.out; omega)
 rw [hsub] at hld
 refine wx (exec_load_pt _ _ 140 _ rfl ⟨w.heap.size,32,none⟩ rfl hld) ?_
 clear hld
 clear hsub
 have HCC:=hh (copyBlock ((cs.drop 32).take 68) HR1.out w1 (HM.out.tr HM0.out))
 go_wp2_with fail
 refine HCC.out.mono ?_
 rintro e w1x ⟨x1,rfl,one1,heq1,hm1⟩
 rename_i hK
 refine hK _ _ ?_
 clear hK
 (try simp only [Act.put,ja,jb,jc])
 have hxl:x1.length=68:=by
  obtain ⟨_,_,_,h,_⟩:=heq1.struct rfl Tryz.underlying140
  rw [h,zc140]
 have hAx:=(hm1.block _ (ltB HA0.out) (fun q=>q)).trans HA0.out
 have hZx:=(hm1.block _ (ltB HZ0.out) (fun q=>q)).trans HZ0.out
 have hMx:=HM0.out.tr hm1
 have hst:=run_storeVar_mid (P:=Tryz.prog) w1x w.heap.size 32 140 x1.toArray (there_box hAx (by simp only [List.size_toArray]; rw [hxl,HL.out]; omega)) (by rw [zs140]; simp [hxl]) (by rw [List.all_toArray,List.all_eq_true]; exact one1)
 have hAn:=setCells_box x1 w1x cs 32 hAx (by rw [hxl,HL.out]; omega)
 have hmn:=setCells_mod w1x w.heap.size x1 32
 have hst:(storeVar 140 ⟨w.heap.size,32,none⟩ (.agg x1.toArray)).run Tryz.prog w1x=.ok () (w1x.setCells w.heap.size 32 x1):=by simpa using hst
 generalize (w1x.setCells w.heap.size 32 x1)=w2 at hst hAn hmn
 have hZn:=(hmn.block _ (ltB hZx) (fun q=>by omega)).trans hZx
 have hMn:Mod N0 w w2:=hMx.trans hmn (fun q e hl=>by omega)
 have HQ1:=hh (EqX.keep (Q':=fun q=>w.heap.size+1<q) heq1 hmn (fun q e=>by subst e; exact ⟨HN.out,fun h=>by have:=ltB HA0.out; omega⟩) (fun q _ h=>by have:=ltB HZ0.out; first|omega|(simp only at h ⊢; omega)) (show 10<=10 by omega))
 have HA1:=hh hAn
 have HZ1:=hh hZn
 have HM1:=hh hMn
 have HPL1:=hh (show (patch cs 32 x1).length=106 from (patch_length (by rw [hxl,HL.out]; omega)).trans HL.out)
 have HXL1:=hh (show (x1:List Value).length=68 from hxl)
 have HX11:=hh (show ∀ u∈(x1:List Value),u.oneCell'=true from one1)
 have HST:=hh hst
 clear hAx hZx hMx hAn hmn hZn hMn hst heq1 hm1 one1 HCC hxl
 refine ex (v:=.pointer (some ⟨w.heap.size,32,none⟩)) ?_
 refine wpList_execS rfl (exec_store_pt _ _ rfl rfl rfl HST.out) ?_
 (try simp only [Act.put])
 clear HST
 go_upto_region 2 with fail
 refine wp_region_lit ?_
 refine ex (v:=.pointer (some ⟨w.heap.size,101,none⟩)) ?_
 have hsub:((patch cs 32 x1).drop 101).take 5=(cs.drop 101).take 5:=by
  have hh:=HL.out; have hh1:=HPL1.out
  rw [patch_apart _ _ _ _ _ (by rw [HXL1.out]; omega)]
 have hld:=load_box HA1.out 143 101 5 _ Tryz.underlying143 rfl zs143 (by have:=HL.out; have:=HPL1.out; omega)
 rw [hsub] at hld
 refine wx (exec_load_pt _ _ 143 _ rfl ⟨w.heap.size,101,none⟩ rfl hld) ?_
 clear hld
 clear hsub
 have HCC:=hh (copyDiff ((cs.drop 101).take 5) HR3.out w2 (HM.out.tr HM1.out))
 go_wp2_with fail
 refine HCC.out.mono ?_
 rintro e w2x ⟨x3,rfl,one3,heq3,hm3⟩
 rename_i hK
 refine hK _ _ ?_
 clear hK
 (try simp only [Act.put,ja,jb,jc])
 have hxl:x3.length=5:=by
  obtain ⟨_,_,_,h,_⟩:=heq3.struct rfl Tryz.underlying143
  rw [h,zc143]
 have hAx:=(hm3.block _ (ltB HA1.out) (fun q=>q)).trans HA1.out
 have hZx:=(hm3.block _ (ltB HZ1.out) (fun q=>q)).trans HZ1.out
 have hMx:=HM1.out.tr hm3
 have hst:=run_storeVar_mid (P:=Tryz.prog) w2x w.heap.size 101 143 x3.toArray (there_box hAx (by simp only [List.size_toArray]; rw [hxl,HPL1.out]; omega)) (by rw [zs143]; simp [hxl]) (by rw [List.all_toArray,List.all_eq_true]; exact one3)
 have hAn:=setCells_box x3 w2x (patch cs 32 x1) 101 hAx (by rw [hxl,HPL1.out]; omega)
 have hmn:=setCells_mod w2x w.heap.size x3 101
 have hst:(storeVar 143 ⟨w.heap.size,101,none⟩ (.agg x3.toArray)).run Tryz.prog w2x=.ok () (w2x.setCells w.heap.size 101 x3):=by simpa using hst
 generalize (w2x.setCells w.heap.size 101 x3)=w3 at hst hAn hmn
 have hZn:=(hmn.block _ (ltB hZx) (fun q=>by omega)).trans hZx
 have hMn:Mod N0 w w3:=hMx.trans hmn (fun q e hl=>by omega)
 have HQ1:=hh (EqX.keep (EqX.keep HQ1.out hm3 (fun q e=>e.elim) (fun q _ h=>h) (Nat.le_refl _)) hmn (fun q e=>by subst e; exact ⟨HN.out,fun h=>by first|omega|(simp only at h; omega)⟩) (fun q _ h=>h) (Nat.le_refl _))
 have HQ3:=hh (EqX.keep (Q':=fun q=>w.heap.size+1<q) heq3 hmn (fun q e=>by subst e; exact ⟨HN.out,fun h=>by have:=ltB HA1.out; omega⟩) (fun q _ h=>by have:=ltB HZ1.out; first|omega|(simp only at h ⊢; omega)) (show 7<=10 by omega))
 have HA2:=hh hAn
 have HZ2:=hh hZn
 have HM2:=hh hMn
 have HPL2:=hh (show (patch (patch cs 32 x1) 101 x3).length=106 from (patch_length (by rw [hxl,HPL1.out]; omega)).trans HPL1.out)
 have HXL3:=hh (show (x3:List Value).length=5 from hxl)
 have HX13:=hh (show ∀ u∈(x3:List Value),u.oneCell'=true from one3)
 have HST:=hh hst
 clear hAx hZx hMx hAn hmn hZn hMn hst heq3 hm3 one3 HCC hxl
 refine ex (v:=.pointer (some ⟨w.heap.size,101,none⟩)) ?_
 refine wpList_execS rfl (exec_store_pt _ _ rfl rfl rfl HST.out) ?_
 (try simp only [Act.put])
 clear HST
 have hld:=load_box HA2.out 145 0 106 _ Tryz.underlying145 rfl zs145 (by rw [HPL2.out]; omega)
 rw [List.drop_zero,List.take_of_length_le (by rw [HPL2.out]; omega)] at hld
 have hon:∀ u∈(patch (patch cs 32 x1) 101 x3),u.oneCell'=true:=(patch_ones (patch_ones HON.out HX11.out) HX13.out)
 have hst:=run_storeVar_row (P:=Tryz.prog) w3 (w.heap.size+1) 145 145 z (patch (patch cs 32 x1) 101 x3).toArray HZ2.out (by rw [zs145]; simp [HPL2.out]) (by rw [HZV.out.2]; simp [HPL2.out]) (by rw [List.all_toArray,List.all_eq_true]; exact hon)
 have hR:=setRow_same (cs:=(patch (patch cs 32 x1) 101 x3).toArray) HZ2.out
 have hmr:Mod (fun q=>q=w.heap.size+1) w3 (w3.setRow (w.heap.size+1) (patch (patch cs 32 x1) 101 x3).toArray):=Mod_setRow (Mod.refl (fun q=>q=w.heap.size+1) w3) (fun _=>rfl) _
 generalize w3.setRow (w.heap.size+1) (patch (patch cs 32 x1) 101 x3).toArray=wf at hst hR hmr
 have hmf:Mod N0 w wf:=HM2.out.trans hmr (fun q e hl=>by omega)
 have HQ1:=hh (EqX.keep (Q':=fun q=>w.heap.size<=q) HQ1.out hmr (fun q e=>by subst e; exact ⟨by have:=HN.out; omega,fun h=>by first|omega|(simp only at h; omega)⟩) (fun q _ h=>by first|omega|(simp only at h ⊢; omega)) (Nat.le_refl _))
 have HQ3:=hh (EqX.keep (Q':=fun q=>w.heap.size<=q) HQ3.out hmr (fun q e=>by subst e; exact ⟨by have:=HN.out; omega,fun h=>by first|omega|(simp only at h; omega)⟩) (fun q _ h=>by first|omega|(simp only at h ⊢; omega)) (Nat.le_refl _))
 have hret:=load_box hR 145 0 106 _ Tryz.underlying145 rfl zs145 (by rw [HPL2.out]; omega)
 rw [List.drop_zero,List.take_of_length_le (by rw [HPL2.out]; omega)] at hret
 have HF:=hh (And.intro hst (And.intro hret (And.intro hmf (And.intro hon hld))))
 clear hst hR hmr hmf hon hld hret
 go_upto_region 3 with fail
 refine wp_region_lit ?_
 refine wx (exec_load_pt _ _ 145 _ rfl ⟨w.heap.size,0,none⟩ rfl HF.out.2.2.2.2) ?_
 refine wpList_execS rfl (exec_store_pt _ _ rfl rfl rfl HF.out.1) ?_
 (try simp only [Act.put])
 go_wp2_with fail
 refine bodyPost_ret (v:=.agg (patch (patch cs 32 x1) 101 x3).toArray) (resC53 rfl HF.out.2.1) rfl ⟨(patch (patch cs 32 x1) 101 x3),rfl,HF.out.2.2.2.1,?_,HF.out.2.2.1⟩
 refine Eqv.structI (n:=10) rfl Tryz.underlying145 (by rw [zc145]; exact HL.out) (by rw [zc145]; exact HPL2.out) (fun i f hf=>?_)
 match i,hf with
|0,hf=>
  have e:((patch (patch cs 32 x1) 101 x3).drop 0).take 32=(cs.drop 0).take 32:=by
   have hh:=HL.out; have hh1:=HPL1.out; have hh2:=HPL2.out
   rw [patch_apart _ _ _ _ _ (by rw [HXL3.out]; omega)]
   rw [patch_apart _ _ _ _ _ (by rw [HXL1.out]; omega)]
  exact eqx_put hf 27 0 32 rfl rfl zc27 (by rw [e]; exact Eqv.flatI 9 rfl)
|1,hf=>
  have e:((patch (patch cs 32 x1) 101 x3).drop 32).take 68=x1:=by
   have hh:=HL.out; have hh1:=HPL1.out; have hh2:=HPL2.out
   rw [patch_apart _ _ _ _ _ (by rw [HXL3.out]; omega)]
   exact patch_same' HXL1.out _ _ (by have:=HL.out; omega)
  exact eqx_put hf 140 32 68 rfl rfl zc140 (by rw [e]; exact HQ1.out)
|2,hf=>
  have e:((patch (patch cs 32 x1) 101 x3).drop 100).take 1=(cs.drop 100).take 1:=by
   have hh:=HL.out; have hh1:=HPL1.out; have hh2:=HPL2.out
   rw [patch_apart _ _ _ _ _ (by rw [HXL3.out]; omega)]
   rw [patch_apart _ _ _ _ _ (by rw [HXL1.out]; omega)]
  exact eqx_put hf 141 100 1 rfl rfl zc141 (by rw [e]; exact Eqv.flatI 9 rfl)
|3,hf=>
  have e:((patch (patch cs 32 x1) 101 x3).drop 101).take 5=x3:=by
   exact patch_same' HXL3.out _ _ (by have:=HL.out; have:=HPL1.out; omega)
  exact eqx_put hf 143 101 5 rfl rfl zc143 (by rw [e]; exact HQ3.out)
|i+4,hf=>simp at hf
set_option maxRecDepth 100000 in
set_option maxHeartbeats 1000000 in
theorem copyStoredRows {w0:World} (v:Value) (hr:Rd w0 29 [v]) (w:World) (hm:Mod N0 w0 w):Calls Tryz.prog 26 #[v] w fun e w'=>CpS w0 12 29 w v e w':=by
 obtain ⟨a,len,cap,rfl,hb,_,hel⟩:=hr.slice Tryz.underlying29 zc145 (by omega)
 rw [zbo145] at hb
 obtain ⟨z,hzv,hinf,hzs⟩:=zi145
 have HE:=hh hel
 have HM:=hh hm
 have HZ:=hh (And.intro hzv (And.intro hinf hzs))
 have hb2:len * 240<=140737488351232:=hb
 clear hel hm hzv hinf hzs hr hb
 go_enter Tryz.func26,Tryz.ntmps26
 go_wp2_with fail
 go_loopw [3,4] (fun v3 i wr=>∃ (k:Nat) (v':Value) (rows:List (List Value)),k<=len/\v'=v3/\i=.int .i64 k/\rows.length=k/\CL w0 w 11 145 106 a v' rows wr) (fun _ i _=>len - (intOf i).toNat)
 case atStart=>exact ⟨0,_,[],by omega,rfl,rfl,rfl,CL.nil HM.out⟩
 case round=>
  obtain ⟨k,v3,rows,hk,rfl,rfl,hrl,hcl⟩:=hrel
  have HCL:=hh hcl
  have HRL:=hh hrl
  clear hcl hrl
  by_cases hlt:k<len
  ·obtain ⟨L,off,ds,rfl,hL,hl,hrd,hc⟩:=HE.out k hlt
   have hld:(loadVar 145 ⟨L,off+k * 106,none⟩).run Tryz.prog wr=.ok (.agg ds.toArray) wr:=by
    have:=load_mid (w:=wr) (p:=off+k * 106) (fun j u hu=>((HM.out.tr HCL.out.mod).cell (p:=⟨L,_,none⟩) hL (fun q=>q)).trans (hc j u hu)) 145 0 106 _ Tryz.underlying145 rfl zs145 (by omega)
    rw [List.drop_zero,List.take_of_length_le (by omega),Nat.add_zero] at this
    exact this
   have HLD:=hh hld
   have HCC:=hh (copyStored ds hrd wr (HM.out.tr HCL.out.mod))
   have HS:=hh (And.intro hL (And.intro hl (And.intro hrd hc)))
   clear hld hL hl hrd hc
   go_wp2_with (refine wpList_exec rfl (exec_load_pt _ _ 145 _ rfl ⟨L,off+k * 106,none⟩ rfl HLD.out) ?_)
   refine HCC.out.mono ?_
   rintro e w2 ⟨cs',rfl,one,heq,hm2⟩
   rename_i hK
   refine hK _ _ ?_
   clear hK
   (try simp only [Act.put,ja,jb,jc])
   have hcl':cs'.length=106:=by
    obtain ⟨_,_,_,h,_⟩:=heq.struct rfl Tryz.underlying145
    rw [h,zc145]
   have hst:=run_storeVar_row (P:=Tryz.prog) (w2.alloc (.cells z 145)) w2.heap.size 145 145 z cs'.toArray (newB w2 _) (by rw [zs145]; simp [hcl']) (by rw [HZ.out.2.2]; simp [hcl']) (by rw [List.all_toArray,List.all_eq_true]; exact one)
   have hR:=setRow_same (cs:=cs'.toArray) (newB w2 (.cells z 145))
   have hmr:Mod N0 w2 ((w2.alloc (.cells z 145)).setRow w2.heap.size cs'.toArray):=Mod_setRow ((Mod.refl _ w2).alloc (.cells z 145)) (b:=w2.heap.size) (fun q=>by omega) _
   generalize (w2.alloc (.cells z 145)).setRow w2.heap.size cs'.toArray=w3 at hst hR hmr
   have hld3:=load_box hR 145 0 106 _ Tryz.underlying145 rfl zs145 (by omega)
   rw [List.drop_zero,List.take_of_length_le (by omega)] at hld3
   have HST:=hh (And.intro hst hld3)
   have HQ:=hh (And.intro heq (And.intro one (And.intro hcl' (And.intro hm2 hmr))))
   clear hst hR hmr hld3 heq one hcl' hm2
   refine ww (exec_alloc _ _ 145 z rfl HZ.out.1) ?_
   refine wpList_execS rfl (exec_store_pt _ _ rfl rfl rfl HST.out.1) ?_
   (try simp only [Act.put])
   go_upto_region 6 with fail
   refine wp_region_lit ?_
   refine ex (v:=v3) ?_
   refine wx (exec_load_pt _ _ 145 _ rfl ⟨w2.heap.size,0,none⟩ rfl HST.out.2) ?_
   obtain ⟨i,hi,hz0,hz1,hz2⟩:=info_parts HZ.out.2.1
   have hsl:∀ (act:Act) (o:Oper) (x:Operand),o.op=.buildSlice 29 1 #[(0,x)]->act.eval x=.agg cs'.toArray->(execOp act.eval o).run Tryz.prog w3=.ok (.value (.slice (some ⟨w3.heap.size,0,none⟩) 1 1)) (w3.alloc (.cells cs'.toArray 145)):=by
    intro act o x ho hx
    have:=exec_slicesL act o (w:=w3) [(0,x)] ho [.agg cs'.toArray] (by simp [hx]) (E:=145) (s:=106) Tryz.underlying29 hi hz0 hz1 (by omega) rfl (by omega) (by omega) (by intro y hy; simp at hy; subst hy; simpa [Value.cells] using HQ.out.2.2.1)
    simpa [Value.cells] using this
   refine ww (hsl _ _ _ rfl rfl) ?_
   clear hsl
   have hN:=row_cells (newB w3 (.cells cs'.toArray 145))
   have hmA:Mod N0 wr (w3.alloc (.cells cs'.toArray 145)):=((HQ.out.2.2.2.1.tr HQ.out.2.2.2.2)).alloc _
   have hqA:=EqX.keep (Q':=fun q=>wr.heap.size<=q) HQ.out.1 (HQ.out.2.2.2.2.alloc (.cells cs'.toArray 145)) (fun q e=>e.elim) (fun q _ h=>h) (Nat.le_refl _)
   generalize w3.alloc (.cells cs'.toArray 145)=w4 at hN hmA hqA ⊢
   generalize w3.heap.size=g3 at hN ⊢
   have HN:=hh hN
   have HA:=hh (And.intro hmA hqA)
   have HO:=hh (ownsRow_block HCL.out.own (fun q hq=>hmA.block q (ownsRow_lt HCL.out.own hq) (fun e=>e)))
   clear hN hmA hqA
   refine wpList_append_at _ rfl _ _ 29 rfl 145 i _ 106 240 Tryz.underlying29 hi hz0 hz1 hz2 (by simpa [Value.cells] using HZ.out.2.2) (by decide) v3 rows.length rows.flatten rfl HO.out ⟨g3,0,none⟩ 1 1 cs' rfl (by rw [HQ.out.2.2.1]) HN.out HQ.out.2.1 (by have:=HRL.out; simp only [maxLen]; omega) (by have:=HRL.out; omega) ?_
   intro v6 w6 ho6 hg6 hat6
   have HF:=hh (HCL.out.more (k:=k) HRL.out rfl HS.out.1 HS.out.2.1 HS.out.2.2.1 HS.out.2.2.2 HA.out.1 HQ.out.2.2.1 HA.out.2 ho6 hg6 hat6)
   clear ho6 hg6 hat6 hi hz0 hz1 hz2
   (try simp only [Act.put,ja,jb,jc])
   go_wp2_with fail
   go_roundw
   case rel=>exact ⟨k+1,_,_,by omega,rfl,by simp,by rw [List.length_append,HRL.out]; rfl,HF.out⟩
   case measure=>simp [intOf]; omega
  ·have e:k=len:=by omega
   subst e
   have HF:=hh (HCL.out.fin (t:=29) (cap:=cap) rfl Tryz.underlying29 zc145 (by omega) HM.out)
   rw [HRL.out] at HF
   go_wp2_with fail
   go_ret
   exact ⟨_,rfl,HF.out.1,HF.out.2,HCL.out.mod⟩
end Go.Proofs.YtckcamlicgdklaaGreat
