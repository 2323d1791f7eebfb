/- Copies of entries, programs, redeemers, signatures. -/
import Derived.Test.YtckcamlicgdklaaGreatN26
namespace Go.Proofs.YtckcamlicgdklaaGreat
open Go.RowKit Go.Mo
theorem resC191 {tmps:Array Value} {b:Nat} {W:World} {v:Value} (ht:tmps[2]?.getD undef=.pointer (some ⟨b,0,none⟩)) (hl:(loadVar 260 ⟨b,0,none⟩).run Tryz.prog W=.ok v W):(results Tryz.f191 tmps).run Tryz.prog W=.ok v W:=by
 simp [results,Tryz.results191,ht,hl,asAddr]
set_option maxRecDepth 100000 in
set_option maxHeartbeats 1000000 in
theorem copyEntry {w0:World} (cs:List Value) (hr:Rd w0 73 cs) (w:World) (hm:Mod N0 w0 w):Calls Tryz.prog 52 #[.agg cs.toArray] w fun e w'=>CpR w0 5 73 w cs e w':=by
 have hl:=hr.len Tryz.underlying73
 rw [zc73] at hl
 have HR1:=hh (hr.fieldAt Tryz.underlying73 1 rfl 71 33 69 rfl rfl zc71)
 obtain ⟨z,hzv,_,hzs⟩:=zi73
 have hA0:((w.alloc (.cells cs.toArray 73)).alloc (.cells z 73)).heap[w.heap.size]?=some (.cells cs.toArray 73 (0,0)):=allocB (newB w _) _
 have hZ0:((w.alloc (.cells cs.toArray 73)).alloc (.cells z 73)).heap[w.heap.size+1]?=some (.cells z 73 (0,0)):=by
  have:=newB (w.alloc (.cells cs.toArray 73)) (.cells z 73); rwa [World.size_alloc] at this
 have hM0:Mod N0 w ((w.alloc (.cells cs.toArray 73)).alloc (.cells z 73)):=((Mod.refl _ w).alloc _).alloc _
 have HZV:=hh (And.intro hzv hzs)
 have HL:=hh hl
 have HM:=hh hm
 have HON:=hh (ones73 hr)
 have HN:=hh hm.size
 clear hzv hzs hl hm hr
 go_enter Tryz.func52,Tryz.ntmps52
 go_upto_region 0 with fail
 refine wp_region_lit ?_
 refine ww (exec_box _ _ 73 cs rfl rfl) ?_
 refine ww (exec_alloc _ _ 73 z rfl HZV.out.1) ?_
 rw [World.size_alloc]
 generalize (w.alloc (.cells cs.toArray 73)).alloc (.cells z 73)=w1 at hA0 hZ0 hM0 ⊢
 have HA0:=hh hA0
 have HZ0:=hh hZ0
 have HM0:=hh hM0
 clear hA0 hZ0 hM0
 go_upto_region 1 with fail
 refine wp_region_lit ?_
 refine ex (v:=.pointer (some ⟨w.heap.size,33,none⟩)) ?_
 have hsub:(cs.drop 33).take 69=(cs.drop 33).take 69:=by
  rfl
 have hld:=load_box HA0.out 71 33 69 _ Tryz.underlying71 rfl zs71 (by have:=HL.out; omega)
 rw [hsub] at hld
 refine wx (exec_load_pt _ _ 71 _ rfl ⟨w.heap.size,33,none⟩ rfl hld) ?_
 clear hld
 clear hsub
 have HCC:=hh (copyOutput ((cs.drop 33).take 69) HR1.out w1 (HM.out.tr HM0.out))
 go_wp2_with fail
 refine HCC.out.mono ?_
 rintro e w1x ⟨x1,rfl,one1,heq1,hm1⟩
 rename_i hK
 refine hK _ _ ?_
 clear hK
 (try simp only [Act.put,ja,jb,jc])
 have hxl:x1.length=69:=by
  obtain ⟨_,_,_,h,_⟩:=heq1.struct rfl Tryz.underlying71
  rw [h,zc71]
 have hAx:=(hm1.block _ (ltB HA0.out) (fun q=>q)).trans HA0.out
 have hZx:=(hm1.block _ (ltB HZ0.out) (fun q=>q)).trans HZ0.out
 have hMx:=HM0.out.tr hm1
 have hst:=run_storeVar_mid (P:=Tryz.prog) w1x w.heap.size 33 71 x1.toArray (there_box hAx (by simp only [List.size_toArray]; rw [hxl,HL.out]; omega)) (by rw [zs71]; simp [hxl]) (by rw [List.all_toArray,List.all_eq_true]; exact one1)
 have hAn:=setCells_box x1 w1x cs 33 hAx (by rw [hxl,HL.out]; omega)
 have hmn:=setCells_mod w1x w.heap.size x1 33
 have hst:(storeVar 71 ⟨w.heap.size,33,none⟩ (.agg x1.toArray)).run Tryz.prog w1x=.ok () (w1x.setCells w.heap.size 33 x1):=by simpa using hst
 generalize (w1x.setCells w.heap.size 33 x1)=w2 at hst hAn hmn
 have hZn:=(hmn.block _ (ltB hZx) (fun q=>by omega)).trans hZx
 have hMn:Mod N0 w w2:=hMx.trans hmn (fun q e hl=>by omega)
 have HQ1:=hh (EqX.keep (Q':=fun q=>w.heap.size+1<q) heq1 hmn (fun q e=>by subst e; exact ⟨HN.out,fun h=>by have:=ltB HA0.out; omega⟩) (fun q _ h=>by have:=ltB HZ0.out; first|omega|(simp only at h ⊢; omega)) (show 4<=4 by omega))
 have HA1:=hh hAn
 have HZ1:=hh hZn
 have HM1:=hh hMn
 have HPL1:=hh (show (patch cs 33 x1).length=102 from (patch_length (by rw [hxl,HL.out]; omega)).trans HL.out)
 have HXL1:=hh (show (x1:List Value).length=69 from hxl)
 have HX11:=hh (show ∀ u∈(x1:List Value),u.oneCell'=true from one1)
 have HST:=hh hst
 clear hAx hZx hMx hAn hmn hZn hMn hst heq1 hm1 one1 HCC hxl
 refine ex (v:=.pointer (some ⟨w.heap.size,33,none⟩)) ?_
 refine wpList_execS rfl (exec_store_pt _ _ rfl rfl rfl HST.out) ?_
 (try simp only [Act.put])
 clear HST
 have hld:=load_box HA1.out 73 0 102 _ Tryz.underlying73 rfl zs73 (by rw [HPL1.out]; omega)
 rw [List.drop_zero,List.take_of_length_le (by rw [HPL1.out]; omega)] at hld
 have hon:∀ u∈(patch cs 33 x1),u.oneCell'=true:=(patch_ones HON.out HX11.out)
 have hst:=run_storeVar_row (P:=Tryz.prog) w2 (w.heap.size+1) 73 73 z (patch cs 33 x1).toArray HZ1.out (by rw [zs73]; simp [HPL1.out]) (by rw [HZV.out.2]; simp [HPL1.out]) (by rw [List.all_toArray,List.all_eq_true]; exact hon)
 have hR:=setRow_same (cs:=(patch cs 33 x1).toArray) HZ1.out
 have hmr:Mod (fun q=>q=w.heap.size+1) w2 (w2.setRow (w.heap.size+1) (patch cs 33 x1).toArray):=Mod_setRow (Mod.refl (fun q=>q=w.heap.size+1) w2) (fun _=>rfl) _
 generalize w2.setRow (w.heap.size+1) (patch cs 33 x1).toArray=wf at hst hR hmr
 have hmf:Mod N0 w wf:=HM1.out.trans hmr (fun q e hl=>by omega)
 have HQ1:=hh (EqX.keep (Q':=fun q=>w.heap.size<=q) HQ1.out hmr (fun q e=>by subst e; exact ⟨by have:=HN.out; omega,fun h=>by first|omega|(simp only at h; omega)⟩) (fun q _ h=>by first|omega|(simp only at h ⊢; omega)) (Nat.le_refl _))
 have hret:=load_box hR 73 0 102 _ Tryz.underlying73 rfl zs73 (by rw [HPL1.out]; omega)
 rw [List.drop_zero,List.take_of_length_le (by rw [HPL1.out]; omega)] at hret
 have HF:=hh (And.intro hst (And.intro hret (And.intro hmf (And.intro hon hld))))
 clear hst hR hmr hmf hon hld hret
 go_upto_region 2 with fail
 refine wp_region_lit ?_
 refine wx (exec_load_pt _ _ 73 _ rfl ⟨w.heap.size,0,none⟩ rfl HF.out.2.2.2.2) ?_
 refine wpList_execS rfl (exec_store_pt _ _ rfl rfl rfl HF.out.1) ?_
 (try simp only [Act.put])
 go_wp2_with fail
 refine bodyPost_ret (v:=.agg (patch cs 33 x1).toArray) (resC52 rfl HF.out.2.1) rfl ⟨(patch cs 33 x1),rfl,HF.out.2.2.2.1,?_,HF.out.2.2.1⟩
 refine Eqv.structI (n:=4) rfl Tryz.underlying73 (by rw [zc73]; exact HL.out) (by rw [zc73]; exact HPL1.out) (fun i f hf=>?_)
 match i,hf with
|0,hf=>
  have e:((patch cs 33 x1).drop 0).take 33=(cs.drop 0).take 33:=by
   have hh:=HL.out; have hh1:=HPL1.out
   rw [patch_apart _ _ _ _ _ (by rw [HXL1.out]; omega)]
  exact eqx_put hf 62 0 33 rfl rfl zc62 (by rw [e]; exact Eqv.flatI 3 rfl)
|1,hf=>
  have e:((patch cs 33 x1).drop 33).take 69=x1:=by
   exact patch_same' HXL1.out _ _ (by have:=HL.out; omega)
  exact eqx_put hf 71 33 69 rfl rfl zc71 (by rw [e]; exact HQ1.out)
|i+2,hf=>simp at hf
set_option maxRecDepth 100000 in
set_option maxHeartbeats 1000000 in
theorem copyEntries {w0:World} (v:Value) (hr:Rd w0 28 [v]) (w:World) (hm:Mod N0 w0 w):Calls Tryz.prog 25 #[v] w fun e w'=>CpS w0 6 28 w v e w':=by
 obtain ⟨a,len,cap,rfl,hb,_,hel⟩:=hr.slice Tryz.underlying28 zc73 (by omega)
 rw [zbo73] at hb
 obtain ⟨z,hzv,hinf,hzs⟩:=zi73
 have HE:=hh hel
 have HM:=hh hm
 have HZ:=hh (And.intro hzv (And.intro hinf hzs))
 have hb2:len * 176<=140737488351232:=hb
 clear hel hm hzv hinf hzs hr hb
 go_enter Tryz.func25,Tryz.ntmps25
 go_wp2_with fail
 go_loopw [3,4] (fun v3 i wr=>∃ (k:Nat) (v':Value) (rows:List (List Value)),k<=len/\v'=v3/\i=.int .i64 k/\rows.length=k/\CL w0 w 5 73 102 a v' rows wr) (fun _ i _=>len - (intOf i).toNat)
 case atStart=>exact ⟨0,_,[],by omega,rfl,rfl,rfl,CL.nil HM.out⟩
 case round=>
  obtain ⟨k,v3,rows,hk,rfl,rfl,hrl,hcl⟩:=hrel
  have HCL:=hh hcl
  have HRL:=hh hrl
  clear hcl hrl
  by_cases hlt:k<len
  ·obtain ⟨L,off,ds,rfl,hL,hl,hrd,hc⟩:=HE.out k hlt
   have hld:(loadVar 73 ⟨L,off+k * 102,none⟩).run Tryz.prog wr=.ok (.agg ds.toArray) wr:=by
    have:=load_mid (w:=wr) (p:=off+k * 102) (fun j u hu=>((HM.out.tr HCL.out.mod).cell (p:=⟨L,_,none⟩) hL (fun q=>q)).trans (hc j u hu)) 73 0 102 _ Tryz.underlying73 rfl zs73 (by omega)
    rw [List.drop_zero,List.take_of_length_le (by omega),Nat.add_zero] at this
    exact this
   have HLD:=hh hld
   have HCC:=hh (copyEntry ds hrd wr (HM.out.tr HCL.out.mod))
   have HS:=hh (And.intro hL (And.intro hl (And.intro hrd hc)))
   clear hld hL hl hrd hc
   go_wp2_with (refine wpList_exec rfl (exec_load_pt _ _ 73 _ rfl ⟨L,off+k * 102,none⟩ rfl HLD.out) ?_)
   refine HCC.out.mono ?_
   rintro e w2 ⟨cs',rfl,one,heq,hm2⟩
   rename_i hK
   refine hK _ _ ?_
   clear hK
   (try simp only [Act.put,ja,jb,jc])
   have hcl':cs'.length=102:=by
    obtain ⟨_,_,_,h,_⟩:=heq.struct rfl Tryz.underlying73
    rw [h,zc73]
   have hst:=run_storeVar_row (P:=Tryz.prog) (w2.alloc (.cells z 73)) w2.heap.size 73 73 z cs'.toArray (newB w2 _) (by rw [zs73]; simp [hcl']) (by rw [HZ.out.2.2]; simp [hcl']) (by rw [List.all_toArray,List.all_eq_true]; exact one)
   have hR:=setRow_same (cs:=cs'.toArray) (newB w2 (.cells z 73))
   have hmr:Mod N0 w2 ((w2.alloc (.cells z 73)).setRow w2.heap.size cs'.toArray):=Mod_setRow ((Mod.refl _ w2).alloc (.cells z 73)) (b:=w2.heap.size) (fun q=>by omega) _
   generalize (w2.alloc (.cells z 73)).setRow w2.heap.size cs'.toArray=w3 at hst hR hmr
   have hld3:=load_box hR 73 0 102 _ Tryz.underlying73 rfl zs73 (by omega)
   rw [List.drop_zero,List.take_of_length_le (by omega)] at hld3
   have HST:=hh (And.intro hst hld3)
   have HQ:=hh (And.intro heq (And.intro one (And.intro hcl' (And.intro hm2 hmr))))
   clear hst hR hmr hld3 heq one hcl' hm2
   refine ww (exec_alloc _ _ 73 z rfl HZ.out.1) ?_
   refine wpList_execS rfl (exec_store_pt _ _ rfl rfl rfl HST.out.1) ?_
   (try simp only [Act.put])
   go_upto_region 6 with fail
   refine wp_region_lit ?_
   refine ex (v:=v3) ?_
   refine wx (exec_load_pt _ _ 73 _ rfl ⟨w2.heap.size,0,none⟩ rfl HST.out.2) ?_
   obtain ⟨i,hi,hz0,hz1,hz2⟩:=info_parts HZ.out.2.1
   have hsl:∀ (act:Act) (o:Oper) (x:Operand),o.op=.buildSlice 28 1 #[(0,x)]->act.eval x=.agg cs'.toArray->(execOp act.eval o).run Tryz.prog w3=.ok (.value (.slice (some ⟨w3.heap.size,0,none⟩) 1 1)) (w3.alloc (.cells cs'.toArray 73)):=by
    intro act o x ho hx
    have:=exec_slicesL act o (w:=w3) [(0,x)] ho [.agg cs'.toArray] (by simp [hx]) (E:=73) (s:=102) Tryz.underlying28 hi hz0 hz1 (by omega) rfl (by omega) (by omega) (by intro y hy; simp at hy; subst hy; simpa [Value.cells] using HQ.out.2.2.1)
    simpa [Value.cells] using this
   refine ww (hsl _ _ _ rfl rfl) ?_
   clear hsl
   have hN:=row_cells (newB w3 (.cells cs'.toArray 73))
   have hmA:Mod N0 wr (w3.alloc (.cells cs'.toArray 73)):=((HQ.out.2.2.2.1.tr HQ.out.2.2.2.2)).alloc _
   have hqA:=EqX.keep (Q':=fun q=>wr.heap.size<=q) HQ.out.1 (HQ.out.2.2.2.2.alloc (.cells cs'.toArray 73)) (fun q e=>e.elim) (fun q _ h=>h) (Nat.le_refl _)
   generalize w3.alloc (.cells cs'.toArray 73)=w4 at hN hmA hqA ⊢
   generalize w3.heap.size=g3 at hN ⊢
   have HN:=hh hN
   have HA:=hh (And.intro hmA hqA)
   have HO:=hh (ownsRow_block HCL.out.own (fun q hq=>hmA.block q (ownsRow_lt HCL.out.own hq) (fun e=>e)))
   clear hN hmA hqA
   refine wpList_append_at _ rfl _ _ 28 rfl 73 i _ 102 176 Tryz.underlying28 hi hz0 hz1 hz2 (by simpa [Value.cells] using HZ.out.2.2) (by decide) v3 rows.length rows.flatten rfl HO.out ⟨g3,0,none⟩ 1 1 cs' rfl (by rw [HQ.out.2.2.1]) HN.out HQ.out.2.1 (by have:=HRL.out; simp only [maxLen]; omega) (by have:=HRL.out; omega) ?_
   intro v6 w6 ho6 hg6 hat6
   have HF:=hh (HCL.out.more (k:=k) HRL.out rfl HS.out.1 HS.out.2.1 HS.out.2.2.1 HS.out.2.2.2 HA.out.1 HQ.out.2.2.1 HA.out.2 ho6 hg6 hat6)
   clear ho6 hg6 hat6 hi hz0 hz1 hz2
   (try simp only [Act.put,ja,jb,jc])
   go_wp2_with fail
   go_roundw
   case rel=>exact ⟨k+1,_,_,by omega,rfl,by simp,by rw [List.length_append,HRL.out]; rfl,HF.out⟩
   case measure=>simp [intOf]; omega
  ·have e:k=len:=by omega
   subst e
   have HF:=hh (HCL.out.fin (t:=28) (cap:=cap) rfl Tryz.underlying28 zc73 (by omega) HM.out)
   rw [HRL.out] at HF
   go_wp2_with fail
   go_ret
   exact ⟨_,rfl,HF.out.1,HF.out.2,HCL.out.mod⟩
set_option maxRecDepth 100000 in
set_option maxHeartbeats 1000000 in
theorem copyInstr {w0:World} (cs:List Value) (hr:Rd w0 260 cs) (w:World) (hm:Mod N0 w0 w):Calls Tryz.prog 191 #[.agg cs.toArray] w fun e w'=>CpR w0 4 260 w cs e w':=by
 have hl:=hr.len Tryz.underlying260
 rw [zc260] at hl
 have HR3:=hh (hr.fieldAt Tryz.underlying260 3 rfl 69 3 1 rfl rfl zc69)
 obtain ⟨z,hzv,_,hzs⟩:=zi260
 have hA0:((w.alloc (.cells cs.toArray 260)).alloc (.cells z 260)).heap[w.heap.size]?=some (.cells cs.toArray 260 (0,0)):=allocB (newB w _) _
 have hZ0:((w.alloc (.cells cs.toArray 260)).alloc (.cells z 260)).heap[w.heap.size+1]?=some (.cells z 260 (0,0)):=by
  have:=newB (w.alloc (.cells cs.toArray 260)) (.cells z 260); rwa [World.size_alloc] at this
 have hM0:Mod N0 w ((w.alloc (.cells cs.toArray 260)).alloc (.cells z 260)):=((Mod.refl _ w).alloc _).alloc _
 have HZV:=hh (And.intro hzv hzs)
 have HL:=hh hl
 have HM:=hh hm
 have HON:=hh (ones260 hr)
 have HN:=hh hm.size
 clear hzv hzs hl hm hr
 go_enter Tryz.func191,Tryz.ntmps191
 go_upto_region 0 with fail
 refine wp_region_lit ?_
 refine ww (exec_box _ _ 260 cs rfl rfl) ?_
 refine ww (exec_alloc _ _ 260 z rfl HZV.out.1) ?_
 rw [World.size_alloc]
 generalize (w.alloc (.cells cs.toArray 260)).alloc (.cells z 260)=w1 at hA0 hZ0 hM0 ⊢
 have HA0:=hh hA0
 have HZ0:=hh hZ0
 have HM0:=hh hM0
 clear hA0 hZ0 hM0
 go_upto_region 1 with fail
 refine wp_region_lit ?_
 refine ex (v:=.pointer (some ⟨w.heap.size,3,none⟩)) ?_
 have hsub:(cs.drop 3).take 1=(cs.drop 3).take 1:=by
  rfl
 have hld:=load_box HA0.out 69 3 1 _ Tryz.underlying69 rfl zs69 (by have:=HL.out; omega)
 rw [hsub] at hld
 refine wx (exec_load_pt _ _ 69 _ rfl ⟨w.heap.size,3,none⟩ rfl hld) ?_
 clear hld
 clear hsub
 have HCC:=hh (copyTerm ((cs.drop 3).take 1) HR3.out w1 (HM.out.tr HM0.out))
 go_wp2_with fail
 refine HCC.out.mono ?_
 rintro e w1x ⟨x3,rfl,one3,heq3,hm3⟩
 rename_i hK
 refine hK _ _ ?_
 clear hK
 (try simp only [Act.put,ja,jb,jc])
 have hxl:x3.length=1:=by
  obtain ⟨_,_,_,h,_⟩:=heq3.struct rfl Tryz.underlying69
  rw [h,zc69]
 have hAx:=(hm3.block _ (ltB HA0.out) (fun q=>q)).trans HA0.out
 have hZx:=(hm3.block _ (ltB HZ0.out) (fun q=>q)).trans HZ0.out
 have hMx:=HM0.out.tr hm3
 have hst:=run_storeVar_mid (P:=Tryz.prog) w1x w.heap.size 3 69 x3.toArray (there_box hAx (by simp only [List.size_toArray]; rw [hxl,HL.out]; omega)) (by rw [zs69]; simp [hxl]) (by rw [List.all_toArray,List.all_eq_true]; exact one3)
 have hAn:=setCells_box x3 w1x cs 3 hAx (by rw [hxl,HL.out]; omega)
 have hmn:=setCells_mod w1x w.heap.size x3 3
 have hst:(storeVar 69 ⟨w.heap.size,3,none⟩ (.agg x3.toArray)).run Tryz.prog w1x=.ok () (w1x.setCells w.heap.size 3 x3):=by simpa using hst
 generalize (w1x.setCells w.heap.size 3 x3)=w2 at hst hAn hmn
 have hZn:=(hmn.block _ (ltB hZx) (fun q=>by omega)).trans hZx
 have hMn:Mod N0 w w2:=hMx.trans hmn (fun q e hl=>by omega)
 have HQ3:=hh (EqX.keep (Q':=fun q=>w.heap.size+1<q) heq3 hmn (fun q e=>by subst e; exact ⟨HN.out,fun h=>by have:=ltB HA0.out; omega⟩) (fun q _ h=>by have:=ltB HZ0.out; first|omega|(simp only at h ⊢; omega)) (show 3<=3 by omega))
 have HA1:=hh hAn
 have HZ1:=hh hZn
 have HM1:=hh hMn
 have HPL1:=hh (show (patch cs 3 x3).length=4 from (patch_length (by rw [hxl,HL.out]; omega)).trans HL.out)
 have HXL3:=hh (show (x3:List Value).length=1 from hxl)
 have HX13:=hh (show ∀ u∈(x3:List Value),u.oneCell'=true from one3)
 have HST:=hh hst
 clear hAx hZx hMx hAn hmn hZn hMn hst heq3 hm3 one3 HCC hxl
 refine ex (v:=.pointer (some ⟨w.heap.size,3,none⟩)) ?_
 refine wpList_execS rfl (exec_store_pt _ _ rfl rfl rfl HST.out) ?_
 (try simp only [Act.put])
 clear HST
 have hld:=load_box HA1.out 260 0 4 _ Tryz.underlying260 rfl zs260 (by rw [HPL1.out]; omega)
 rw [List.drop_zero,List.take_of_length_le (by rw [HPL1.out]; omega)] at hld
 have hon:∀ u∈(patch cs 3 x3),u.oneCell'=true:=(patch_ones HON.out HX13.out)
 have hst:=run_storeVar_row (P:=Tryz.prog) w2 (w.heap.size+1) 260 260 z (patch cs 3 x3).toArray HZ1.out (by rw [zs260]; simp [HPL1.out]) (by rw [HZV.out.2]; simp [HPL1.out]) (by rw [List.all_toArray,List.all_eq_true]; exact hon)
 have hR:=setRow_same (cs:=(patch cs 3 x3).toArray) HZ1.out
 have hmr:Mod (fun q=>q=w.heap.size+1) w2 (w2.setRow (w.heap.size+1) (patch cs 3 x3).toArray):=Mod_setRow (Mod.refl (fun q=>q=w.heap.size+1) w2) (fun _=>rfl) _
 generalize w2.setRow (w.heap.size+1) (patch cs 3 x3).toArray=wf at hst hR hmr
 have hmf:Mod N0 w wf:=HM1.out.trans hmr (fun q e hl=>by omega)
 have HQ3:=hh (EqX.keep (Q':=fun q=>w.heap.size<=q) HQ3.out hmr (fun q e=>by subst e; exact ⟨by have:=HN.out; omega,fun h=>by first|omega|(simp only at h; omega)⟩) (fun q _ h=>by first|omega|(simp only at h ⊢; omega)) (Nat.le_refl _))
 have hret:=load_box hR 260 0 4 _ Tryz.underlying260 rfl zs260 (by rw [HPL1.out]; omega)
 rw [List.drop_zero,List.take_of_length_le (by rw [HPL1.out]; omega)] at hret
 have HF:=hh (And.intro hst (And.intro hret (And.intro hmf (And.intro hon hld))))
 clear hst hR hmr hmf hon hld hret
 go_upto_region 2 with fail
 refine wp_region_lit ?_
 refine wx (exec_load_pt _ _ 260 _ rfl ⟨w.heap.size,0,none⟩ rfl HF.out.2.2.2.2) ?_
 refine wpList_execS rfl (exec_store_pt _ _ rfl rfl rfl HF.out.1) ?_
 (try simp only [Act.put])
 go_wp2_with fail
 refine bodyPost_ret (v:=.agg (patch cs 3 x3).toArray) (resC191 rfl HF.out.2.1) rfl ⟨(patch cs 3 x3),rfl,HF.out.2.2.2.1,?_,HF.out.2.2.1⟩
 refine Eqv.structI (n:=3) rfl Tryz.underlying260 (by rw [zc260]; exact HL.out) (by rw [zc260]; exact HPL1.out) (fun i f hf=>?_)
 match i,hf with
|0,hf=>
  have e:((patch cs 3 x3).drop 0).take 1=(cs.drop 0).take 1:=by
   have hh:=HL.out; have hh1:=HPL1.out
   rw [patch_apart _ _ _ _ _ (by rw [HXL3.out]; omega)]
  exact eqx_put hf 258 0 1 rfl rfl zc258 (by rw [e]; exact Eqv.flatI 2 rfl)
|1,hf=>
  have e:((patch cs 3 x3).drop 1).take 1=(cs.drop 1).take 1:=by
   have hh:=HL.out; have hh1:=HPL1.out
   rw [patch_apart _ _ _ _ _ (by rw [HXL3.out]; omega)]
  exact eqx_put hf 2 1 1 rfl rfl zc2 (by rw [e]; exact Eqv.flatI 2 rfl)
|2,hf=>
  have e:((patch cs 3 x3).drop 2).take 1=(cs.drop 2).take 1:=by
   have hh:=HL.out; have hh1:=HPL1.out
   rw [patch_apart _ _ _ _ _ (by rw [HXL3.out]; omega)]
  exact eqx_put hf 30 2 1 rfl rfl zc30 (by rw [e]; exact Eqv.flatI 2 rfl)
|3,hf=>
  have e:((patch cs 3 x3).drop 3).take 1=x3:=by
   exact patch_same' HXL3.out _ _ (by have:=HL.out; omega)
  exact eqx_put hf 69 3 1 rfl rfl zc69 (by rw [e]; exact HQ3.out)
|i+4,hf=>simp at hf
set_option maxRecDepth 100000 in
set_option maxHeartbeats 1000000 in
theorem copyInstrs {w0:World} (v:Value) (hr:Rd w0 257 [v]) (w:World) (hm:Mod N0 w0 w):Calls Tryz.prog 178 #[v] w fun e w'=>CpS w0 5 257 w v e w':=by
 obtain ⟨a,len,cap,rfl,hb,_,hel⟩:=hr.slice Tryz.underlying257 zc260 (by omega)
 rw [zbo260] at hb
 obtain ⟨z,hzv,hinf,hzs⟩:=zi260
 have HE:=hh hel
 have HM:=hh hm
 have HZ:=hh (And.intro hzv (And.intro hinf hzs))
 have hb2:len * 48<=140737488351232:=hb
 clear hel hm hzv hinf hzs hr hb
 go_enter Tryz.func178,Tryz.ntmps178
 go_wp2_with fail
 go_loopw [3,4] (fun v3 i wr=>∃ (k:Nat) (v':Value) (rows:List (List Value)),k<=len/\v'=v3/\i=.int .i64 k/\rows.length=k/\CL w0 w 4 260 4 a v' rows wr) (fun _ i _=>len - (intOf i).toNat)
 case atStart=>exact ⟨0,_,[],by omega,rfl,rfl,rfl,CL.nil HM.out⟩
 case round=>
  obtain ⟨k,v3,rows,hk,rfl,rfl,hrl,hcl⟩:=hrel
  have HCL:=hh hcl
  have HRL:=hh hrl
  clear hcl hrl
  by_cases hlt:k<len
  ·obtain ⟨L,off,ds,rfl,hL,hl,hrd,hc⟩:=HE.out k hlt
   have hld:(loadVar 260 ⟨L,off+k * 4,none⟩).run Tryz.prog wr=.ok (.agg ds.toArray) wr:=by
    have:=load_mid (w:=wr) (p:=off+k * 4) (fun j u hu=>((HM.out.tr HCL.out.mod).cell (p:=⟨L,_,none⟩) hL (fun q=>q)).trans (hc j u hu)) 260 0 4 _ Tryz.underlying260 rfl zs260 (by omega)
    rw [List.drop_zero,List.take_of_length_le (by omega),Nat.add_zero] at this
    exact this
   have HLD:=hh hld
   have HCC:=hh (copyInstr ds hrd wr (HM.out.tr HCL.out.mod))
   have HS:=hh (And.intro hL (And.intro hl (And.intro hrd hc)))
   clear hld hL hl hrd hc
   go_wp2_with (refine wpList_exec rfl (exec_load_pt _ _ 260 _ rfl ⟨L,off+k * 4,none⟩ rfl HLD.out) ?_)
   refine HCC.out.mono ?_
   rintro e w2 ⟨cs',rfl,one,heq,hm2⟩
   rename_i hK
   refine hK _ _ ?_
   clear hK
   (try simp only [Act.put,ja,jb,jc])
   have hcl':cs'.length=4:=by
    obtain ⟨_,_,_,h,_⟩:=heq.struct rfl Tryz.underlying260
    rw [h,zc260]
   have hst:=run_storeVar_row (P:=Tryz.prog) (w2.alloc (.cells z 260)) w2.heap.size 260 260 z cs'.toArray (newB w2 _) (by rw [zs260]; simp [hcl']) (by rw [HZ.out.2.2]; simp [hcl']) (by rw [List.all_toArray,List.all_eq_true]; exact one)
   have hR:=setRow_same (cs:=cs'.toArray) (newB w2 (.cells z 260))
   have hmr:Mod N0 w2 ((w2.alloc (.cells z 260)).setRow w2.heap.size cs'.toArray):=Mod_setRow ((Mod.refl _ w2).alloc (.cells z 260)) (b:=w2.heap.size) (fun q=>by omega) _
   generalize (w2.alloc (.cells z 260)).setRow w2.heap.size cs'.toArray=w3 at hst hR hmr
   have hld3:=load_box hR 260 0 4 _ Tryz.underlying260 rfl zs260 (by omega)
   rw [List.drop_zero,List.take_of_length_le (by omega)] at hld3
   have HST:=hh (And.intro hst hld3)
   have HQ:=hh (And.intro heq (And.intro one (And.intro hcl' (And.intro hm2 hmr))))
   clear hst hR hmr hld3 heq one hcl' hm2
   refine ww (exec_alloc _ _ 260 z rfl HZ.out.1) ?_
   refine wpList_execS rfl (exec_store_pt _ _ rfl rfl rfl HST.out.1) ?_
   (try simp only [Act.put])
   go_upto_region 6 with fail
   refine wp_region_lit ?_
   refine ex (v:=v3) ?_
   refine wx (exec_load_pt _ _ 260 _ rfl ⟨w2.heap.size,0,none⟩ rfl HST.out.2) ?_
   obtain ⟨i,hi,hz0,hz1,hz2⟩:=info_parts HZ.out.2.1
   have hsl:∀ (act:Act) (o:Oper) (x:Operand),o.op=.buildSlice 257 1 #[(0,x)]->act.eval x=.agg cs'.toArray->(execOp act.eval o).run Tryz.prog w3=.ok (.value (.slice (some ⟨w3.heap.size,0,none⟩) 1 1)) (w3.alloc (.cells cs'.toArray 260)):=by
    intro act o x ho hx
    have:=exec_slicesL act o (w:=w3) [(0,x)] ho [.agg cs'.toArray] (by simp [hx]) (E:=260) (s:=4) Tryz.underlying257 hi hz0 hz1 (by omega) rfl (by omega) (by omega) (by intro y hy; simp at hy; subst hy; simpa [Value.cells] using HQ.out.2.2.1)
    simpa [Value.cells] using this
   refine ww (hsl _ _ _ rfl rfl) ?_
   clear hsl
   have hN:=row_cells (newB w3 (.cells cs'.toArray 260))
   have hmA:Mod N0 wr (w3.alloc (.cells cs'.toArray 260)):=((HQ.out.2.2.2.1.tr HQ.out.2.2.2.2)).alloc _
   have hqA:=EqX.keep (Q':=fun q=>wr.heap.size<=q) HQ.out.1 (HQ.out.2.2.2.2.alloc (.cells cs'.toArray 260)) (fun q e=>e.elim) (fun q _ h=>h) (Nat.le_refl _)
   generalize w3.alloc (.cells cs'.toArray 260)=w4 at hN hmA hqA ⊢
   generalize w3.heap.size=g3 at hN ⊢
   have HN:=hh hN
   have HA:=hh (And.intro hmA hqA)
   have HO:=hh (ownsRow_block HCL.out.own (fun q hq=>hmA.block q (ownsRow_lt HCL.out.own hq) (fun e=>e)))
   clear hN hmA hqA
   refine wpList_append_at _ rfl _ _ 257 rfl 260 i _ 4 48 Tryz.underlying257 hi hz0 hz1 hz2 (by simpa [Value.cells] using HZ.out.2.2) (by decide) v3 rows.length rows.flatten rfl HO.out ⟨g3,0,none⟩ 1 1 cs' rfl (by rw [HQ.out.2.2.1]) HN.out HQ.out.2.1 (by have:=HRL.out; simp only [maxLen]; omega) (by have:=HRL.out; omega) ?_
   intro v6 w6 ho6 hg6 hat6
   have HF:=hh (HCL.out.more (k:=k) HRL.out rfl HS.out.1 HS.out.2.1 HS.out.2.2.1 HS.out.2.2.2 HA.out.1 HQ.out.2.2.1 HA.out.2 ho6 hg6 hat6)
   clear ho6 hg6 hat6 hi hz0 hz1 hz2
   (try simp only [Act.put,ja,jb,jc])
   go_wp2_with fail
   go_roundw
   case rel=>exact ⟨k+1,_,_,by omega,rfl,by simp,by rw [List.length_append,HRL.out]; rfl,HF.out⟩
   case measure=>simp [intOf]; omega
  ·have e:k=len:=by omega
   subst e
   have HF:=hh (HCL.out.fin (t:=257) (cap:=cap) rfl Tryz.underlying257 zc260 (by omega) HM.out)
   rw [HRL.out] at HF
   go_wp2_with fail
   go_ret
   exact ⟨_,rfl,HF.out.1,HF.out.2,HCL.out.mod⟩
set_option maxRecDepth 100000 in
set_option maxHeartbeats 1000000 in
theorem copyProgram {w0:World} (cs:List Value) (hr:Rd w0 264 cs) (w:World) (hm:Mod N0 w0 w):Calls Tryz.prog 164 #[.agg cs.toArray] w fun e w'=>CpR w0 6 264 w cs e w':=by
 have hl:=hr.len Tryz.underlying264
 rw [zc264] at hl
 obtain ⟨u1,hu1,hru1⟩:=hr.cellAt Tryz.underlying264 1 rfl 257 1 rfl rfl zc257 zc264 (by omega)
 obtain ⟨a1,l1,c1,rfl,_⟩:=id (hru1.slice Tryz.underlying257 zc260 (by omega))
 have HU1:=hh hu1
 have HR1:=hh hru1
 clear hu1 hru1
 obtain ⟨z,hzv,_,hzs⟩:=zi264
 have hA0:((w.alloc (.cells cs.toArray 264)).alloc (.cells z 264)).heap[w.heap.size]?=some (.cells cs.toArray 264 (0,0)):=allocB (newB w _) _
 have hZ0:((w.alloc (.cells cs.toArray 264)).alloc (.cells z 264)).heap[w.heap.size+1]?=some (.cells z 264 (0,0)):=by
  have:=newB (w.alloc (.cells cs.toArray 264)) (.cells z 264); rwa [World.size_alloc] at this
 have hM0:Mod N0 w ((w.alloc (.cells cs.toArray 264)).alloc (.cells z 264)):=((Mod.refl _ w).alloc _).alloc _
 have HZV:=hh (And.intro hzv hzs)
 have HL:=hh hl
 have HM:=hh hm
 have HON:=hh (ones264 hr)
 have HN:=hh hm.size
 clear hzv hzs hl hm hr
 go_enter Tryz.func164,Tryz.ntmps164
 go_upto_region 0 with fail
 refine wp_region_lit ?_
 refine ww (exec_box _ _ 264 cs rfl rfl) ?_
 refine ww (exec_alloc _ _ 264 z rfl HZV.out.1) ?_
 rw [World.size_alloc]
 generalize (w.alloc (.cells cs.toArray 264)).alloc (.cells z 264)=w1 at hA0 hZ0 hM0 ⊢
 have HA0:=hh hA0
 have HZ0:=hh hZ0
 have HM0:=hh hM0
 clear hA0 hZ0 hM0
 go_upto_region 1 with fail
 refine wp_region_lit ?_
 refine ex (v:=.pointer (some ⟨w.heap.size,1,none⟩)) ?_
 have hsub:(cs.drop 1).take 1=(cs.drop 1).take 1:=by
  rfl
 have hc:cs[1]?=some (.slice a1 l1 c1):=flat_cell hsub HU1.out
 have s:w1.cell? ⟨w.heap.size,1,none⟩=some (.slice a1 l1 c1):=(cellB HA0.out 1).trans (by rw [List.getElem?_toArray]; exact hc)
 refine ex (v:=.slice a1 l1 c1) ?_
 clear s hc
 clear hsub
 have HCC:=hh (copyInstrs (.slice a1 l1 c1) HR1.out w1 (HM.out.tr HM0.out))
 go_wp2_with fail
 refine HCC.out.mono ?_
 rintro e w1x ⟨x1,rfl,one1,heq1,hm1⟩
 rename_i hK
 refine hK _ _ ?_
 clear hK
 (try simp only [Act.put,ja,jb,jc])
 obtain ⟨_,_,sa,xa1,sl,sc,xc1,hsl,rfl,_⟩:=id (heq1.slice rfl Tryz.underlying257 zc260)
 simp only [Value.slice.injEq] at hsl
 obtain ⟨hsa,rfl,hsc⟩:=hsl
 clear hsa hsc
 have hAx:=(hm1.block _ (ltB HA0.out) (fun q=>q)).trans HA0.out
 have hZx:=(hm1.block _ (ltB HZ0.out) (fun q=>q)).trans HZ0.out
 have hMx:=HM0.out.tr hm1
 have hst:=store_slice257 (w:=w1x) (a:=xa1) (n:=l1) (c:=xc1) ((cellB hAx 1).trans (by rw [List.getElem?_toArray]; exact List.getElem?_eq_getElem (by rw [HL.out]; omega))) (frozB hAx 1)
 have hAn:=setCell_box hAx 1 (.slice xa1 l1 xc1) (by rw [HL.out]; omega)
 have hmn:Mod (fun q=>q=w.heap.size) w1x (w1x.setCell ⟨w.heap.size,1,none⟩ (.slice xa1 l1 xc1)):=(Mod.refl (fun q=>q=w.heap.size) w1x).setCell (p:=⟨w.heap.size,1,none⟩) (fun _=>rfl) _
 generalize (w1x.setCell ⟨w.heap.size,1,none⟩ (.slice xa1 l1 xc1))=w2 at hst hAn hmn
 have hZn:=(hmn.block _ (ltB hZx) (fun q=>by omega)).trans hZx
 have hMn:Mod N0 w w2:=hMx.trans hmn (fun q e hl=>by omega)
 have HQ1:=hh (EqX.keep (Q':=fun q=>w.heap.size+1<q) heq1 hmn (fun q e=>by subst e; exact ⟨HN.out,fun h=>by have:=ltB HA0.out; omega⟩) (fun q _ h=>by have:=ltB HZ0.out; first|omega|(simp only at h ⊢; omega)) (show 5<=5 by omega))
 have HA1:=hh hAn
 have HZ1:=hh hZn
 have HM1:=hh hMn
 have HPL1:=hh (show (patch cs 1 [.slice xa1 l1 xc1]).length=2 from (patch_length (by rw [show ([.slice xa1 l1 xc1]:List Value).length=1 from rfl,HL.out]; omega)).trans HL.out)
 have HXL1:=hh (show ([.slice xa1 l1 xc1]:List Value).length=1 from rfl)
 have HX11:=hh (show ∀ u∈([.slice xa1 l1 xc1]:List Value),u.oneCell'=true from fun u hu=>by simp at hu; subst hu; rfl)
 have HST:=hh hst
 clear hAx hZx hMx hAn hmn hZn hMn hst heq1 hm1 one1 HCC
 refine ex (v:=.pointer (some ⟨w.heap.size,1,none⟩)) ?_
 refine wpList_execS rfl (exec_store_pt _ _ rfl rfl rfl HST.out) ?_
 (try simp only [Act.put])
 clear HST
 have hld:=load_box HA1.out 264 0 2 _ Tryz.underlying264 rfl zs264 (by rw [HPL1.out]; omega)
 rw [List.drop_zero,List.take_of_length_le (by rw [HPL1.out]; omega)] at hld
 have hon:∀ u∈(patch cs 1 [.slice xa1 l1 xc1]),u.oneCell'=true:=(patch_ones HON.out HX11.out)
 have hst:=run_storeVar_row (P:=Tryz.prog) w2 (w.heap.size+1) 264 264 z (patch cs 1 [.slice xa1 l1 xc1]).toArray HZ1.out (by rw [zs264]; simp [HPL1.out]) (by rw [HZV.out.2]; simp [HPL1.out]) (by rw [List.all_toArray,List.all_eq_true]; exact hon)
 have hR:=setRow_same (cs:=(patch cs 1 [.slice xa1 l1 xc1]).toArray) HZ1.out
 have hmr:Mod (fun q=>q=w.heap.size+1) w2 (w2.setRow (w.heap.size+1) (patch cs 1 [.slice xa1 l1 xc1]).toArray):=Mod_setRow (Mod.refl (fun q=>q=w.heap.size+1) w2) (fun _=>rfl) _
 generalize w2.setRow (w.heap.size+1) (patch cs 1 [.slice xa1 l1 xc1]).toArray=wf at hst hR hmr
 have hmf:Mod N0 w wf:=HM1.out.trans hmr (fun q e hl=>by omega)
 have HQ1:=hh (EqX.keep (Q':=fun q=>w.heap.size<=q) HQ1.out hmr (fun q e=>by subst e; exact ⟨by have:=HN.out; omega,fun h=>by first|omega|(simp only at h; omega)⟩) (fun q _ h=>by first|omega|(simp only at h ⊢; omega)) (Nat.le_refl _))
 have hret:=load_box hR 264 0 2 _ Tryz.underlying264 rfl zs264 (by rw [HPL1.out]; omega)
 rw [List.drop_zero,List.take_of_length_le (by rw [HPL1.out]; omega)] at hret
 have HF:=hh (And.intro hst (And.intro hret (And.intro hmf (And.intro hon hld))))
 clear hst hR hmr hmf hon hld hret
 go_upto_region 2 with fail
 refine wp_region_lit ?_
 refine wx (exec_load_pt _ _ 264 _ rfl ⟨w.heap.size,0,none⟩ rfl HF.out.2.2.2.2) ?_
 refine wpList_execS rfl (exec_store_pt _ _ rfl rfl rfl HF.out.1) ?_
 (try simp only [Act.put])
 go_wp2_with fail
 refine bodyPost_ret (v:=.agg (patch cs 1 [.slice xa1 l1 xc1]).toArray) (resC164 rfl HF.out.2.1) rfl ⟨(patch cs 1 [.slice xa1 l1 xc1]),rfl,HF.out.2.2.2.1,?_,HF.out.2.2.1⟩
 refine Eqv.structI (n:=5) rfl Tryz.underlying264 (by rw [zc264]; exact HL.out) (by rw [zc264]; exact HPL1.out) (fun i f hf=>?_)
 match i,hf with
|0,hf=>
  have e:((patch cs 1 [.slice xa1 l1 xc1]).drop 0).take 1=(cs.drop 0).take 1:=by
   have hh:=HL.out; have hh1:=HPL1.out
   rw [patch_apart _ _ _ _ _ (by rw [HXL1.out]; omega)]
  exact eqx_put hf 3 0 1 rfl rfl zc3 (by rw [e]; exact Eqv.flatI 4 rfl)
|1,hf=>
  have e:((patch cs 1 [.slice xa1 l1 xc1]).drop 1).take 1=[.slice xa1 l1 xc1]:=by
   exact patch_same' HXL1.out _ _ (by have:=HL.out; omega)
  exact eqx_put hf 257 1 1 rfl rfl zc257 (by rw [e,take_one HU1.out]; exact HQ1.out)
|i+2,hf=>simp at hf
set_option maxRecDepth 100000 in
set_option maxHeartbeats 1000000 in
theorem copyPrograms {w0:World} (v:Value) (hr:Rd w0 154 [v]) (w:World) (hm:Mod N0 w0 w):Calls Tryz.prog 108 #[v] w fun e w'=>CpS w0 7 154 w v e w':=by
 obtain ⟨a,len,cap,rfl,hb,_,hel⟩:=hr.slice Tryz.underlying154 zc264 (by omega)
 rw [zbo264] at hb
 obtain ⟨z,hzv,hinf,hzs⟩:=zi264
 have HE:=hh hel
 have HM:=hh hm
 have HZ:=hh (And.intro hzv (And.intro hinf hzs))
 have hb2:len * 32<=140737488351232:=hb
 clear hel hm hzv hinf hzs hr hb
 go_enter Tryz.func108,Tryz.ntmps108
 go_wp2_with fail
 go_loopw [3,4] (fun v3 i wr=>∃ (k:Nat) (v':Value) (rows:List (List Value)),k<=len/\v'=v3/\i=.int .i64 k/\rows.length=k/\CL w0 w 6 264 2 a v' rows wr) (fun _ i _=>len - (intOf i).toNat)
 case atStart=>exact ⟨0,_,[],by omega,rfl,rfl,rfl,CL.nil HM.out⟩
 case round=>
  obtain ⟨k,v3,rows,hk,rfl,rfl,hrl,hcl⟩:=hrel
  have HCL:=hh hcl
  have HRL:=hh hrl
  clear hcl hrl
  by_cases hlt:k<len
  ·obtain ⟨L,off,ds,rfl,hL,hl,hrd,hc⟩:=HE.out k hlt
   have hld:(loadVar 264 ⟨L,off+k * 2,none⟩).run Tryz.prog wr=.ok (.agg ds.toArray) wr:=by
    have:=load_mid (w:=wr) (p:=off+k * 2) (fun j u hu=>((HM.out.tr HCL.out.mod).cell (p:=⟨L,_,none⟩) hL (fun q=>q)).trans (hc j u hu)) 264 0 2 _ Tryz.underlying264 rfl zs264 (by omega)
    rw [List.drop_zero,List.take_of_length_le (by omega),Nat.add_zero] at this
    exact this
   have HLD:=hh hld
   have HCC:=hh (copyProgram ds hrd wr (HM.out.tr HCL.out.mod))
   have HS:=hh (And.intro hL (And.intro hl (And.intro hrd hc)))
   clear hld hL hl hrd hc
   go_wp2_with (refine wpList_exec rfl (exec_load_pt _ _ 264 _ rfl ⟨L,off+k * 2,none⟩ rfl HLD.out) ?_)
   refine HCC.out.mono ?_
   rintro e w2 ⟨cs',rfl,one,heq,hm2⟩
   rename_i hK
   refine hK _ _ ?_
   clear hK
   (try simp only [Act.put,ja,jb,jc])
   have hcl':cs'.length=2:=by
    obtain ⟨_,_,_,h,_⟩:=heq.struct rfl Tryz.underlying264
    rw [h,zc264]
   have hst:=run_storeVar_row (P:=Tryz.prog) (w2.alloc (.cells z 264)) w2.heap.size 264 264 z cs'.toArray (newB w2 _) (by rw [zs264]; simp [hcl']) (by rw [HZ.out.2.2]; simp [hcl']) (by rw [List.all_toArray,List.all_eq_true]; exact one)
   have hR:=setRow_same (cs:=cs'.toArray) (newB w2 (.cells z 264))
   have hmr:Mod N0 w2 ((w2.alloc (.cells z 264)).setRow w2.heap.size cs'.toArray):=Mod_setRow ((Mod.refl _ w2).alloc (.cells z 264)) (b:=w2.heap.size) (fun q=>by omega) _
   generalize (w2.alloc (.cells z 264)).setRow w2.heap.size cs'.toArray=w3 at hst hR hmr
   have hld3:=load_box hR 264 0 2 _ Tryz.underlying264 rfl zs264 (by omega)
   rw [List.drop_zero,List.take_of_length_le (by omega)] at hld3
   have HST:=hh (And.intro hst hld3)
   have HQ:=hh (And.intro heq (And.intro one (And.intro hcl' (And.intro hm2 hmr))))
   clear hst hR hmr hld3 heq one hcl' hm2
   refine ww (exec_alloc _ _ 264 z rfl HZ.out.1) ?_
   refine wpList_execS rfl (exec_store_pt _ _ rfl rfl rfl HST.out.1) ?_
   (try simp only [Act.put])
   go_upto_region 6 with fail
   refine wp_region_lit ?_
   refine ex (v:=v3) ?_
   refine wx (exec_load_pt _ _ 264 _ rfl ⟨w2.heap.size,0,none⟩ rfl HST.out.2) ?_
   obtain ⟨i,hi,hz0,hz1,hz2⟩:=info_parts HZ.out.2.1
   have hsl:∀ (act:Act) (o:Oper) (x:Operand),o.op=.buildSlice 154 1 #[(0,x)]->act.eval x=.agg cs'.toArray->(execOp act.eval o).run Tryz.prog w3=.ok (.value (.slice (some ⟨w3.heap.size,0,none⟩) 1 1)) (w3.alloc (.cells cs'.toArray 264)):=by
    intro act o x ho hx
    have:=exec_slicesL act o (w:=w3) [(0,x)] ho [.agg cs'.toArray] (by simp [hx]) (E:=264) (s:=2) Tryz.underlying154 hi hz0 hz1 (by omega) rfl (by omega) (by omega) (by intro y hy; simp at hy; subst hy; simpa [Value.cells] using HQ.out.2.2.1)
    simpa [Value.cells] using this
   refine ww (hsl _ _ _ rfl rfl) ?_
   clear hsl
   have hN:=row_cells (newB w3 (.cells cs'.toArray 264))
   have hmA:Mod N0 wr (w3.alloc (.cells cs'.toArray 264)):=((HQ.out.2.2.2.1.tr HQ.out.2.2.2.2)).alloc _
   have hqA:=EqX.keep (Q':=fun q=>wr.heap.size<=q) HQ.out.1 (HQ.out.2.2.2.2.alloc (.cells cs'.toArray 264)) (fun q e=>e.elim) (fun q _ h=>h) (Nat.le_refl _)
   generalize w3.alloc (.cells cs'.toArray 264)=w4 at hN hmA hqA ⊢
   generalize w3.heap.size=g3 at hN ⊢
   have HN:=hh hN
   have HA:=hh (And.intro hmA hqA)
   have HO:=hh (ownsRow_block HCL.out.own (fun q hq=>hmA.block q (ownsRow_lt HCL.out.own hq) (fun e=>e)))
   clear hN hmA hqA
   refine wpList_append_at _ rfl _ _ 154 rfl 264 i _ 2 32 Tryz.underlying154 hi hz0 hz1 hz2 (by simpa [Value.cells] using HZ.out.2.2) (by decide) v3 rows.length rows.flatten rfl HO.out ⟨g3,0,none⟩ 1 1 cs' rfl (by rw [HQ.out.2.2.1]) HN.out HQ.out.2.1 (by have:=HRL.out; simp only [maxLen]; omega) (by have:=HRL.out; omega) ?_
   intro v6 w6 ho6 hg6 hat6
   have HF:=hh (HCL.out.more (k:=k) HRL.out rfl HS.out.1 HS.out.2.1 HS.out.2.2.1 HS.out.2.2.2 HA.out.1 HQ.out.2.2.1 HA.out.2 ho6 hg6 hat6)
   clear ho6 hg6 hat6 hi hz0 hz1 hz2
   (try simp only [Act.put,ja,jb,jc])
   go_wp2_with fail
   go_roundw
   case rel=>exact ⟨k+1,_,_,by omega,rfl,by simp,by rw [List.length_append,HRL.out]; rfl,HF.out⟩
   case measure=>simp [intOf]; omega
  ·have e:k=len:=by omega
   subst e
   have HF:=hh (HCL.out.fin (t:=154) (cap:=cap) rfl Tryz.underlying154 zc264 (by omega) HM.out)
   rw [HRL.out] at HF
   go_wp2_with fail
   go_ret
   exact ⟨_,rfl,HF.out.1,HF.out.2,HCL.out.mod⟩
set_option maxRecDepth 100000 in
set_option maxHeartbeats 1000000 in
theorem copyRedeemer {w0:World} (cs:List Value) (hr:Rd w0 269 cs) (w:World) (hm:Mod N0 w0 w):Calls Tryz.prog 165 #[.agg cs.toArray] w fun e w'=>CpR w0 4 269 w cs e w':=by
 have hl:=hr.len Tryz.underlying269
 rw [zc269] at hl
 have HR2:=hh (hr.fieldAt Tryz.underlying269 2 rfl 69 2 1 rfl rfl zc69)
 obtain ⟨z,hzv,_,hzs⟩:=zi269
 have hA0:((w.alloc (.cells cs.toArray 269)).alloc (.cells z 269)).heap[w.heap.size]?=some (.cells cs.toArray 269 (0,0)):=allocB (newB w _) _
 have hZ0:((w.alloc (.cells cs.toArray 269)).alloc (.cells z 269)).heap[w.heap.size+1]?=some (.cells z 269 (0,0)):=by
  have:=newB (w.alloc (.cells cs.toArray 269)) (.cells z 269); rwa [World.size_alloc] at this
 have hM0:Mod N0 w ((w.alloc (.cells cs.toArray 269)).alloc (.cells z 269)):=((Mod.refl _ w).alloc _).alloc _
 have HZV:=hh (And.intro hzv hzs)
 have HL:=hh hl
 have HM:=hh hm
 have HON:=hh (ones269 hr)
 have HN:=hh hm.size
 clear hzv hzs hl hm hr
 go_enter Tryz.func165,Tryz.ntmps165
 go_upto_region 0 with fail
 refine wp_region_lit ?_
 refine ww (exec_box _ _ 269 cs rfl rfl) ?_
 refine ww (exec_alloc _ _ 269 z rfl HZV.out.1) ?_
 rw [World.size_alloc]
 generalize (w.alloc (.cells cs.toArray 269)).alloc (.cells z 269)=w1 at hA0 hZ0 hM0 ⊢
 have HA0:=hh hA0
 have HZ0:=hh hZ0
 have HM0:=hh hM0
 clear hA0 hZ0 hM0
 go_upto_region 1 with fail
 refine wp_region_lit ?_
 refine ex (v:=.pointer (some ⟨w.heap.size,2,none⟩)) ?_
 have hsub:(cs.drop 2).take 1=(cs.drop 2).take 1:=by
  rfl
 have hld:=load_box HA0.out 69 2 1 _ Tryz.underlying69 rfl zs69 (by have:=HL.out; omega)
 rw [hsub] at hld
 refine wx (exec_load_pt _ _ 69 _ rfl ⟨w.heap.size,2,none⟩ rfl hld) ?_
 clear hld
 clear hsub
 have HCC:=hh (copyTerm ((cs.drop 2).take 1) HR2.out w1 (HM.out.tr HM0.out))
 go_wp2_with fail
 refine HCC.out.mono ?_
 rintro e w1x ⟨x2,rfl,one2,heq2,hm2⟩
 rename_i hK
 refine hK _ _ ?_
 clear hK
 (try simp only [Act.put,ja,jb,jc])
 have hxl:x2.length=1:=by
  obtain ⟨_,_,_,h,_⟩:=heq2.struct rfl Tryz.underlying69
  rw [h,zc69]
 have hAx:=(hm2.block _ (ltB HA0.out) (fun q=>q)).trans HA0.out
 have hZx:=(hm2.block _ (ltB HZ0.out) (fun q=>q)).trans HZ0.out
 have hMx:=HM0.out.tr hm2
 have hst:=run_storeVar_mid (P:=Tryz.prog) w1x w.heap.size 2 69 x2.toArray (there_box hAx (by simp only [List.size_toArray]; rw [hxl,HL.out]; omega)) (by rw [zs69]; simp [hxl]) (by rw [List.all_toArray,List.all_eq_true]; exact one2)
 have hAn:=setCells_box x2 w1x cs 2 hAx (by rw [hxl,HL.out]; omega)
 have hmn:=setCells_mod w1x w.heap.size x2 2
 have hst:(storeVar 69 ⟨w.heap.size,2,none⟩ (.agg x2.toArray)).run Tryz.prog w1x=.ok () (w1x.setCells w.heap.size 2 x2):=by simpa using hst
 generalize (w1x.setCells w.heap.size 2 x2)=w2 at hst hAn hmn
 have hZn:=(hmn.block _ (ltB hZx) (fun q=>by omega)).trans hZx
 have hMn:Mod N0 w w2:=hMx.trans hmn (fun q e hl=>by omega)
 have HQ2:=hh (EqX.keep (Q':=fun q=>w.heap.size+1<q) heq2 hmn (fun q e=>by subst e; exact ⟨HN.out,fun h=>by have:=ltB HA0.out; omega⟩) (fun q _ h=>by have:=ltB HZ0.out; first|omega|(simp only at h ⊢; omega)) (show 3<=3 by omega))
 have HA1:=hh hAn
 have HZ1:=hh hZn
 have HM1:=hh hMn
 have HPL1:=hh (show (patch cs 2 x2).length=5 from (patch_length (by rw [hxl,HL.out]; omega)).trans HL.out)
 have HXL2:=hh (show (x2:List Value).length=1 from hxl)
 have HX12:=hh (show ∀ u∈(x2:List Value),u.oneCell'=true from one2)
 have HST:=hh hst
 clear hAx hZx hMx hAn hmn hZn hMn hst heq2 hm2 one2 HCC hxl
 refine ex (v:=.pointer (some ⟨w.heap.size,2,none⟩)) ?_
 refine wpList_execS rfl (exec_store_pt _ _ rfl rfl rfl HST.out) ?_
 (try simp only [Act.put])
 clear HST
 have hld:=load_box HA1.out 269 0 5 _ Tryz.underlying269 rfl zs269 (by rw [HPL1.out]; omega)
 rw [List.drop_zero,List.take_of_length_le (by rw [HPL1.out]; omega)] at hld
 have hon:∀ u∈(patch cs 2 x2),u.oneCell'=true:=(patch_ones HON.out HX12.out)
 have hst:=run_storeVar_row (P:=Tryz.prog) w2 (w.heap.size+1) 269 269 z (patch cs 2 x2).toArray HZ1.out (by rw [zs269]; simp [HPL1.out]) (by rw [HZV.out.2]; simp [HPL1.out]) (by rw [List.all_toArray,List.all_eq_true]; exact hon)
 have hR:=setRow_same (cs:=(patch cs 2 x2).toArray) HZ1.out
 have hmr:Mod (fun q=>q=w.heap.size+1) w2 (w2.setRow (w.heap.size+1) (patch cs 2 x2).toArray):=Mod_setRow (Mod.refl (fun q=>q=w.heap.size+1) w2) (fun _=>rfl) _
 generalize w2.setRow (w.heap.size+1) (patch cs 2 x2).toArray=wf at hst hR hmr
 have hmf:Mod N0 w wf:=HM1.out.trans hmr (fun q e hl=>by omega)
 have HQ2:=hh (EqX.keep (Q':=fun q=>w.heap.size<=q) HQ2.out hmr (fun q e=>by subst e; exact ⟨by have:=HN.out; omega,fun h=>by first|omega|(simp only at h; omega)⟩) (fun q _ h=>by first|omega|(simp only at h ⊢; omega)) (Nat.le_refl _))
 have hret:=load_box hR 269 0 5 _ Tryz.underlying269 rfl zs269 (by rw [HPL1.out]; omega)
 rw [List.drop_zero,List.take_of_length_le (by rw [HPL1.out]; omega)] at hret
 have HF:=hh (And.intro hst (And.intro hret (And.intro hmf (And.intro hon hld))))
 clear hst hR hmr hmf hon hld hret
 go_upto_region 2 with fail
 refine wp_region_lit ?_
 refine wx (exec_load_pt _ _ 269 _ rfl ⟨w.heap.size,0,none⟩ rfl HF.out.2.2.2.2) ?_
 refine wpList_execS rfl (exec_store_pt _ _ rfl rfl rfl HF.out.1) ?_
 (try simp only [Act.put])
 go_wp2_with fail
 refine bodyPost_ret (v:=.agg (patch cs 2 x2).toArray) (resC165 rfl HF.out.2.1) rfl ⟨(patch cs 2 x2),rfl,HF.out.2.2.2.1,?_,HF.out.2.2.1⟩
 refine Eqv.structI (n:=3) rfl Tryz.underlying269 (by rw [zc269]; exact HL.out) (by rw [zc269]; exact HPL1.out) (fun i f hf=>?_)
 match i,hf with
|0,hf=>
  have e:((patch cs 2 x2).drop 0).take 1=(cs.drop 0).take 1:=by
   have hh:=HL.out; have hh1:=HPL1.out
   rw [patch_apart _ _ _ _ _ (by rw [HXL2.out]; omega)]
  exact eqx_put hf 267 0 1 rfl rfl zc267 (by rw [e]; exact Eqv.flatI 2 rfl)
|1,hf=>
  have e:((patch cs 2 x2).drop 1).take 1=(cs.drop 1).take 1:=by
   have hh:=HL.out; have hh1:=HPL1.out
   rw [patch_apart _ _ _ _ _ (by rw [HXL2.out]; omega)]
  exact eqx_put hf 3 1 1 rfl rfl zc3 (by rw [e]; exact Eqv.flatI 2 rfl)
|2,hf=>
  have e:((patch cs 2 x2).drop 2).take 1=x2:=by
   exact patch_same' HXL2.out _ _ (by have:=HL.out; omega)
  exact eqx_put hf 69 2 1 rfl rfl zc69 (by rw [e]; exact HQ2.out)
|3,hf=>
  have e:((patch cs 2 x2).drop 3).take 2=(cs.drop 3).take 2:=by
   have hh:=HL.out; have hh1:=HPL1.out
   rw [patch_apart _ _ _ _ _ (by rw [HXL2.out]; omega)]
  exact eqx_put hf 23 3 2 rfl rfl zc23 (by rw [e]; exact Eqv.flatI 2 rfl)
|i+4,hf=>simp at hf
set_option maxRecDepth 100000 in
set_option maxHeartbeats 1000000 in
theorem copyRedeemers {w0:World} (v:Value) (hr:Rd w0 156 [v]) (w:World) (hm:Mod N0 w0 w):Calls Tryz.prog 110 #[v] w fun e w'=>CpS w0 5 156 w v e w':=by
 obtain ⟨a,len,cap,rfl,hb,_,hel⟩:=hr.slice Tryz.underlying156 zc269 (by omega)
 rw [zbo269] at hb
 obtain ⟨z,hzv,hinf,hzs⟩:=zi269
 have HE:=hh hel
 have HM:=hh hm
 have HZ:=hh (And.intro hzv (And.intro hinf hzs))
 have hb2:len * 56<=140737488351232:=hb
 clear hel hm hzv hinf hzs hr hb
 go_enter Tryz.func110,Tryz.ntmps110
 go_wp2_with fail
 go_loopw [3,4] (fun v3 i wr=>∃ (k:Nat) (v':Value) (rows:List (List Value)),k<=len/\v'=v3/\i=.int .i64 k/\rows.length=k/\CL w0 w 4 269 5 a v' rows wr) (fun _ i _=>len - (intOf i).toNat)
 case atStart=>exact ⟨0,_,[],by omega,rfl,rfl,rfl,CL.nil HM.out⟩
 case round=>
  obtain ⟨k,v3,rows,hk,rfl,rfl,hrl,hcl⟩:=hrel
  have HCL:=hh hcl
  have HRL:=hh hrl
  clear hcl hrl
  by_cases hlt:k<len
  ·obtain ⟨L,off,ds,rfl,hL,hl,hrd,hc⟩:=HE.out k hlt
   have hld:(loadVar 269 ⟨L,off+k * 5,none⟩).run Tryz.prog wr=.ok (.agg ds.toArray) wr:=by
    have:=load_mid (w:=wr) (p:=off+k * 5) (fun j u hu=>((HM.out.tr HCL.out.mod).cell (p:=⟨L,_,none⟩) hL (fun q=>q)).trans (hc j u hu)) 269 0 5 _ Tryz.underlying269 rfl zs269 (by omega)
    rw [List.drop_zero,List.take_of_length_le (by omega),Nat.add_zero] at this
    exact this
   have HLD:=hh hld
   have HCC:=hh (copyRedeemer ds hrd wr (HM.out.tr HCL.out.mod))
   have HS:=hh (And.intro hL (And.intro hl (And.intro hrd hc)))
   clear hld hL hl hrd hc
   go_wp2_with (refine wpList_exec rfl (exec_load_pt _ _ 269 _ rfl ⟨L,off+k * 5,none⟩ rfl HLD.out) ?_)
   refine HCC.out.mono ?_
   rintro e w2 ⟨cs',rfl,one,heq,hm2⟩
   rename_i hK
   refine hK _ _ ?_
   clear hK
   (try simp only [Act.put,ja,jb,jc])
   have hcl':cs'.length=5:=by
    obtain ⟨_,_,_,h,_⟩:=heq.struct rfl Tryz.underlying269
    rw [h,zc269]
   have hst:=run_storeVar_row (P:=Tryz.prog) (w2.alloc (.cells z 269)) w2.heap.size 269 269 z cs'.toArray (newB w2 _) (by rw [zs269]; simp [hcl']) (by rw [HZ.out.2.2]; simp [hcl']) (by rw [List.all_toArray,List.all_eq_true]; exact one)
   have hR:=setRow_same (cs:=cs'.toArray) (newB w2 (.cells z 269))
   have hmr:Mod N0 w2 ((w2.alloc (.cells z 269)).setRow w2.heap.size cs'.toArray):=Mod_setRow ((Mod.refl _ w2).alloc (.cells z 269)) (b:=w2.heap.size) (fun q=>by omega) _
   generalize (w2.alloc (.cells z 269)).setRow w2.heap.size cs'.toArray=w3 at hst hR hmr
   have hld3:=load_box hR 269 0 5 _ Tryz.underlying269 rfl zs269 (by omega)
   rw [List.drop_zero,List.take_of_length_le (by omega)] at hld3
   have HST:=hh (And.intro hst hld3)
   have HQ:=hh (And.intro heq (And.intro one (And.intro hcl' (And.intro hm2 hmr))))
   clear hst hR hmr hld3 heq one hcl' hm2
   refine ww (exec_alloc _ _ 269 z rfl HZ.out.1) ?_
   refine wpList_execS rfl (exec_store_pt _ _ rfl rfl rfl HST.out.1) ?_
   (try simp only [Act.put])
   go_upto_region 6 with fail
   refine wp_region_lit ?_
   refine ex (v:=v3) ?_
   refine wx (exec_load_pt _ _ 269 _ rfl ⟨w2.heap.size,0,none⟩ rfl HST.out.2) ?_
   obtain ⟨i,hi,hz0,hz1,hz2⟩:=info_parts HZ.out.2.1
   have hsl:∀ (act:Act) (o:Oper) (x:Operand),o.op=.buildSlice 156 1 #[(0,x)]->act.eval x=.agg cs'.toArray->(execOp act.eval o).run Tryz.prog w3=.ok (.value (.slice (some ⟨w3.heap.size,0,none⟩) 1 1)) (w3.alloc (.cells cs'.toArray 269)):=by
    intro act o x ho hx
    have:=exec_slicesL act o (w:=w3) [(0,x)] ho [.agg cs'.toArray] (by simp [hx]) (E:=269) (s:=5) Tryz.underlying156 hi hz0 hz1 (by omega) rfl (by omega) (by omega) (by intro y hy; simp at hy; subst hy; simpa [Value.cells] using HQ.out.2.2.1)
    simpa [Value.cells] using this
   refine ww (hsl _ _ _ rfl rfl) ?_
   clear hsl
   have hN:=row_cells (newB w3 (.cells cs'.toArray 269))
   have hmA:Mod N0 wr (w3.alloc (.cells cs'.toArray 269)):=((HQ.out.2.2.2.1.tr HQ.out.2.2.2.2)).alloc _
   have hqA:=EqX.keep (Q':=fun q=>wr.heap.size<=q) HQ.out.1 (HQ.out.2.2.2.2.alloc (.cells cs'.toArray 269)) (fun q e=>e.elim) (fun q _ h=>h) (Nat.le_refl _)
   generalize w3.alloc (.cells cs'.toArray 269)=w4 at hN hmA hqA ⊢
   generalize w3.heap.size=g3 at hN ⊢
   have HN:=hh hN
   have HA:=hh (And.intro hmA hqA)
   have HO:=hh (ownsRow_block HCL.out.own (fun q hq=>hmA.block q (ownsRow_lt HCL.out.own hq) (fun e=>e)))
   clear hN hmA hqA
   refine wpList_append_at _ rfl _ _ 156 rfl 269 i _ 5 56 Tryz.underlying156 hi hz0 hz1 hz2 (by simpa [Value.cells] using HZ.out.2.2) (by decide) v3 rows.length rows.flatten rfl HO.out ⟨g3,0,none⟩ 1 1 cs' rfl (by rw [HQ.out.2.2.1]) HN.out HQ.out.2.1 (by have:=HRL.out; simp only [maxLen]; omega) (by have:=HRL.out; omega) ?_
   intro v6 w6 ho6 hg6 hat6
   have HF:=hh (HCL.out.more (k:=k) HRL.out rfl HS.out.1 HS.out.2.1 HS.out.2.2.1 HS.out.2.2.2 HA.out.1 HQ.out.2.2.1 HA.out.2 ho6 hg6 hat6)
   clear ho6 hg6 hat6 hi hz0 hz1 hz2
   (try simp only [Act.put,ja,jb,jc])
   go_wp2_with fail
   go_roundw
   case rel=>exact ⟨k+1,_,_,by omega,rfl,by simp,by rw [List.length_append,HRL.out]; rfl,HF.out⟩
   case measure=>simp [intOf]; omega
  ·have e:k=len:=by omega
   subst e
   have HF:=hh (HCL.out.fin (t:=156) (cap:=cap) rfl Tryz.underlying156 zc269 (by omega) HM.out)
   rw [HRL.out] at HF
   go_wp2_with fail
   go_ret
   exact ⟨_,rfl,HF.out.1,HF.out.2,HCL.out.mod⟩
set_option maxRecDepth 100000 in
set_option maxHeartbeats 1000000 in
theorem copySignature {w0:World} (cs:List Value) (hr:Rd w0 275 cs) (w:World) (hm:Mod N0 w0 w):Calls Tryz.prog 163 #[.agg cs.toArray] w fun e w'=>CpR w0 3 275 w cs e w':=by
 have hl:=hr.len Tryz.underlying275
 rw [zc275] at hl
 obtain ⟨u0,hu0,hru0⟩:=hr.cellAt Tryz.underlying275 0 rfl 248 0 rfl rfl zc248 zc275 (by omega)
 obtain ⟨a0,l0,c0,rfl,_⟩:=id (hru0.slice Tryz.underlying248 zc27 (by omega))
 have HU0:=hh hu0
 have HR0:=hh hru0
 clear hu0 hru0
 obtain ⟨z,hzv,_,hzs⟩:=zi275
 have hA0:((w.alloc (.cells cs.toArray 275)).alloc (.cells z 275)).heap[w.heap.size]?=some (.cells cs.toArray 275 (0,0)):=allocB (newB w _) _
 have hZ0:((w.alloc (.cells cs.toArray 275)).alloc (.cells z 275)).heap[w.heap.size+1]?=some (.cells z 275 (0,0)):=by
  have:=newB (w.alloc (.cells cs.toArray 275)) (.cells z 275); rwa [World.size_alloc] at this
 have hM0:Mod N0 w ((w.alloc (.cells cs.toArray 275)).alloc (.cells z 275)):=((Mod.refl _ w).alloc _).alloc _
 have HZV:=hh (And.intro hzv hzs)
 have HL:=hh hl
 have HM:=hh hm
 have HON:=hh (ones275 hr)
 have HN:=hh hm.size
 clear hzv hzs hl hm hr
 go_enter Tryz.func163,Tryz.ntmps163
 go_upto_region 0 with fail
 refine wp_region_lit ?_
 refine ww (exec_box _ _ 275 cs rfl rfl) ?_
 refine ww (exec_alloc _ _ 275 z rfl HZV.out.1) ?_
 rw [World.size_alloc]
 generalize (w.alloc (.cells cs.toArray 275)).alloc (.cells z 275)=w1 at hA0 hZ0 hM0 ⊢
 have HA0:=hh hA0
 have HZ0:=hh hZ0
 have HM0:=hh hM0
 clear hA0 hZ0 hM0
 go_upto_region 1 with fail
 refine wp_region_lit ?_
 refine ex (v:=.pointer (some ⟨w.heap.size,0,none⟩)) ?_
 have hsub:(cs.drop 0).take 1=(cs.drop 0).take 1:=by
  rfl
 have hc:cs[0]?=some (.slice a0 l0 c0):=flat_cell hsub HU0.out
 have s:w1.cell? ⟨w.heap.size,0,none⟩=some (.slice a0 l0 c0):=(cellB HA0.out 0).trans (by rw [List.getElem?_toArray]; exact hc)
 refine ex (v:=.slice a0 l0 c0) ?_
 clear s hc
 clear hsub
 have HCC:=hh (copyHashes (.slice a0 l0 c0) HR0.out w1 (HM.out.tr HM0.out))
 go_wp2_with fail
 refine HCC.out.mono ?_
 rintro e w1x ⟨x0,rfl,one0,heq0,hm0⟩
 rename_i hK
 refine hK _ _ ?_
 clear hK
 (try simp only [Act.put,ja,jb,jc])
 obtain ⟨_,_,sa,xa0,sl,sc,xc0,hsl,rfl,_⟩:=id (heq0.slice rfl Tryz.underlying248 zc27)
 simp only [Value.slice.injEq] at hsl
 obtain ⟨hsa,rfl,hsc⟩:=hsl
 clear hsa hsc
 have hAx:=(hm0.block _ (ltB HA0.out) (fun q=>q)).trans HA0.out
 have hZx:=(hm0.block _ (ltB HZ0.out) (fun q=>q)).trans HZ0.out
 have hMx:=HM0.out.tr hm0
 have hst:=store_slice248 (w:=w1x) (a:=xa0) (n:=l0) (c:=xc0) ((cellB hAx 0).trans (by rw [List.getElem?_toArray]; exact List.getElem?_eq_getElem (by rw [HL.out]; omega))) (frozB hAx 0)
 have hAn:=setCell_box hAx 0 (.slice xa0 l0 xc0) (by rw [HL.out]; omega)
 have hmn:Mod (fun q=>q=w.heap.size) w1x (w1x.setCell ⟨w.heap.size,0,none⟩ (.slice xa0 l0 xc0)):=(Mod.refl (fun q=>q=w.heap.size) w1x).setCell (p:=⟨w.heap.size,0,none⟩) (fun _=>rfl) _
 generalize (w1x.setCell ⟨w.heap.size,0,none⟩ (.slice xa0 l0 xc0))=w2 at hst hAn hmn
 have hZn:=(hmn.block _ (ltB hZx) (fun q=>by omega)).trans hZx
 have hMn:Mod N0 w w2:=hMx.trans hmn (fun q e hl=>by omega)
 have HQ0:=hh (EqX.keep (Q':=fun q=>w.heap.size+1<q) heq0 hmn (fun q e=>by subst e; exact ⟨HN.out,fun h=>by have:=ltB HA0.out; omega⟩) (fun q _ h=>by have:=ltB HZ0.out; first|omega|(simp only at h ⊢; omega)) (show 2<=2 by omega))
 have HA1:=hh hAn
 have HZ1:=hh hZn
 have HM1:=hh hMn
 have HPL1:=hh (show (patch cs 0 [.slice xa0 l0 xc0]).length=1 from (patch_length (by rw [show ([.slice xa0 l0 xc0]:List Value).length=1 from rfl,HL.out]; omega)).trans HL.out)
 have HXL0:=hh (show ([.slice xa0 l0 xc0]:List Value).length=1 from rfl)
 have HX10:=hh (show ∀ u∈([.slice xa0 l0 xc0]:List Value),u.oneCell'=true from fun u hu=>by simp at hu; subst hu; rfl)
 have HST:=hh hst
 clear hAx hZx hMx hAn hmn hZn hMn hst heq0 hm0 one0 HCC
 refine ex (v:=.pointer (some ⟨w.heap.size,0,none⟩)) ?_
 refine wpList_execS rfl (exec_store_pt _ _ rfl rfl rfl HST.out) ?_
 (try simp only [Act.put])
 clear HST
 have hld:=load_box HA1.out 275 0 1 _ Tryz.underlying275 rfl zs275 (by rw [HPL1.out]; omega)
 rw [List.drop_zero,List.take_of_length_le (by rw [HPL1.out]; omega)] at hld
 have hon:∀ u∈(patch cs 0 [.slice xa0 l0 xc0]),u.oneCell'=true:=(patch_ones HON.out HX10.out)
 have hst:=run_storeVar_row (P:=Tryz.prog) w2 (w.heap.size+1) 275 275 z (patch cs 0 [.slice xa0 l0 xc0]).toArray HZ1.out (by rw [zs275]; simp [HPL1.out]) (by rw [HZV.out.2]; simp [HPL1.out]) (by rw [List.all_toArray,List.all_eq_true]; exact hon)
 have hR:=setRow_same (cs:=(patch cs 0 [.slice xa0 l0 xc0]).toArray) HZ1.out
 have hmr:Mod (fun q=>q=w.heap.size+1) w2 (w2.setRow (w.heap.size+1) (patch cs 0 [.slice xa0 l0 xc0]).toArray):=Mod_setRow (Mod.refl (fun q=>q=w.heap.size+1) w2) (fun _=>rfl) _
 generalize w2.setRow (w.heap.size+1) (patch cs 0 [.slice xa0 l0 xc0]).toArray=wf at hst hR hmr
 have hmf:Mod N0 w wf:=HM1.out.trans hmr (fun q e hl=>by omega)
 have HQ0:=hh (EqX.keep (Q':=fun q=>w.heap.size<=q) HQ0.out hmr (fun q e=>by subst e; exact ⟨by have:=HN.out; omega,fun h=>by first|omega|(simp only at h; omega)⟩) (fun q _ h=>by first|omega|(simp only at h ⊢; omega)) (Nat.le_refl _))
 have hret:=load_box hR 275 0 1 _ Tryz.underlying275 rfl zs275 (by rw [HPL1.out]; omega)
 rw [List.drop_zero,List.take_of_length_le (by rw [HPL1.out]; omega)] at hret
 have HF:=hh (And.intro hst (And.intro hret (And.intro hmf (And.intro hon hld))))
 clear hst hR hmr hmf hon hld hret
 go_upto_region 2 with fail
 refine wp_region_lit ?_
 refine wx (exec_load_pt _ _ 275 _ rfl ⟨w.heap.size,0,none⟩ rfl HF.out.2.2.2.2) ?_
 refine wpList_execS rfl (exec_store_pt _ _ rfl rfl rfl HF.out.1) ?_
 (try simp only [Act.put])
 go_wp2_with fail
 refine bodyPost_ret (v:=.agg (patch cs 0 [.slice xa0 l0 xc0]).toArray) (resC163 rfl HF.out.2.1) rfl ⟨(patch cs 0 [.slice xa0 l0 xc0]),rfl,HF.out.2.2.2.1,?_,HF.out.2.2.1⟩
 refine Eqv.structI (n:=2) rfl Tryz.underlying275 (by rw [zc275]; exact HL.out) (by rw [zc275]; exact HPL1.out) (fun i f hf=>?_)
 match i,hf with
|0,hf=>
  have e:((patch cs 0 [.slice xa0 l0 xc0]).drop 0).take 1=[.slice xa0 l0 xc0]:=by
   exact patch_same' HXL0.out _ _ (by have:=HL.out; omega)
  exact eqx_put hf 248 0 1 rfl rfl zc248 (by rw [e,take_one HU0.out]; exact HQ0.out)
|i+1,hf=>simp at hf
set_option maxRecDepth 100000 in
set_option maxHeartbeats 1000000 in
theorem copySignatures {w0:World} (v:Value) (hr:Rd w0 153 [v]) (w:World) (hm:Mod N0 w0 w):Calls Tryz.prog 107 #[v] w fun e w'=>CpS w0 4 153 w v e w':=by
 obtain ⟨a,len,cap,rfl,hb,_,hel⟩:=hr.slice Tryz.underlying153 zc275 (by omega)
 rw [zbo275] at hb
 obtain ⟨z,hzv,hinf,hzs⟩:=zi275
 have HE:=hh hel
 have HM:=hh hm
 have HZ:=hh (And.intro hzv (And.intro hinf hzs))
 have hb2:len * 24<=140737488351232:=hb
 clear hel hm hzv hinf hzs hr hb
 go_enter Tryz.func107,Tryz.ntmps107
 go_wp2_with fail
 go_loopw [3,4] (fun v3 i wr=>∃ (k:Nat) (v':Value) (rows:List (List Value)),k<=len/\v'=v3/\i=.int .i64 k/\rows.length=k/\CL w0 w 3 275 1 a v' rows wr) (fun _ i _=>len - (intOf i).toNat)
 case atStart=>exact ⟨0,_,[],by omega,rfl,rfl,rfl,CL.nil HM.out⟩
 case round=>
  obtain ⟨k,v3,rows,hk,rfl,rfl,hrl,hcl⟩:=hrel
  have HCL:=hh hcl
  have HRL:=hh hrl
  clear hcl hrl
  by_cases hlt:k<len
  ·obtain ⟨L,off,ds,rfl,hL,hl,hrd,hc⟩:=HE.out k hlt
   have hld:(loadVar 275 ⟨L,off+k,none⟩).run Tryz.prog wr=.ok (.agg ds.toArray) wr:=by
    have:=load_mid (w:=wr) (p:=off+k * 1) (fun j u hu=>((HM.out.tr HCL.out.mod).cell (p:=⟨L,_,none⟩) hL (fun q=>q)).trans (hc j u hu)) 275 0 1 _ Tryz.underlying275 rfl zs275 (by omega)
    rw [List.drop_zero,List.take_of_length_le (by omega),Nat.add_zero] at this; simp only [Nat.mul_one] at this
    exact this
   have HLD:=hh hld
   have HCC:=hh (copySignature ds hrd wr (HM.out.tr HCL.out.mod))
   have HS:=hh (And.intro hL (And.intro hl (And.intro hrd hc)))
   clear hld hL hl hrd hc
   go_wp2_with (refine wpList_exec rfl (exec_load_pt _ _ 275 _ rfl ⟨L,off+k,none⟩ rfl HLD.out) ?_)
   refine HCC.out.mono ?_
   rintro e w2 ⟨cs',rfl,one,heq,hm2⟩
   rename_i hK
   refine hK _ _ ?_
   clear hK
   (try simp only [Act.put,ja,jb,jc])
   have hcl':cs'.length=1:=by
    obtain ⟨_,_,_,h,_⟩:=heq.struct rfl Tryz.underlying275
    rw [h,zc275]
   have hst:=run_storeVar_row (P:=Tryz.prog) (w2.alloc (.cells z 275)) w2.heap.size 275 275 z cs'.toArray (newB w2 _) (by rw [zs275]; simp [hcl']) (by rw [HZ.out.2.2]; simp [hcl']) (by rw [List.all_toArray,List.all_eq_true]; exact one)
   have hR:=setRow_same (cs:=cs'.toArray) (newB w2 (.cells z 275))
   have hmr:Mod N0 w2 ((w2.alloc (.cells z 275)).setRow w2.heap.size cs'.toArray):=Mod_setRow ((Mod.refl _ w2).alloc (.cells z 275)) (b:=w2.heap.size) (fun q=>by omega) _
   generalize (w2.alloc (.cells z 275)).setRow w2.heap.size cs'.toArray=w3 at hst hR hmr
   have hld3:=load_box hR 275 0 1 _ Tryz.underlying275 rfl zs275 (by omega)
   rw [List.drop_zero,List.take_of_length_le (by omega)] at hld3
   have HST:=hh (And.intro hst hld3)
   have HQ:=hh (And.intro heq (And.intro one (And.intro hcl' (And.intro hm2 hmr))))
   clear hst hR hmr hld3 heq one hcl' hm2
   refine ww (exec_alloc _ _ 275 z rfl HZ.out.1) ?_
   refine wpList_execS rfl (exec_store_pt _ _ rfl rfl rfl HST.out.1) ?_
   (try simp only [Act.put])
   go_upto_region 6 with fail
   refine wp_region_lit ?_
   refine ex (v:=v3) ?_
   refine wx (exec_load_pt _ _ 275 _ rfl ⟨w2.heap.size,0,none⟩ rfl HST.out.2) ?_
   obtain ⟨i,hi,hz0,hz1,hz2⟩:=info_parts HZ.out.2.1
   have hsl:∀ (act:Act) (o:Oper) (x:Operand),o.op=.buildSlice 153 1 #[(0,x)]->act.eval x=.agg cs'.toArray->(execOp act.eval o).run Tryz.prog w3=.ok (.value (.slice (some ⟨w3.heap.size,0,none⟩) 1 1)) (w3.alloc (.cells cs'.toArray 275)):=by
    intro act o x ho hx
    have:=exec_slicesL act o (w:=w3) [(0,x)] ho [.agg cs'.toArray] (by simp [hx]) (E:=275) (s:=1) Tryz.underlying153 hi hz0 hz1 (by omega) rfl (by omega) (by omega) (by intro y hy; simp at hy; subst hy; simpa [Value.cells] using HQ.out.2.2.1)
    simpa [Value.cells] using this
   refine ww (hsl _ _ _ rfl rfl) ?_
   clear hsl
   have hN:=row_cells (newB w3 (.cells cs'.toArray 275))
   have hmA:Mod N0 wr (w3.alloc (.cells cs'.toArray 275)):=((HQ.out.2.2.2.1.tr HQ.out.2.2.2.2)).alloc _
   have hqA:=EqX.keep (Q':=fun q=>wr.heap.size<=q) HQ.out.1 (HQ.out.2.2.2.2.alloc (.cells cs'.toArray 275)) (fun q e=>e.elim) (fun q _ h=>h) (Nat.le_refl _)
   generalize w3.alloc (.cells cs'.toArray 275)=w4 at hN hmA hqA ⊢
   generalize w3.heap.size=g3 at hN ⊢
   have HN:=hh hN
   have HA:=hh (And.intro hmA hqA)
   have HO:=hh (ownsRow_block HCL.out.own (fun q hq=>hmA.block q (ownsRow_lt HCL.out.own hq) (fun e=>e)))
   clear hN hmA hqA
   refine wpList_append_at _ rfl _ _ 153 rfl 275 i _ 1 24 Tryz.underlying153 hi hz0 hz1 hz2 (by simpa [Value.cells] using HZ.out.2.2) (by decide) v3 rows.length rows.flatten rfl HO.out ⟨g3,0,none⟩ 1 1 cs' rfl (by rw [HQ.out.2.2.1]) HN.out HQ.out.2.1 (by have:=HRL.out; simp only [maxLen]; omega) (by have:=HRL.out; omega) ?_
   intro v6 w6 ho6 hg6 hat6
   have HF:=hh (HCL.out.more (k:=k) HRL.out rfl HS.out.1 HS.out.2.1 HS.out.2.2.1 HS.out.2.2.2 HA.out.1 HQ.out.2.2.1 HA.out.2 ho6 hg6 hat6)
   clear ho6 hg6 hat6 hi hz0 hz1 hz2
   (try simp only [Act.put,ja,jb,jc])
   go_wp2_with fail
   go_roundw
   case rel=>exact ⟨k+1,_,_,by omega,rfl,by simp,by rw [List.length_append,HRL.out]; rfl,HF.out⟩
   case measure=>simp [intOf]; omega
  ·have e:k=len:=by omega
   subst e
   have HF:=hh (HCL.out.fin (t:=153) (cap:=cap) rfl Tryz.underlying153 zc275 (by omega) HM.out)
   rw [HRL.out] at HF
   go_wp2_with fail
   go_ret
   exact ⟨_,rfl,HF.out.1,HF.out.2,HCL.out.mod⟩
end Go.Proofs.YtckcamlicgdklaaGreat
