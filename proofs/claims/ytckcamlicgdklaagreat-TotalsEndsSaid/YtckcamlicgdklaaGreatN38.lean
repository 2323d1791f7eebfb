/- The references of chapter 5: put. -/
import Derived.Test.YtckcamlicgdklaaGreatN37
namespace Go.Proofs.YtckcamlicgdklaaGreat
open Go.RowKit Go.Mo Go.Sort
set_option maxRecDepth 100000 in
set_option maxHeartbeats 2000000 in
theorem put_calls (w:World) (v:Value) (ds:Tl) (x:Nm×Int) (h:TotsAt w v ds) (hn:ds.length<=900000):Calls Tryz.prog 58 #[v,.agg (totCells x).toArray] w fun e w'=>∃ v',e=.returned v'/\OutAt w w' v' (putL ds x)/\Mod N0 w w':=by
 obtain ⟨a,c,rfl,_,hl,hel⟩:=h
 have hbx:=newB w (.cells (totCells x).toArray 78)
 have hmx:=(Mod.refl N0 w).alloc (.cells (totCells x).toArray 78)
 have hsx:(w.alloc (.cells (totCells x).toArray 78)).heap.size=w.heap.size+1:=by simp
 have HE:=hh hel
 have HN0:=hh hn
 clear hel hn
 go_enter Tryz.func58,Tryz.ntmps58
 go_upto_region 0 with fail
 refine wp_region_lit ?_
 refine ww (exec_box _ _ 78 (totCells x) rfl rfl) ?_
 generalize w.alloc (.cells (totCells x).toArray 78)=w1 at hbx hmx hsx ⊢
 have HB:=hh (And.intro hbx (And.intro hmx hsx))
 clear hbx hmx hsx
 have HXL:=hh (fun (W:World) (hW:Mod N0 w1 W)=>tot_loads (o:=0) (box_tot ((hW.block _ (ltB HB.out.1) (fun q=>q)).trans HB.out.1)))
 go_wp2_with fail
 go_loopw [5,6,7] (fun v5 bd i wr=>∃ (k:Nat) (v':Value) (ts:Tl) (b:Bool),k<=ds.length/\v'=v5/\bd=.bool b/\i=.int .i64 k/\putTo x (ds.take k)=(ts,b)/\OutAt w wr v' ts/\Mod N0 w1 wr) (fun _ _ i _=>ds.length - (intOf i).toNat)
 case atStart=>exact ⟨0,_,[],false,by omega,rfl,rfl,rfl,rfl,OutAt.nil w w1,Mod.refl _ w1⟩
 case round=>
  obtain ⟨k,v5,ts,b,hk,rfl,rfl,rfl,hts,ho,hm⟩:=hrel
  have HO5:=hh ho
  have HM:=hh hm
  have HTS:=hh hts
  have HTL:=hh (show ts.length<=k+1 by have:=putTo_lt x (ds.take k); rw [hts] at this; simp at this; omega)
  clear ho hm hts
  by_cases hlt:k<ds.length
  ·obtain ⟨y,hy⟩:∃ y,ds[k]?=some y:=⟨_,List.getElem?_eq_getElem hlt⟩
   obtain ⟨L,off,rfl,hL,hc⟩:=HE.out k y hy
   have HLD:=hh (fun (W:World) (hW:Mod N0 w1 W)=>tot_loads (w:=W) (o:=off+k * 35) (fun j u hu=>((HB.out.2.1.tr hW).cell (p:=⟨L,_,none⟩) hL (fun q=>q)).trans (hc j u hu)))
   have HP:=hh (putTo_snoc hy HTS.out)
   clear hc hy
   go_upto_region 6 with fail
   refine wp_region_held_drew (S:=fun W=>Mod N0 w1 W) (by kernel_rfl) HM.out.drew (fun hH=>?_)
   refine tq (i:=0) (oi:=⟨some 16,.fieldAddr 78 (.tmp 3) 0,0, "ref.go:118",#[],none⟩) (v:=.pointer (some ⟨w.heap.size,0,none⟩)) hH ?_
   refine tk (i:=1) (oi:=⟨some 17,.load 27 (.tmp 16),27, "ref.go:118",#[⟨0,.data⟩],none⟩) (v:=.agg (x.1.policy.map by8).toArray) hH (fun w' hSw=>by exact exec_load_pt _ _ 27 _ rfl ⟨w.heap.size,0,none⟩ rfl ((HXL.out _ hSw).1)) ?_
   refine tq (i:=2) (oi:=⟨some 18,.fieldAddr 78 (.tmp 3) 1,0, "ref.go:118",#[],none⟩) (v:=.pointer (some ⟨w.heap.size,32,none⟩)) hH ?_
   refine tk (i:=3) (oi:=⟨some 19,.load 9 (.tmp 18),9, "ref.go:118",#[⟨2,.data⟩],none⟩) (v:=.string ⟨x.1.name.toArray⟩) hH (fun w' hSw=>by exact exec_load_pt _ _ 9 _ rfl ⟨w.heap.size,32,none⟩ rfl (by simpa using (HXL.out _ hSw).2.1)) ?_
   refine tq (i:=4) (oi:=⟨some 20,.move (.tmp 0),33, "ref.go:118",#[],none⟩) (v:=.slice (some ⟨L,off,none⟩) ds.length c) hH ?_
   refine tq (i:=5) (oi:=⟨some 21,.move (.tmp 7),3, "ref.go:118",#[],none⟩) (v:=.int .i64 k) hH ?_
   refine tq (i:=6) (oi:=⟨some 22,.indexAddr 33 (.tmp 20) (.tmp 21),0, "ref.go:118",#[⟨4,.data⟩,⟨5,.data⟩],none⟩) (v:=.pointer (some ⟨L,off+k * 35,none⟩)) hH ?_
   refine tq (i:=7) (oi:=⟨some 23,.fieldAddr 78 (.tmp 22) 0,0, "ref.go:118",#[⟨6,.data⟩],none⟩) (v:=.pointer (some ⟨L,off+k * 35,none⟩)) hH ?_
   refine tk (i:=8) (oi:=⟨some 24,.load 27 (.tmp 23),27, "ref.go:118",#[⟨7,.data⟩],none⟩) (v:=.agg (y.1.policy.map by8).toArray) hH (fun w' hSw=>by exact exec_load_pt _ _ 27 _ rfl ⟨L,off+k * 35,none⟩ rfl ((HLD.out _ hSw).1)) ?_
   refine tq (i:=9) (oi:=⟨some 25,.move (.tmp 0),33, "ref.go:118",#[],none⟩) (v:=.slice (some ⟨L,off,none⟩) ds.length c) hH ?_
   refine tq (i:=10) (oi:=⟨some 26,.move (.tmp 7),3, "ref.go:118",#[],none⟩) (v:=.int .i64 k) hH ?_
   refine tq (i:=11) (oi:=⟨some 27,.indexAddr 33 (.tmp 25) (.tmp 26),0, "ref.go:118",#[⟨9,.data⟩,⟨10,.data⟩],none⟩) (v:=.pointer (some ⟨L,off+k * 35,none⟩)) hH ?_
   refine tq (i:=12) (oi:=⟨some 28,.fieldAddr 78 (.tmp 27) 1,0, "ref.go:118",#[⟨11,.data⟩],none⟩) (v:=.pointer (some ⟨L,off+k * 35+32,none⟩)) hH ?_
   refine tk (i:=13) (oi:=⟨some 29,.load 9 (.tmp 28),9, "ref.go:118",#[⟨12,.data⟩],none⟩) (v:=.string ⟨y.1.name.toArray⟩) hH (fun w' hSw=>by exact exec_load_pt _ _ 9 _ rfl ⟨L,off+k * 35+32,none⟩ rfl ((HLD.out _ hSw).2.1)) ?_
   refine tr (rs:=[14]) ?_
   refine AllReadyH.cons (o:=⟨some 30,.call {callee:=.value (.func 114),args:=#[.tmp 17,.tmp 19,.tmp 24,.tmp 29],argTypes:=#[27,9,27,9]},3, "ref.go:118",#[⟨1,.data⟩,⟨3,.data⟩,⟨8,.data⟩,⟨13,.data⟩],none⟩) rfl (fun K hK=>?_) AllReadyH.nil
   go_simp
   refine (refOrder_calls x.1 y.1 wr.drew).mono ?_
   rintro e w2 ⟨rfl,hm2⟩
   have HM2:=hh ((HM.out.drew).tr hm2)
   have HMr:=hh (((Mod.refl N0 wr).drew).tr hm2)
   clear hm2
   refine hK.out _ _ HM2.out (fun hH=>?_)
   clear hK K
   (try simp only [Act.put,ja,jb,jc])
   refine tq (i:=15) (oi:=⟨some 8,.assign (.tmp 30),3, "ref.go:118",#[⟨14,.data⟩,⟨14,.chain⟩,⟨0,.phase⟩,⟨1,.phase⟩,⟨2,.phase⟩,⟨3,.phase⟩,⟨4,.phase⟩,⟨5,.phase⟩,⟨6,.phase⟩,⟨7,.phase⟩,⟨8,.phase⟩,⟨9,.phase⟩,⟨10,.phase⟩,⟨11,.phase⟩,⟨12,.phase⟩,⟨13,.phase⟩,⟨14,.phase⟩],none⟩) (v:=.int .i64 (ordN x.1 y.1)) hH ?_
   refine wpAnyH_done (by kernel_rfl) ?_ _
   have HO2:=hh (HO5.out.tr HMr.out (fun _ _ q=>q))
   clear HMr HO5 HM
   have HPS:=hh (show putStep x (ts,b) y=if ordN x.1 y.1<0 then (if b then (ts ++ [y],true) else (ts ++ [x] ++ [y],true)) else if ordN x.1 y.1=0 then (ts ++ [(y.1,y.2+x.2)],true) else (ts ++ [y],b) from rfl)
   generalize ordN x.1 y.1=cc at HPS ⊢
   rcases Int.lt_trichotomy cc 0 with h0|h0|h0
   ·cases b with
   |true=>
     have HR:=hh (show putTo x (ds.take (k+1))=(ts ++ [y],true) by rw [HP.out,HPS.out]; rw [if_pos h0]; rfl)
     clear HP HPS
     have d1:decide (cc<0)=true:=by simp; omega
     have d2:(cc == 0)=false:=by simp; omega
     clear h0
     go_upto_region 10 with fail
     refine wp_region_lit ?_
     refine ex (v:=.slice (some ⟨L,off,none⟩) ds.length c) ?_
     refine ex (v:=.int .i64 k) ?_
     refine ex (v:=.pointer (some ⟨L,off+k * 35,none⟩)) ?_
     refine wx (exec_load_pt _ _ 78 _ rfl ⟨L,off+k * 35,none⟩ rfl (HLD.out _ HM2.out).2.2.2) ?_
     obtain ⟨z,hzv,hzs⟩:=zi78'
     have hst:=run_storeVar_row (P:=Tryz.prog) (w2.alloc (.cells z 78)) w2.heap.size 78 78 z (totCells y).toArray (newB w2 _) (by rw [zs78]; simp [totCells_length]) (by rw [hzs]; simp [totCells_length]) (by rw [List.all_toArray,List.all_eq_true]; exact totCells_one y)
     have hR:=setRow_same (cs:=(totCells y).toArray) (newB w2 (.cells z 78))
     have hmr:Mod N0 w2 ((w2.alloc (.cells z 78)).setRow w2.heap.size (totCells y).toArray):=Mod_setRow ((Mod.refl _ w2).alloc (.cells z 78)) (b:=w2.heap.size) (fun q=>by omega) _
     refine ww (exec_alloc _ _ 78 z rfl hzv) ?_
     generalize (w2.alloc (.cells z 78)).setRow w2.heap.size (totCells y).toArray=w3 at hst hR hmr
     refine wpList_execS rfl (exec_store_pt _ _ rfl rfl rfl hst) ?_
     (try simp only [Act.put])
     have HM3:=hh ((HM2.out).tr hmr)
     have HO3:=hh ((HO2.out).tr hmr (fun _ _ q=>q))
     have hyb:w.heap.size<w2.heap.size:=by have:=(HM2.out).size; have:=HB.out.2.2; omega
     have hyo:∀ q,v5.ownBlock=some q->q<w2.heap.size:=fun q hq=>ownsRow_lt (HO2.out).1 hq
     generalize w2.heap.size=yb at hR hyb hyo ⊢
     have HR3:=hh (And.intro hR (And.intro hyb hyo))
     clear hst hR hmr hzv hzs hyb hyo
     go_upto_region 14 with fail
     refine wp_region_lit ?_
     refine ex (v:=v5) ?_
     refine wx (exec_load_pt _ _ 78 _ rfl ⟨yb,0,none⟩ rfl (tot_loads (o:=0) (box_tot HR3.out.1)).2.2.2) ?_
     refine ww (exec_slice1 _ _ rfl y rfl) ?_
     have hN:=one_at (newB w3 (.cells (totCells y).toArray 78))
     have hmA:=(Mod.refl N0 w3).alloc (.cells (totCells y).toArray 78)
     have hszA:(w3.alloc (.cells (totCells y).toArray 78)).heap.size=w3.heap.size+1:=by simp
     generalize w3.alloc (.cells (totCells y).toArray 78)=wa at hN hmA hszA ⊢
     generalize hga:w3.heap.size=ga at hN hszA ⊢
     have HN:=hh (And.intro hN (And.intro hmA (And.intro hszA hga)))
     have HO:=hh ((HO3.out).tr hmA (fun _ _ q=>q))
     clear hN hmA hszA hga
     refine wpList_append_tots rfl _ _ rfl rfl rfl HO.out.1 HN.out.1 (by have:=HTL.out; have:=HN0.out; omega) ?_
     intro v6 w6 ho6 hg6 hat6
     have HF:=hh (OutAt.push HO.out ((HM3.out).tr HN.out.2.1) (by have:=HB.out.2.2; omega) (by have:=HN.out.2.2.1; have:=HN.out.2.2.2; have:=(HM3.out).size; have:=HB.out.2.2; omega) (Mod.refl _ _) ho6 hg6 hat6)
     clear ho6 hg6 hat6 HN HO
     (try simp only [Act.put,ja,jb,jc])
     go_wp2_with fail
     go_roundw
     case rel=>exact ⟨k+1,_,_,true,by omega,rfl,rfl,by simp,HR.out,HF.out.1,HF.out.2⟩
     case measure=>simp [intOf]; omega
   |false=>
     have HR:=hh (show putTo x (ds.take (k+1))=(ts ++ [x] ++ [y],true) by rw [HP.out,HPS.out]; rw [if_pos h0]; rfl)
     clear HP HPS
     have d1:decide (cc<0)=true:=by simp; omega
     have d2:(cc == 0)=false:=by simp; omega
     clear h0
     go_upto_region 8 with fail
     refine wp_region_lit ?_
     refine ex (v:=v5) ?_
     refine wx (exec_load_pt _ _ 78 _ rfl ⟨w.heap.size,0,none⟩ rfl (HXL.out _ HM2.out).2.2.2) ?_
     refine ww (exec_slice1 _ _ rfl x rfl) ?_
     have hN:=one_at (newB w2 (.cells (totCells x).toArray 78))
     have hmA:=(Mod.refl N0 w2).alloc (.cells (totCells x).toArray 78)
     have hszA:(w2.alloc (.cells (totCells x).toArray 78)).heap.size=w2.heap.size+1:=by simp
     generalize w2.alloc (.cells (totCells x).toArray 78)=wa at hN hmA hszA ⊢
     generalize hga:w2.heap.size=ga at hN hszA ⊢
     have HN:=hh (And.intro hN (And.intro hmA (And.intro hszA hga)))
     have HO:=hh ((HO2.out).tr hmA (fun _ _ q=>q))
     clear hN hmA hszA hga
     refine wpList_append_tots rfl _ _ rfl rfl rfl HO.out.1 HN.out.1 (by have:=HTL.out; have:=HN0.out; omega) ?_
     intro vf wf ho6 hg6 hat6
     have HF0:=hh (OutAt.push HO.out ((HM2.out).tr HN.out.2.1) (by have:=HB.out.2.2; omega) (by have:=HN.out.2.2.1; have:=HN.out.2.2.2; have:=(HM2.out).size; have:=HB.out.2.2; omega) (Mod.refl _ _) ho6 hg6 hat6)
     clear ho6 hg6 hat6 HN HO
     (try simp only [Act.put,ja,jb,jc])
     go_upto_region 10 with fail
     refine wp_region_lit ?_
     refine ex (v:=.slice (some ⟨L,off,none⟩) ds.length c) ?_
     refine ex (v:=.int .i64 k) ?_
     refine ex (v:=.pointer (some ⟨L,off+k * 35,none⟩)) ?_
     refine wx (exec_load_pt _ _ 78 _ rfl ⟨L,off+k * 35,none⟩ rfl (HLD.out _ HF0.out.2).2.2.2) ?_
     obtain ⟨z,hzv,hzs⟩:=zi78'
     have hst:=run_storeVar_row (P:=Tryz.prog) (wf.alloc (.cells z 78)) wf.heap.size 78 78 z (totCells y).toArray (newB wf _) (by rw [zs78]; simp [totCells_length]) (by rw [hzs]; simp [totCells_length]) (by rw [List.all_toArray,List.all_eq_true]; exact totCells_one y)
     have hR:=setRow_same (cs:=(totCells y).toArray) (newB wf (.cells z 78))
     have hmr:Mod N0 wf ((wf.alloc (.cells z 78)).setRow wf.heap.size (totCells y).toArray):=Mod_setRow ((Mod.refl _ wf).alloc (.cells z 78)) (b:=wf.heap.size) (fun q=>by omega) _
     refine ww (exec_alloc _ _ 78 z rfl hzv) ?_
     generalize (wf.alloc (.cells z 78)).setRow wf.heap.size (totCells y).toArray=w3 at hst hR hmr
     refine wpList_execS rfl (exec_store_pt _ _ rfl rfl rfl hst) ?_
     (try simp only [Act.put])
     have HM3:=hh ((HF0.out.2).tr hmr)
     have HO3:=hh ((HF0.out.1).tr hmr (fun _ _ q=>q))
     have hyb:w.heap.size<wf.heap.size:=by have:=(HF0.out.2).size; have:=HB.out.2.2; omega
     have hyo:∀ q,vf.ownBlock=some q->q<wf.heap.size:=fun q hq=>ownsRow_lt (HF0.out.1).1 hq
     generalize wf.heap.size=yb at hR hyb hyo ⊢
     have HR3:=hh (And.intro hR (And.intro hyb hyo))
     clear hst hR hmr hzv hzs hyb hyo
     go_upto_region 14 with fail
     refine wp_region_lit ?_
     refine ex (v:=vf) ?_
     refine wx (exec_load_pt _ _ 78 _ rfl ⟨yb,0,none⟩ rfl (tot_loads (o:=0) (box_tot HR3.out.1)).2.2.2) ?_
     refine ww (exec_slice1 _ _ rfl y rfl) ?_
     have hN:=one_at (newB w3 (.cells (totCells y).toArray 78))
     have hmA:=(Mod.refl N0 w3).alloc (.cells (totCells y).toArray 78)
     have hszA:(w3.alloc (.cells (totCells y).toArray 78)).heap.size=w3.heap.size+1:=by simp
     generalize w3.alloc (.cells (totCells y).toArray 78)=wa at hN hmA hszA ⊢
     generalize hga:w3.heap.size=ga at hN hszA ⊢
     have HN:=hh (And.intro hN (And.intro hmA (And.intro hszA hga)))
     have HO:=hh ((HO3.out).tr hmA (fun _ _ q=>q))
     clear hN hmA hszA hga
     refine wpList_append_tots rfl _ _ rfl rfl rfl HO.out.1 HN.out.1 (by have:=HTL.out; have:=HN0.out; simp; omega) ?_
     intro v6 w6 ho6 hg6 hat6
     have HF:=hh (OutAt.push HO.out ((HM3.out).tr HN.out.2.1) (by have:=HB.out.2.2; omega) (by have:=HN.out.2.2.1; have:=HN.out.2.2.2; have:=(HM3.out).size; have:=HB.out.2.2; omega) (Mod.refl _ _) ho6 hg6 hat6)
     clear ho6 hg6 hat6 HN HO
     (try simp only [Act.put,ja,jb,jc])
     go_wp2_with fail
     go_roundw
     case rel=>exact ⟨k+1,_,_,true,by omega,rfl,rfl,by simp,HR.out,HF.out.1,HF.out.2⟩
     case measure=>simp [intOf]; omega
   ·subst h0
    have HR:=hh (show putTo x (ds.take (k+1))=(ts ++ [(y.1,y.2+x.2)],true) by rw [HP.out,HPS.out]; rfl)
    clear HP HPS
    go_upto_region 10 with fail
    refine wp_region_lit ?_
    refine ex (v:=.slice (some ⟨L,off,none⟩) ds.length c) ?_
    refine ex (v:=.int .i64 k) ?_
    refine ex (v:=.pointer (some ⟨L,off+k * 35,none⟩)) ?_
    refine wx (exec_load_pt _ _ 78 _ rfl ⟨L,off+k * 35,none⟩ rfl (HLD.out _ HM2.out).2.2.2) ?_
    obtain ⟨z,hzv,hzs⟩:=zi78'
    have hst:=run_storeVar_row (P:=Tryz.prog) (w2.alloc (.cells z 78)) w2.heap.size 78 78 z (totCells y).toArray (newB w2 _) (by rw [zs78]; simp [totCells_length]) (by rw [hzs]; simp [totCells_length]) (by rw [List.all_toArray,List.all_eq_true]; exact totCells_one y)
    have hR:=setRow_same (cs:=(totCells y).toArray) (newB w2 (.cells z 78))
    have hmr:Mod N0 w2 ((w2.alloc (.cells z 78)).setRow w2.heap.size (totCells y).toArray):=Mod_setRow ((Mod.refl _ w2).alloc (.cells z 78)) (b:=w2.heap.size) (fun q=>by omega) _
    refine ww (exec_alloc _ _ 78 z rfl hzv) ?_
    generalize (w2.alloc (.cells z 78)).setRow w2.heap.size (totCells y).toArray=w3 at hst hR hmr
    refine wpList_execS rfl (exec_store_pt _ _ rfl rfl rfl hst) ?_
    (try simp only [Act.put])
    have HM3:=hh ((HM2.out).tr hmr)
    have HO3:=hh ((HO2.out).tr hmr (fun _ _ q=>q))
    have hyb:w.heap.size<w2.heap.size:=by have:=(HM2.out).size; have:=HB.out.2.2; omega
    have hyo:∀ q,v5.ownBlock=some q->q<w2.heap.size:=fun q hq=>ownsRow_lt (HO2.out).1 hq
    generalize w2.heap.size=yb at hR hyb hyo ⊢
    have HR3:=hh (And.intro hR (And.intro hyb hyo))
    clear hst hR hmr hzv hzs hyb hyo
    go_upto_region 12 with fail
    refine wp_region_lit ?_
    refine ex (v:=.pointer (some ⟨yb,33,none⟩)) ?_
    refine wx (exec_load_pt _ _ 48 _ rfl ⟨yb,33,none⟩ rfl (by simpa using (tot_loads (o:=0) (box_tot HR3.out.1)).2.2.1)) ?_
    refine ex (v:=.pointer (some ⟨w.heap.size,33,none⟩)) ?_
    refine wx (exec_load_pt _ _ 48 _ rfl ⟨w.heap.size,33,none⟩ rfl (by simpa using (HXL.out _ HM3.out).2.2.1)) ?_
    refine ww (exec_wides2 _ _ rfl y.2 x.2 rfl rfl) ?_
    have hW:=wides_two w3 y.2 x.2
    have hm4:=(Mod.refl N0 w3).alloc (.cells #[.int .i64 (hiW y.2),.int .u64 (loW y.2),.int .i64 (hiW x.2),.int .u64 (loW x.2)] 48)
    generalize w3.alloc (.cells #[.int .i64 (hiW y.2),.int .u64 (loW y.2),.int .i64 (hiW x.2),.int .u64 (loW x.2)] 48)=w4 at hW hm4 ⊢
    generalize w3.heap.size=g4 at hW ⊢
    have HC4:=hh (refPlus_calls w4 _ _ hW (by simp))
    have HM4:=hh hm4
    clear hW hm4
    go_wp2_with fail
    refine HC4.out.mono ?_
    rintro e w5 ⟨rfl,hm5⟩
    rename_i hK
    refine hK _ _ ?_
    clear hK
    (try simp only [Act.put,ja,jb,jc])
    have HM5:=hh (HM4.out.tr hm5)
    clear hm5 HC4
    refine ex (v:=.pointer (some ⟨yb,33,none⟩)) ?_
    have hA5:=(HM5.out.block _ (ltB HR3.out.1) (fun q=>q)).trans HR3.out.1
    have es:[y.2,x.2].sum=y.2+x.2:=by simp
    have hst:=run_storeVar_mid (P:=Tryz.prog) w5 yb 33 48 #[.int .i64 (hiW (y.2+x.2)),.int .u64 (loW (y.2+x.2))] (there_box hA5 (by simp [totCells_length])) (by rw [zs48]; rfl) (by rw [show (#[Value.int .i64 (hiW (y.2+x.2)),.int .u64 (loW (y.2+x.2))]:Array Value)=[Value.int .i64 (hiW (y.2+x.2)),.int .u64 (loW (y.2+x.2))].toArray from rfl,List.all_toArray]; rfl)
    have hAn:=setCells_box [.int .i64 (hiW (y.2+x.2)),.int .u64 (loW (y.2+x.2))] w5 (totCells y) 33 hA5 (by simp [totCells_length])
    rw [tot_patch] at hAn
    have hmn:=setCells_mod w5 yb [.int .i64 (hiW (y.2+x.2)),.int .u64 (loW (y.2+x.2))] 33
    have hst:(storeVar 48 ⟨yb,33,none⟩ (wideV [y.2,x.2].sum)).run Tryz.prog w5=.ok () (w5.setCells yb 33 [.int .i64 (hiW (y.2+x.2)),.int .u64 (loW (y.2+x.2))]):=by rw [es]; simpa [wideV] using hst
    generalize w5.setCells yb 33 [.int .i64 (hiW (y.2+x.2)),.int .u64 (loW (y.2+x.2))]=w6' at hst hAn hmn
    refine wpList_execS rfl (exec_store_pt _ _ rfl rfl rfl hst) ?_
    (try simp only [Act.put])
    have hm35:=(HM5.out.any (S:=fun q=>q=yb)).tr hmn
    have HM6:=hh (HM3.out.trans hm35 (fun q e hl=>by subst e; exact absurd (Nat.lt_of_lt_of_le hl (Nat.le_refl _)) (by have:=HR3.out.2.1; have:=HB.out.2.2; omega)))
    have HO6:=hh (show OutAt w w6' v5 ts from ⟨ownsRow_block HO3.out.1 (fun q hq=>hm35.block q (ownsRow_lt HO3.out.1 hq) (fun e=>by have:=HR3.out.2.2 q hq; omega)),HO3.out.2⟩)
    have HA6:=hh hAn
    clear hst hAn hmn hm35 hA5 es
    obtain ⟨y',hy'⟩:∃ y':Nm×Int,y'=(y.1,y.2+x.2):=⟨_,rfl⟩
    rw [← hy'] at HR HA6
    clear hy'
    go_upto_region 14 with fail
    refine wp_region_lit ?_
    refine ex (v:=v5) ?_
    refine wx (exec_load_pt _ _ 78 _ rfl ⟨yb,0,none⟩ rfl (tot_loads (o:=0) (box_tot HA6.out)).2.2.2) ?_
    refine ww (exec_slice1 _ _ rfl y' rfl) ?_
    have hN:=one_at (newB w6' (.cells (totCells y').toArray 78))
    have hmA:=(Mod.refl N0 w6').alloc (.cells (totCells y').toArray 78)
    have hszA:(w6'.alloc (.cells (totCells y').toArray 78)).heap.size=w6'.heap.size+1:=by simp
    generalize w6'.alloc (.cells (totCells y').toArray 78)=wa at hN hmA hszA ⊢
    generalize hga:w6'.heap.size=ga at hN hszA ⊢
    have HN:=hh (And.intro hN (And.intro hmA (And.intro hszA hga)))
    have HO:=hh ((HO6.out).tr hmA (fun _ _ q=>q))
    clear hN hmA hszA hga
    refine wpList_append_tots rfl _ _ rfl rfl rfl HO.out.1 HN.out.1 (by have:=HTL.out; have:=HN0.out; omega) ?_
    intro v6 w6 ho6 hg6 hat6
    have HF:=hh (OutAt.push HO.out ((HM6.out).tr HN.out.2.1) (by have:=HB.out.2.2; omega) (by have:=HN.out.2.2.1; have:=HN.out.2.2.2; have:=(HM6.out).size; have:=HB.out.2.2; omega) (Mod.refl _ _) ho6 hg6 hat6)
    clear ho6 hg6 hat6 HN HO
    (try simp only [Act.put,ja,jb,jc])
    go_wp2_with fail
    go_roundw
    case rel=>exact ⟨k+1,_,_,true,by omega,rfl,rfl,by simp,HR.out,HF.out.1,HF.out.2⟩
    case measure=>simp [intOf]; omega
   ·have HR:=hh (show putTo x (ds.take (k+1))=(ts ++ [y],b) by rw [HP.out,HPS.out]; rw [if_neg (by omega),if_neg (by omega)])
    clear HP HPS
    have d1:decide (cc<0)=false:=by simp; omega
    have d2:(cc == 0)=false:=by simp; omega
    clear h0
    go_upto_region 10 with fail
    refine wp_region_lit ?_
    refine ex (v:=.slice (some ⟨L,off,none⟩) ds.length c) ?_
    refine ex (v:=.int .i64 k) ?_
    refine ex (v:=.pointer (some ⟨L,off+k * 35,none⟩)) ?_
    refine wx (exec_load_pt _ _ 78 _ rfl ⟨L,off+k * 35,none⟩ rfl (HLD.out _ HM2.out).2.2.2) ?_
    obtain ⟨z,hzv,hzs⟩:=zi78'
    have hst:=run_storeVar_row (P:=Tryz.prog) (w2.alloc (.cells z 78)) w2.heap.size 78 78 z (totCells y).toArray (newB w2 _) (by rw [zs78]; simp [totCells_length]) (by rw [hzs]; simp [totCells_length]) (by rw [List.all_toArray,List.all_eq_true]; exact totCells_one y)
    have hR:=setRow_same (cs:=(totCells y).toArray) (newB w2 (.cells z 78))
    have hmr:Mod N0 w2 ((w2.alloc (.cells z 78)).setRow w2.heap.size (totCells y).toArray):=Mod_setRow ((Mod.refl _ w2).alloc (.cells z 78)) (b:=w2.heap.size) (fun q=>by omega) _
    refine ww (exec_alloc _ _ 78 z rfl hzv) ?_
    generalize (w2.alloc (.cells z 78)).setRow w2.heap.size (totCells y).toArray=w3 at hst hR hmr
    refine wpList_execS rfl (exec_store_pt _ _ rfl rfl rfl hst) ?_
    (try simp only [Act.put])
    have HM3:=hh ((HM2.out).tr hmr)
    have HO3:=hh ((HO2.out).tr hmr (fun _ _ q=>q))
    have hyb:w.heap.size<w2.heap.size:=by have:=(HM2.out).size; have:=HB.out.2.2; omega
    have hyo:∀ q,v5.ownBlock=some q->q<w2.heap.size:=fun q hq=>ownsRow_lt (HO2.out).1 hq
    generalize w2.heap.size=yb at hR hyb hyo ⊢
    have HR3:=hh (And.intro hR (And.intro hyb hyo))
    clear hst hR hmr hzv hzs hyb hyo
    go_upto_region 14 with fail
    refine wp_region_lit ?_
    refine ex (v:=v5) ?_
    refine wx (exec_load_pt _ _ 78 _ rfl ⟨yb,0,none⟩ rfl (tot_loads (o:=0) (box_tot HR3.out.1)).2.2.2) ?_
    refine ww (exec_slice1 _ _ rfl y rfl) ?_
    have hN:=one_at (newB w3 (.cells (totCells y).toArray 78))
    have hmA:=(Mod.refl N0 w3).alloc (.cells (totCells y).toArray 78)
    have hszA:(w3.alloc (.cells (totCells y).toArray 78)).heap.size=w3.heap.size+1:=by simp
    generalize w3.alloc (.cells (totCells y).toArray 78)=wa at hN hmA hszA ⊢
    generalize hga:w3.heap.size=ga at hN hszA ⊢
    have HN:=hh (And.intro hN (And.intro hmA (And.intro hszA hga)))
    have HO:=hh ((HO3.out).tr hmA (fun _ _ q=>q))
    clear hN hmA hszA hga
    refine wpList_append_tots rfl _ _ rfl rfl rfl HO.out.1 HN.out.1 (by have:=HTL.out; have:=HN0.out; omega) ?_
    intro v6 w6 ho6 hg6 hat6
    have HF:=hh (OutAt.push HO.out ((HM3.out).tr HN.out.2.1) (by have:=HB.out.2.2; omega) (by have:=HN.out.2.2.1; have:=HN.out.2.2.2; have:=(HM3.out).size; have:=HB.out.2.2; omega) (Mod.refl _ _) ho6 hg6 hat6)
    clear ho6 hg6 hat6 HN HO
    (try simp only [Act.put,ja,jb,jc])
    go_wp2_with fail
    go_roundw
    case rel=>exact ⟨k+1,_,_,b,by omega,rfl,rfl,by simp,HR.out,HF.out.1,HF.out.2⟩
    case measure=>simp [intOf]; omega
  ·have e:k=ds.length:=by omega
   subst e
   have h1:=HTS.out
   rw [List.take_length] at h1
   have hp:putL ds x=if b then ts else ts ++ [x]:=by unfold putL; rw [h1]
   cases b with
  |true=>
    have HP:=hh (show putL ds x=ts from hp)
    clear hp h1
    go_wp2_with fail
    go_ret
    exact ⟨_,rfl,by rw [HP.out]; exact HO5.out,HB.out.2.1.tr HM.out⟩
  |false=>
    have HP:=hh (show putL ds x=ts ++ [x] from hp)
    clear hp h1
    go_upto_region 16 with fail
    refine wp_region_lit ?_
    refine ex (v:=v5) ?_
    refine wx (exec_load_pt _ _ 78 _ rfl ⟨w.heap.size,0,none⟩ rfl (HXL.out _ HM.out).2.2.2) ?_
    refine ww (exec_slice1 _ _ rfl x rfl) ?_
    have hN:=one_at (newB wr (.cells (totCells x).toArray 78))
    have hmA:=(Mod.refl N0 wr).alloc (.cells (totCells x).toArray 78)
    have hszA:(wr.alloc (.cells (totCells x).toArray 78)).heap.size=wr.heap.size+1:=by simp
    generalize wr.alloc (.cells (totCells x).toArray 78)=wa at hN hmA hszA ⊢
    generalize hga:wr.heap.size=ga at hN hszA ⊢
    have HN:=hh (And.intro hN (And.intro hmA (And.intro hszA hga)))
    have HO:=hh ((HO5.out).tr hmA (fun _ _ q=>q))
    clear hN hmA hszA hga
    refine wpList_append_tots rfl _ _ rfl rfl rfl HO.out.1 HN.out.1 (by have:=HTL.out; have:=HN0.out; omega) ?_
    intro v6 w6 ho6 hg6 hat6
    have HF:=hh (OutAt.push HO.out ((HM.out).tr HN.out.2.1) (by have:=HB.out.2.2; omega) (by have:=HN.out.2.2.1; have:=HN.out.2.2.2; have:=(HM.out).size; have:=HB.out.2.2; omega) (Mod.refl _ _) ho6 hg6 hat6)
    clear ho6 hg6 hat6 HN HO
    (try simp only [Act.put,ja,jb,jc])
    go_wp2_with fail
    go_ret
    exact ⟨_,rfl,by rw [HP.out]; exact HF.out.1,HB.out.2.1.tr HF.out.2⟩
end Go.Proofs.YtckcamlicgdklaaGreat
