/- totals.Whole at all inputs. -/
import Derived.Test.YtckcamlicgdklaaGreatN18
namespace Go.Proofs.YtckcamlicgdklaaGreat
open Go.RowKit Go.Mo Go.Sort
set_option maxRecDepth 100000 in
set_option maxHeartbeats 4000000 in
theorem whole_same (w:World) (cs gs:List Value) (sv ov mv:Value) (fees forf:Int) (hc:StC cs sv fees forf) (hmv:cs[179]?=some mv) (hov:gs[13]?=some ov) (hf:In64 fees) (hg:In64 forf)
  (es os:List Ent) (mint:List (Nm×Int)) (hes:EntsAt w sv es) (hos:OutsAt w ov os) (hol:os.length<=1000000) (hmt:TotsAt w mv mint) (hz:wideV (coins (os.map (·.val)))=wideV (coins (es.map (·.val))+(fees+forf)))
  (hb1:(bookV (es.map (·.val))).length<=1000000) (hb2:(bookV (os.map (·.val))).length+mint.length<=1000000) :
  Calls Tryz.prog 17 #[.agg cs.toArray,.agg gs.toArray] w fun e w'=>WholePost w es os mint e w':=by
 obtain ⟨w1,hw1⟩:∃ w1,(w.alloc (.cells cs.toArray 36)).alloc (.cells gs.toArray 39)=w1:=⟨_,rfl⟩
 have hA:w1.heap[w.heap.size]?=some (.cells cs.toArray 36 (0,0)):=by rw [← hw1]; exact allocB (newB w _) _
 have hG:w1.heap[w.heap.size+1]?=some (.cells gs.toArray 39 (0,0)):=by
  rw [← hw1]; have:=newB (w.alloc (.cells cs.toArray 36)) (.cells gs.toArray 39); rwa [World.size_alloc] at this
 have hm1:Mod N0 w w1:=by rw [← hw1]; exact ((Mod.refl _ w).alloc _).alloc _
 have s13:w1.cell? ⟨w.heap.size+1,13,none⟩=some ov:=by rw [cellB hG,List.getElem?_toArray]; exact hov
 have HA:=hh (fun (W:World) (hW:Mod N0 w1 W)=>(hW.block _ (ltB hA) (fun q=>q)).trans hA)
 have HX:=hh (And.intro hc (And.intro hmv (And.intro hf (And.intro hg (And.intro hz (And.intro hb1 hb2))))))
 have HE:=hh (hes.tr hm1)
 have HT:=hh (hmt.tr hm1)
 have HM:=hh hm1
 obtain ⟨oa,oc,rfl,hoel⟩:=id (hos.tr hm1)
 have HO:=hh hoel
 obtain ⟨ma,mc,rfl,_⟩:=id hmt
 have hsa:=HE.out
 obtain ⟨sa,sc,rfl,_⟩:=id hes
 obtain ⟨z49,hz49,hs49⟩:=zv49
 have HZ:=hh (And.intro hz49 hs49)
 clear hA hG hm1 hov hc hmv hf hg hz hb1 hb2 hes hos hmt hoel hsa hz49 hs49
 go_enter Tryz.func17,Tryz.ntmps17
 go_wp2_with fail
 go_loopw [5,13] (fun v5 i wr=>∃ (k:Nat) (v':Value) (l:EntL),k<=os.length/\v'=v5/\i=.int .i64 k/\l.map (·.1)=(os.take k).map zEnt/\RowE w1 wr v' l/\Mod N0 w1 wr) (fun _ i _=>os.length - (intOf i).toNat)
 case atStart=>exact ⟨0,_,[],by omega,rfl,rfl,rfl,⟨fun x hx=>by simp at hx,⟨rfl,.inl ⟨rfl,rfl⟩⟩,fun k hk=>by cases hk⟩,Mod.refl _ w1⟩
 case round=>
  obtain ⟨k,v5,l,hk,rfl,rfl,hl,hr,hm⟩:=hrel
  by_cases hlt:k<os.length
  ·obtain ⟨x,hx⟩:∃ x,os[k]?=some x:=⟨_,List.getElem?_eq_getElem hlt⟩
   obtain ⟨hco,L,off,a2,c2,rfl,hL,hAs,hcs⟩:=HO.out k x hx
   have hl49:(loadVar 71 ⟨L,off+k * 69,none⟩).run Tryz.prog wr=.ok (.agg (outCells x a2 c2).toArray) wr:=
    run_loadVar_mid wr L (off+k * 69) 71 (outCells x a2 c2) _ (fun q u hu=>(hm.cell (p:=⟨L,_,none⟩) hL (fun q=>q)).trans (hcs q u hu)) Tryz.underlying71 rfl (by rw [size49,outCells_length])
   have hZ:=newB wr (.cells z49 71)
   have hone:(outCells x a2 c2).toArray.all (·.oneCell')=true:=by
    have:=entCells_one x a2 c2
    rw [List.all_toArray,List.all_eq_true] at this ⊢
    exact fun u hu=>this u (List.mem_append_right _ hu)
   have hst:(storeVar 71 ⟨wr.heap.size,0,none⟩ (.agg (outCells x a2 c2).toArray)).run Tryz.prog (wr.alloc (.cells z49 71))=.ok () ((wr.alloc (.cells z49 71)).setRow wr.heap.size (outCells x a2 c2).toArray):=
    run_storeVar_row (P:=Tryz.prog) _ wr.heap.size 71 71 z49 (outCells x a2 c2).toArray hZ (by rw [size49]; simp [outCells_length]) (by rw [HZ.out.2]; simp [outCells_length]) hone
   have hR:=setRow_same (cs:=(outCells x a2 c2).toArray) hZ
   have hmr:Mod N0 wr ((wr.alloc (.cells z49 71)).setRow wr.heap.size (outCells x a2 c2).toArray):=Mod_setRow ((Mod.refl _ wr).alloc (.cells z49 71)) (b:=wr.heap.size) (fun q=>by omega) _
   generalize (wr.alloc (.cells z49 71)).setRow wr.heap.size (outCells x a2 c2).toArray=w2 at hst hR hmr
   have hld2:(loadVar 71 ⟨wr.heap.size,0,none⟩).run Tryz.prog w2=.ok (.agg (outCells x a2 c2).toArray) w2:=
    run_loadVar_mid w2 wr.heap.size 0 71 (outCells x a2 c2) _ (fun j v hv=>by rw [Nat.zero_add,cellB hR,List.getElem?_toArray]; exact hv) Tryz.underlying71 rfl (by rw [size49,outCells_length])
   have HLD:=hh (And.intro hl49 (And.intro hst hld2))
   have HF:=hh (And.intro hco (And.intro hAs (And.intro hx hl)))
   have HR:=hh (And.intro (hr.tr hmr) (hm.tr hmr))
   have hlk:l.length<=k:=by
    have h1:=congrArg List.length hl
    simp only [List.length_map,List.length_take] at h1
    omega
   clear hl49 hst hR hmr hco hAs hx hl hcs hZ hr hm hone hld2
   obtain ⟨i51,hi,hi0,hi1,hi2⟩:=info_parts info51
   go_upto_region 4 with fail
   refine wp_region_lit ?_
   refine ex (v:=.pointer (some ⟨L,off+k * 69,none⟩)) ?_
   refine wx (exec_load_at _ _ 71 _ rfl ⟨L,off+k * 69,none⟩ rfl HLD.out.1) ?_
   refine ww (exec_alloc _ _ 71 z49 rfl HZ.out.1) ?_
   refine wpList_execS rfl (exec_store _ _ rfl rfl rfl HLD.out.2.1) ?_
   (try simp only [Act.put])
   go_upto_region 5 with fail
   refine wp_region_lit ?_
   refine ex (v:=v5) ?_
   refine wx (exec_load_at _ _ 71 _ rfl ⟨wr.heap.size,0,none⟩ rfl HLD.out.2.2) ?_
   refine wx (exec_buildL _ _ [(1,.tmp 18)] rfl [(1,.agg (outCells x a2 c2).toArray)] rfl (entCells (zEnt x) a2 c2).toArray (built51 x a2 c2)) ?_
   have hsl:∀ (act:Act) (o:Oper) (a:Operand),o.op=.buildSlice 28 1 #[(0,a)]->act.eval a=.agg (entCells (zEnt x) a2 c2).toArray->(execOp act.eval o).run Tryz.prog w2=.ok (.value (.slice (some ⟨w2.heap.size,0,none⟩) 1 1)) (w2.alloc (.cells (entCells (zEnt x) a2 c2).toArray 73)):=by
    intro act o a ho ha
    have:=exec_slicesL act o (w:=w2) [(0,a)] ho [.agg (entCells (zEnt x) a2 c2).toArray] (by simp [ha]) (E:=73) (s:=102) Tryz.underlying28 hi hi0 hi1 (by omega) rfl (by omega) (by omega) (by intro y hy; simp at hy; subst hy; simp [Value.cells,entCells_length])
    simpa [Value.cells] using this
   refine wpList_execW rfl (hsl _ _ _ rfl rfl) ?_
   clear hsl
   (try simp only [Act.put,ja,jb,jc])
   have hmA:Mod N0 w2 (w2.alloc (.cells (entCells (zEnt x) a2 c2).toArray 73)):=(Mod.refl _ w2).alloc _
   have HN:=hh (row_cells (newB w2 (.cells (entCells (zEnt x) a2 c2).toArray 73)))
   have HRA:=hh (And.intro (HR.out.1.tr hmA) (HR.out.2.tr hmA))
   clear hmA
   generalize w2.alloc (.cells (entCells (zEnt x) a2 c2).toArray 73)=w3 at HN HRA
   refine wpList_append_at _ rfl _ _ 28 rfl 73 i51 _ 102 176 Tryz.underlying28 hi hi0 hi1 hi2 (by simpa [Value.cells] using z51_size) (by decide) v5 l.length (entsCells l) rfl HRA.out.1.2.1 ⟨w2.heap.size,0,none⟩ 1 1 (entCells (zEnt x) a2 c2) rfl (by rw [entCells_length]) HN.out (by have:=entCells_one (zEnt x) a2 c2; rw [List.all_toArray,List.all_eq_true] at this; exact this) (by simp only [maxLen]; omega) (by omega) ?_
   intro v6 w6 ho6 hg6 hat6
   have H7:RowE w1 w6 v6 (l ++ [(zEnt x,a2,c2)]):=by
    refine ⟨fun y hy=>?_,?_,fun q hq=>?_⟩
    ·rcases List.mem_append.1 hy with h1|h1
     ·exact HRA.out.1.1 y h1
     ·simp at h1; subst h1
      exact ⟨HF.out.1,HF.out.2.1⟩
    ·simpa [entsCells] using ho6
    ·rcases hat6 q hq with h1|h1
     ·exact HRA.out.1.2.2 q h1
     ·have:=HRA.out.2.size
      omega
   have H8:Mod N0 w1 w6:=HRA.out.2.grown hg6 (fun q hq hl=>by have:=HRA.out.1.2.2 q hq; omega)
   have H9:=hh (And.intro H7 H8)
   clear H7 H8 ho6 hg6 hat6
   (try simp only [Act.put,ja,jb,jc])
   go_wp2_with fail
   go_roundw
   case rel=>exact ⟨k+1,_,_,by omega,rfl,by simp,by rw [List.take_add_one,HF.out.2.2.1]; simp [HF.out.2.2.2],H9.out.1,H9.out.2⟩
   case measure=>simp [intOf]; omega
  ·have e:k=os.length:=by omega
   subst e
   rw [List.take_length] at hl
   have hval:(l.map (·.1)).map (·.val)=os.map (·.val):=by rw [hl,List.map_map]; rfl
   have hll:l.length=os.length:=by simpa using congrArg List.length hl
   have hEl:=hr.ents hm (by omega)
   have HT2:=hh (tof_all wr v5 _ hEl (fun _=>true) (fun y _ a c W _=>each_calls y a c W) (by rw [filter_all,hval]; have:=HX.out.2.2.2.2.2.2; omega))
   rw [filter_all,hval] at HT2
   have HMR:=hh hm
   clear hr hEl hl hm hval hll
   go_wp2_with fail
   refine HT2.out.mono ?_
   rintro e w2 ⟨b,u,d2,rfl,hb2,hb,h1,h2,h3,h4,h5⟩
   obtain ⟨ua,un,uc,rfl⟩:=ownsRow_slice h3
   have hM2:=HMR.out.tr h5
   have HCC:=hh (coins_calls w2 cs _ fees forf HX.out.1 HX.out.2.2.1 HX.out.2.2.2.1 es (HE.out.tr hM2) HX.out.2.2.2.2.2.1)
   have HD:=hh (And.intro h1 (And.intro h2 (And.intro (tots_at h3 (by have:=perm_le h1; have:=HX.out.2.2.2.2.2.2; omega)) hb2)))
   have HM2:=hh hM2
   have HL36:=hh (load36_box HX.out.1.len (HA.out _ hM2))
   clear h1 h2 h3 h4 h5 hM2 hb2 hb
   go_wp2_with (refine wpList_exec rfl (exec_load_at _ _ 36 _ rfl ⟨w.heap.size,0,none⟩ rfl HL36.out) ?_)
   refine HCC.out.mono ?_
   rintro e w3 ⟨rfl,hm3⟩
   rw [← HX.out.2.2.2.2.1]
   have hb3:=(hm3.block _ (ltB HD.out.2.2.2) (fun q=>q)).trans HD.out.2.2.2
   have HD3:=hh (And.intro (HD.out.2.2.1.tr hm3) hb3)
   have HM3:=hh (HM2.out.tr hm3)
   have hb3s:=ltB hb3
   clear hm3 hb3
   obtain ⟨zc,hzc⟩:∃ zc,coins (os.map (·.val))=zc:=⟨_,rfl⟩
   rw [hzc] at HD3 ⊢
   have hst:=store57 (w3.alloc (.cells #[.int .i64 0,.int .u64 0] 48)) w3.heap.size zc (newB w3 _)
   have hb4:=setRow_same (cs:=#[.int .i64 (hiW zc),.int .u64 (loW zc)]) (newB w3 (.cells #[.int .i64 0,.int .u64 0] 48))
   have hm4:Mod N0 w3 ((w3.alloc (.cells #[.int .i64 0,.int .u64 0] 48)).setRow w3.heap.size #[.int .i64 (hiW zc),.int .u64 (loW zc)]):=Mod_setRow ((Mod.refl _ w3).alloc _) (fun q=>by omega) _
   generalize (w3.alloc (.cells #[.int .i64 0,.int .u64 0] 48)).setRow w3.heap.size #[.int .i64 (hiW zc),.int .u64 (loW zc)]=w4 at hst hb4 hm4
   have HST:=hh hst
   have HB4:=hh (And.intro hb4 (And.intro ((hm4.block _ (ltB HD3.out.2) (fun q=>q)).trans HD3.out.2) (And.intro (HD3.out.1.tr hm4) (HM3.out.tr hm4))))
   clear hb4 hm4 hst
   go_upto_region 9 with (refine wpList_execS rfl (exec_store _ _ rfl rfl rfl HST.out) ?_)
   have HS:=hh (fun (W:World) (hW:Mod N0 w4 W)=>And.intro ((hW.block _ (ltB HB4.out.1) (fun q=>q)).trans HB4.out.1) ((hW.block _ (ltB HB4.out.2.1) (fun q=>q)).trans HB4.out.2.1))
   refine wp_region_held_drew (S:=fun W=>Mod N0 w4 W) (by kernel_rfl) (Mod.refl _ w4).drew (fun hH=>?_)
   refine tq (i:=0) (oi:=⟨some 27,.fieldAddr 48 (.tmp 9) 0,0, "totals.go:64",#[],none⟩) (v:=.pointer (some ⟨w3.heap.size,0,none⟩)) hH ?_
   refine tk (i:=1) (oi:=⟨some 28,.load 2 (.tmp 27),2, "totals.go:64",#[⟨0,.data⟩],none⟩) (v:=.int .i64 (hiW zc)) hH ?_ ?_
   ·intro w' hSw
    have s:w'.cell? ⟨w3.heap.size,0,none⟩=some (.int .i64 (hiW zc)):=(cellB (HS.out _ hSw).1 0).trans rfl
    go_simp
    try with_reducible rfl
   refine tq (i:=2) (oi:=⟨some 29,.move (.tmp 8),86, "totals.go:64",#[],none⟩) (v:=.pointer (some ⟨b,0,none⟩)) hH ?_
   refine tq (i:=3) (oi:=⟨some 30,.nilCheck (.tmp 29),0, "totals.go:64",#[⟨2,.data⟩],none⟩) (v:=.pointer (some ⟨b,0,none⟩)) hH ?_
   refine tq (i:=4) (oi:=⟨some 31,.fieldAddr 90 (.tmp 30) 0,0, "totals.go:64",#[⟨3,.data⟩],none⟩) (v:=.pointer (some ⟨b,0,none⟩)) hH ?_
   refine tq (i:=5) (oi:=⟨some 32,.fieldAddr 48 (.tmp 31) 0,0, "totals.go:64",#[⟨4,.data⟩],none⟩) (v:=.pointer (some ⟨b,0,none⟩)) hH ?_
   refine tk (i:=6) (oi:=⟨some 33,.load 2 (.tmp 32),2, "totals.go:64",#[⟨5,.data⟩],none⟩) (v:=.int .i64 (hiW zc)) hH ?_ ?_
   ·intro w' hSw
    have s:w'.cell? ⟨b,0,none⟩=some (.int .i64 (hiW zc)):=(cellB (HS.out _ hSw).2 0).trans rfl
    go_simp
    try with_reducible rfl
   refine tq (i:=7) (oi:=⟨some 34,.binOp .eql 2 (.tmp 28) (.tmp 33) 2,4, "totals.go:64",#[⟨1,.data⟩,⟨6,.data⟩],none⟩) (v:=.bool true) hH ?_
   refine tq (i:=8) (oi:=⟨some 35,.move (.tmp 34),4, "totals.go:64",#[⟨7,.data⟩],none⟩) (v:=.bool true) hH ?_
   refine tq (i:=9) (oi:=⟨some 36,.fieldAddr 48 (.tmp 9) 1,0, "totals.go:64",#[⟨8,.guard⟩],some (8,true)⟩) (v:=.pointer (some ⟨w3.heap.size,1,none⟩)) hH ?_
   refine tk (i:=10) (oi:=⟨some 37,.load 30 (.tmp 36),30, "totals.go:64",#[⟨9,.data⟩,⟨8,.guard⟩],some (8,true)⟩) (v:=.int .u64 (loW zc)) hH ?_ ?_
   ·intro w' hSw
    have s:w'.cell? ⟨w3.heap.size,1,none⟩=some (.int .u64 (loW zc)):=(cellB (HS.out _ hSw).1 1).trans rfl
    go_simp
    try with_reducible rfl
   refine tq (i:=11) (oi:=⟨some 38,.move (.tmp 8),86, "totals.go:64",#[⟨8,.guard⟩],some (8,true)⟩) (v:=.pointer (some ⟨b,0,none⟩)) hH ?_
   refine tq (i:=12) (oi:=⟨some 39,.nilCheck (.tmp 38),0, "totals.go:64",#[⟨11,.data⟩,⟨8,.guard⟩],some (8,true)⟩) (v:=.pointer (some ⟨b,0,none⟩)) hH ?_
   refine tq (i:=13) (oi:=⟨some 40,.fieldAddr 90 (.tmp 39) 0,0, "totals.go:64",#[⟨12,.data⟩,⟨8,.guard⟩],some (8,true)⟩) (v:=.pointer (some ⟨b,0,none⟩)) hH ?_
   refine tq (i:=14) (oi:=⟨some 41,.fieldAddr 48 (.tmp 40) 1,0, "totals.go:64",#[⟨13,.data⟩,⟨8,.guard⟩],some (8,true)⟩) (v:=.pointer (some ⟨b,1,none⟩)) hH ?_
   refine tk (i:=15) (oi:=⟨some 42,.load 30 (.tmp 41),30, "totals.go:64",#[⟨14,.data⟩,⟨8,.guard⟩],some (8,true)⟩) (v:=.int .u64 (loW zc)) hH ?_ ?_
   ·intro w' hSw
    have s:w'.cell? ⟨b,1,none⟩=some (.int .u64 (loW zc)):=(cellB (HS.out _ hSw).2 1).trans rfl
    go_simp
    try with_reducible rfl
   refine tq (i:=16) (oi:=⟨some 43,.binOp .eql 30 (.tmp 37) (.tmp 42) 30,4, "totals.go:64",#[⟨10,.data⟩,⟨15,.data⟩,⟨8,.guard⟩],some (8,true)⟩) (v:=.bool true) hH ?_
   refine tq (i:=17) (oi:=⟨some 44,.pick (.tmp 35) (.tmp 43) (.const (.bool false)),4, "totals.go:64",#[⟨8,.data⟩,⟨16,.data⟩],none⟩) (v:=.bool true) hH ?_
   refine tq (i:=18) (oi:=⟨some 45,.move (.tmp 44),4, "totals.go:64",#[⟨17,.data⟩,⟨8,.chain⟩],none⟩) (v:=.bool true) hH ?_
   refine tk (i:=19) (oi:=⟨some 46,.load 36 (.tmp 2),36, "totals.go:64",#[⟨18,.guard⟩],some (18,true)⟩) (v:=.agg cs.toArray) hH (fun w' hSw=>by exact exec_load_at _ _ 36 _ rfl ⟨w.heap.size,0,none⟩ rfl (load36_box HX.out.1.len (HA.out _ (HB4.out.2.2.2.tr hSw)))) ?_
   refine tq (i:=21) (oi:=⟨some 48,.move (.tmp 8),86, "totals.go:64",#[⟨18,.guard⟩],some (18,true)⟩) (v:=.pointer (some ⟨b,0,none⟩)) hH ?_
   refine tq (i:=22) (oi:=⟨some 49,.nilCheck (.tmp 48),0, "totals.go:64",#[⟨21,.data⟩,⟨18,.guard⟩],some (18,true)⟩) (v:=.pointer (some ⟨b,0,none⟩)) hH ?_
   refine tq (i:=23) (oi:=⟨some 50,.fieldAddr 90 (.tmp 49) 1,0, "totals.go:64",#[⟨22,.data⟩,⟨18,.guard⟩],some (18,true)⟩) (v:=.pointer (some ⟨b,2,none⟩)) hH ?_
   refine tk (i:=24) (oi:=⟨some 51,.load 33 (.tmp 50),33, "totals.go:64",#[⟨23,.data⟩,⟨18,.guard⟩],some (18,true)⟩) (v:=.slice ua un uc) hH ?_ ?_
   ·intro w' hSw
    have s:w'.cell? ⟨b,2,none⟩=some (.slice ua un uc):=(cellB (HS.out _ hSw).2 2).trans rfl
    go_simp
    try with_reducible rfl
   refine tq (i:=25) (oi:=⟨some 52,.fieldAddr 36 (.tmp 2) 9,0, "totals.go:64",#[⟨18,.guard⟩],some (18,true)⟩) (v:=.pointer (some ⟨w.heap.size,179,none⟩)) hH ?_
   refine tk (i:=26) (oi:=⟨some 53,.load 33 (.tmp 52),33, "totals.go:64",#[⟨25,.data⟩,⟨18,.guard⟩],some (18,true)⟩) (v:=.slice ma mint.length mc) hH ?_ ?_
   ·intro w' hSw
    have s:w'.cell? ⟨w.heap.size,179,none⟩=some (.slice ma mint.length mc):=(cellB (HA.out _ (HB4.out.2.2.2.tr hSw)) 179).trans (by rw [List.getElem?_toArray]; exact HX.out.2.1)
    go_simp
    try with_reducible rfl
   refine tr (rs:=[20,27]) ?_
   refine AllReadyH.cons (o:=⟨some 47,.call {callee:=.value (.func 12),args:=#[.tmp 46],argTypes:=#[36]},33, "totals.go:64",#[⟨19,.data⟩,⟨18,.chain⟩,⟨18,.guard⟩],some (18,true)⟩) rfl (fun K hK=>?_) (AllReadyH.cons (o:=⟨some 54,.buildSlice 58 2 #[(0,.tmp 51),(1,.tmp 53)],58, "totals.go:64",#[⟨24,.data⟩,⟨26,.data⟩,⟨18,.guard⟩],some (18,true)⟩) rfl (fun K hK=>?_) AllReadyH.nil)
   ·go_simp
    have hcM:=(Mod.refl N0 w4).drew
    refine (assets_calls _ cs _ fees forf HX.out.1 es (HE.out.tr (HB4.out.2.2.2.tr hcM)) HX.out.2.2.2.2.2.1).mono ?_
    rintro e w5 ⟨u5,d,rfl,g1,g2,g3,g4,g5⟩
    obtain ⟨va,vn,vc,rfl⟩:=ownsRow_slice g3
    have HG:=hh (And.intro g1 (And.intro g2 (And.intro (tots_at g3 (by have:=perm_le g1; have:=HX.out.2.2.2.2.2.1; omega)) (hcM.tr g5))))
    have HG5:=hh g5
    clear g1 g2 g3 g4 g5
    refine hK.out _ _ HG.out.2.2.2 (fun hH=>?_)
    clear hK K
    (try simp only [Act.put,ja,jb,jc])
    refine tr (rs:=[27]) ?_
    refine AllReadyH.cons (o:=⟨some 54,.buildSlice 58 2 #[(0,.tmp 51),(1,.tmp 53)],58, "totals.go:64",#[⟨24,.data⟩,⟨26,.data⟩,⟨18,.guard⟩],some (18,true)⟩) rfl (fun K hK=>?_) AllReadyH.nil
    have hal:Mod N0 w5 (w5.alloc (.cells #[.slice ua un uc,.slice ma mint.length mc] 33)):=(Mod.refl _ w5).alloc _
    have HRW:=hh (rows_two (HB4.out.2.2.1.tr HG.out.2.2.2) (HT.out.tr (HB4.out.2.2.2.tr HG.out.2.2.2)))
    have HN6:=hh (And.intro (HG.out.2.2.1.tr hal) (And.intro (HG.out.2.2.2.tr hal) trivial))
    refine step_execW rfl (exec_rows2 _ _ rfl _ _ rfl rfl rfl rfl) ?_
    refine hK.out _ _ HN6.out.2.1 (fun hH=>?_)
    clear hK K hal
    (try simp only [Act.put,ja,jb,jc])
    have HMC:=hh (merge_calls _ _ _ HRW.out (by have h:=perm_le HD.out.1; have:=HX.out.2.2.2.2.2.2; simp only [List.flatten_cons,List.flatten_nil,List.append_nil,List.length_append]; omega) (by have h:=perm_le HD.out.1; have h9:=bookA_len (d2 ++ mint); have:=HX.out.2.2.2.2.2.2; simp only [List.flatten_cons,List.flatten_nil,List.append_nil,List.length_append] at h9 ⊢; omega))
    simp only [List.flatten_cons,List.flatten_nil,List.append_nil] at HMC
    refine tr (rs:=[28]) ?_
    refine AllReadyH.cons (o:=⟨some 55,.call {callee:=.value (.func 39),args:=#[.tmp 54],argTypes:=#[58]},33, "totals.go:64",#[⟨27,.data⟩,⟨20,.chain⟩,⟨18,.guard⟩],some (18,true)⟩) rfl (fun K hK=>?_) AllReadyH.nil
    go_simp
    refine HMC.out.mono ?_
    rintro e w7 ⟨u7,m,rfl,k1,k2,k3,k4,k5⟩
    obtain ⟨xa,xn,xc,rfl⟩:=ownsRow_slice k3
    have hM7:=HN6.out.2.1.tr k5
    have HEQ:=hh (equal_calls w7 _ _ d m (HN6.out.1.tr k5) (tots_at k3 (by have h:=perm_le' k1; have h2:=perm_le HD.out.1; have:=HX.out.2.2.2.2.2.2; simp only [List.length_append] at h; omega)))
    have HK:=hh (And.intro k1 k2)
    refine hK.out _ _ hM7 (fun hH=>?_)
    have HM7:=hh hM7
    clear hK K k1 k2 k3 k4 k5 hM7
    (try simp only [Act.put,ja,jb,jc])
    refine tr (rs:=[29]) ?_
    refine AllReadyH.cons (o:=⟨some 56,.call {callee:=.value (.func 38),args:=#[.tmp 47,.tmp 55],argTypes:=#[33,33]},4, "totals.go:64",#[⟨20,.data⟩,⟨28,.data⟩,⟨28,.chain⟩,⟨18,.guard⟩],some (18,true)⟩) rfl (fun K hK=>?_) AllReadyH.nil
    go_simp
    refine HEQ.out.mono ?_
    rintro e w8 ⟨rfl,hm8⟩
    have HM8:=hh (HM7.out.tr hm8)
    refine hK.out _ _ HM8.out (fun hH=>?_)
    clear hK K hm8
    (try simp only [Act.put,ja,jb,jc])
    refine tk (i:=30) (oi:=⟨some 57,.pick (.tmp 45) (.tmp 56) (.const (.bool false)),4, "totals.go:64",#[⟨18,.data⟩,⟨29,.data⟩],none⟩) (v:=.bool (decide (d.map tN=m.map tN))) hH ?_ ?_
    ·intro w' hSw
     go_simp; try with_reducible rfl
    refine tq (i:=31) (oi:=⟨some 4,.assign (.tmp 57),4, "totals.go:64",#[⟨30,.data⟩,⟨29,.chain⟩,⟨0,.phase⟩,⟨1,.phase⟩,⟨2,.phase⟩,⟨3,.phase⟩,⟨4,.phase⟩,⟨5,.phase⟩,⟨6,.phase⟩,⟨7,.phase⟩,⟨8,.phase⟩,⟨9,.phase⟩,⟨10,.phase⟩,⟨11,.phase⟩,⟨12,.phase⟩,⟨13,.phase⟩,⟨14,.phase⟩,⟨15,.phase⟩,⟨16,.phase⟩,⟨17,.phase⟩,⟨18,.phase⟩,⟨19,.phase⟩,⟨20,.phase⟩,⟨21,.phase⟩,⟨22,.phase⟩,⟨23,.phase⟩,⟨24,.phase⟩,⟨25,.phase⟩,⟨26,.phase⟩,⟨27,.phase⟩,⟨28,.phase⟩,⟨29,.phase⟩,⟨30,.phase⟩],none⟩) (v:=.bool (decide (d.map tN=m.map tN))) hH ?_
    refine wpAnyH_done (by kernel_rfl) ?_ _
    go_wp2_with fail
    go_ret
    exact ⟨d,d2,m,rfl,HG.out.1,HG.out.2.1,HD.out.1,HD.out.2.1,HK.out.1,HK.out.2,HM.out.tr (HB4.out.2.2.2.tr HM8.out)⟩
   ·have hal:Mod N0 w4 (w4.drew.alloc (.cells #[.slice ua un uc,.slice ma mint.length mc] 33)):=((Mod.refl _ w4).drew).alloc _
    have HRW0:=hh (rows_two (HB4.out.2.2.1.tr (Mod.refl N0 w4).drew) (HT.out.tr (HB4.out.2.2.2.tr (Mod.refl N0 w4).drew)))
    refine step_execW rfl (exec_rows2 _ _ rfl _ _ rfl rfl rfl rfl) ?_
    refine hK.out _ _ hal (fun hH=>?_)
    clear hK K
    (try simp only [Act.put,ja,jb,jc])
    refine tr (rs:=[20]) ?_
    refine AllReadyH.cons (o:=⟨some 47,.call {callee:=.value (.func 12),args:=#[.tmp 46],argTypes:=#[36]},33, "totals.go:64",#[⟨19,.data⟩,⟨18,.chain⟩,⟨18,.guard⟩],some (18,true)⟩) rfl (fun K hK=>?_) AllReadyH.nil
    go_simp
    have hcM:=hal
    refine (assets_calls _ cs _ fees forf HX.out.1 es (HE.out.tr (HB4.out.2.2.2.tr hcM)) HX.out.2.2.2.2.2.1).mono ?_
    rintro e w5 ⟨u5,d,rfl,g1,g2,g3,g4,g5⟩
    obtain ⟨va,vn,vc,rfl⟩:=ownsRow_slice g3
    have HG:=hh (And.intro g1 (And.intro g2 (And.intro (tots_at g3 (by have:=perm_le g1; have:=HX.out.2.2.2.2.2.1; omega)) (hcM.tr g5))))
    have HG5:=hh g5
    clear g1 g2 g3 g4 g5
    refine hK.out _ _ HG.out.2.2.2 (fun hH=>?_)
    clear hK K
    (try simp only [Act.put,ja,jb,jc])
    have HRW:=hh (rows_tr HRW0.out HG5.out)
    have HN6:=hh (And.intro HG.out.2.2.1 (And.intro HG.out.2.2.2 trivial))
    have HMC:=hh (merge_calls _ _ _ HRW.out (by have h:=perm_le HD.out.1; have:=HX.out.2.2.2.2.2.2; simp only [List.flatten_cons,List.flatten_nil,List.append_nil,List.length_append]; omega) (by have h:=perm_le HD.out.1; have h9:=bookA_len (d2 ++ mint); have:=HX.out.2.2.2.2.2.2; simp only [List.flatten_cons,List.flatten_nil,List.append_nil,List.length_append] at h9 ⊢; omega))
    simp only [List.flatten_cons,List.flatten_nil,List.append_nil] at HMC
    refine tr (rs:=[28]) ?_
    refine AllReadyH.cons (o:=⟨some 55,.call {callee:=.value (.func 39),args:=#[.tmp 54],argTypes:=#[58]},33, "totals.go:64",#[⟨27,.data⟩,⟨20,.chain⟩,⟨18,.guard⟩],some (18,true)⟩) rfl (fun K hK=>?_) AllReadyH.nil
    go_simp
    refine HMC.out.mono ?_
    rintro e w7 ⟨u7,m,rfl,k1,k2,k3,k4,k5⟩
    obtain ⟨xa,xn,xc,rfl⟩:=ownsRow_slice k3
    have hM7:=HN6.out.2.1.tr k5
    have HEQ:=hh (equal_calls w7 _ _ d m (HN6.out.1.tr k5) (tots_at k3 (by have h:=perm_le' k1; have h2:=perm_le HD.out.1; have:=HX.out.2.2.2.2.2.2; simp only [List.length_append] at h; omega)))
    have HK:=hh (And.intro k1 k2)
    refine hK.out _ _ hM7 (fun hH=>?_)
    have HM7:=hh hM7
    clear hK K k1 k2 k3 k4 k5 hM7
    (try simp only [Act.put,ja,jb,jc])
    refine tr (rs:=[29]) ?_
    refine AllReadyH.cons (o:=⟨some 56,.call {callee:=.value (.func 38),args:=#[.tmp 47,.tmp 55],argTypes:=#[33,33]},4, "totals.go:64",#[⟨20,.data⟩,⟨28,.data⟩,⟨28,.chain⟩,⟨18,.guard⟩],some (18,true)⟩) rfl (fun K hK=>?_) AllReadyH.nil
    go_simp
    refine HEQ.out.mono ?_
    rintro e w8 ⟨rfl,hm8⟩
    have HM8:=hh (HM7.out.tr hm8)
    refine hK.out _ _ HM8.out (fun hH=>?_)
    clear hK K hm8
    (try simp only [Act.put,ja,jb,jc])
    refine tk (i:=30) (oi:=⟨some 57,.pick (.tmp 45) (.tmp 56) (.const (.bool false)),4, "totals.go:64",#[⟨18,.data⟩,⟨29,.data⟩],none⟩) (v:=.bool (decide (d.map tN=m.map tN))) hH ?_ ?_
    ·intro w' hSw
     go_simp; try with_reducible rfl
    refine tq (i:=31) (oi:=⟨some 4,.assign (.tmp 57),4, "totals.go:64",#[⟨30,.data⟩,⟨29,.chain⟩,⟨0,.phase⟩,⟨1,.phase⟩,⟨2,.phase⟩,⟨3,.phase⟩,⟨4,.phase⟩,⟨5,.phase⟩,⟨6,.phase⟩,⟨7,.phase⟩,⟨8,.phase⟩,⟨9,.phase⟩,⟨10,.phase⟩,⟨11,.phase⟩,⟨12,.phase⟩,⟨13,.phase⟩,⟨14,.phase⟩,⟨15,.phase⟩,⟨16,.phase⟩,⟨17,.phase⟩,⟨18,.phase⟩,⟨19,.phase⟩,⟨20,.phase⟩,⟨21,.phase⟩,⟨22,.phase⟩,⟨23,.phase⟩,⟨24,.phase⟩,⟨25,.phase⟩,⟨26,.phase⟩,⟨27,.phase⟩,⟨28,.phase⟩,⟨29,.phase⟩,⟨30,.phase⟩],none⟩) (v:=.bool (decide (d.map tN=m.map tN))) hH ?_
    refine wpAnyH_done (by kernel_rfl) ?_ _
    go_wp2_with fail
    go_ret
    exact ⟨d,d2,m,rfl,HG.out.1,HG.out.2.1,HD.out.1,HD.out.2.1,HK.out.1,HK.out.2,HM.out.tr (HB4.out.2.2.2.tr HM8.out)⟩
set_option maxRecDepth 100000 in
set_option maxHeartbeats 4000000 in
theorem whole_diff (w:World) (cs gs:List Value) (sv ov mv:Value) (fees forf:Int) (hc:StC cs sv fees forf) (hmv:cs[179]?=some mv) (hov:gs[13]?=some ov) (hf:In64 fees) (hg:In64 forf)
  (es os:List Ent) (mint:List (Nm×Int)) (hes:EntsAt w sv es) (hos:OutsAt w ov os) (hol:os.length<=1000000) (hmt:TotsAt w mv mint) (hz:¬ (hiW (coins (es.map (·.val))+(fees+forf))=hiW (coins (os.map (·.val)))/\loW (coins (es.map (·.val))+(fees+forf))=loW (coins (os.map (·.val)))))
  (hb1:(bookV (es.map (·.val))).length<=1000000) (hb2:(bookV (os.map (·.val))).length+mint.length<=1000000) :
  Calls Tryz.prog 17 #[.agg cs.toArray,.agg gs.toArray] w fun e w'=>e=.returned (.bool false)/\Mod N0 w w':=by
 obtain ⟨w1,hw1⟩:∃ w1,(w.alloc (.cells cs.toArray 36)).alloc (.cells gs.toArray 39)=w1:=⟨_,rfl⟩
 have hA:w1.heap[w.heap.size]?=some (.cells cs.toArray 36 (0,0)):=by rw [← hw1]; exact allocB (newB w _) _
 have hG:w1.heap[w.heap.size+1]?=some (.cells gs.toArray 39 (0,0)):=by
  rw [← hw1]; have:=newB (w.alloc (.cells cs.toArray 36)) (.cells gs.toArray 39); rwa [World.size_alloc] at this
 have hm1:Mod N0 w w1:=by rw [← hw1]; exact ((Mod.refl _ w).alloc _).alloc _
 have s13:w1.cell? ⟨w.heap.size+1,13,none⟩=some ov:=by rw [cellB hG,List.getElem?_toArray]; exact hov
 have HA:=hh (fun (W:World) (hW:Mod N0 w1 W)=>(hW.block _ (ltB hA) (fun q=>q)).trans hA)
 have HX:=hh (And.intro hc (And.intro hmv (And.intro hf (And.intro hg (And.intro hz (And.intro hb1 hb2))))))
 have HE:=hh (hes.tr hm1)
 have HT:=hh (hmt.tr hm1)
 have HM:=hh hm1
 obtain ⟨oa,oc,rfl,hoel⟩:=id (hos.tr hm1)
 have HO:=hh hoel
 obtain ⟨ma,mc,rfl,_⟩:=id hmt
 have hsa:=HE.out
 obtain ⟨sa,sc,rfl,_⟩:=id hes
 obtain ⟨z49,hz49,hs49⟩:=zv49
 have HZ:=hh (And.intro hz49 hs49)
 clear hA hG hm1 hov hc hmv hf hg hz hb1 hb2 hes hos hmt hoel hsa hz49 hs49
 go_enter Tryz.func17,Tryz.ntmps17
 go_wp2_with fail
 go_loopw [5,13] (fun v5 i wr=>∃ (k:Nat) (v':Value) (l:EntL),k<=os.length/\v'=v5/\i=.int .i64 k/\l.map (·.1)=(os.take k).map zEnt/\RowE w1 wr v' l/\Mod N0 w1 wr) (fun _ i _=>os.length - (intOf i).toNat)
 case atStart=>exact ⟨0,_,[],by omega,rfl,rfl,rfl,⟨fun x hx=>by simp at hx,⟨rfl,.inl ⟨rfl,rfl⟩⟩,fun k hk=>by cases hk⟩,Mod.refl _ w1⟩
 case round=>
  obtain ⟨k,v5,l,hk,rfl,rfl,hl,hr,hm⟩:=hrel
  by_cases hlt:k<os.length
  ·obtain ⟨x,hx⟩:∃ x,os[k]?=some x:=⟨_,List.getElem?_eq_getElem hlt⟩
   obtain ⟨hco,L,off,a2,c2,rfl,hL,hAs,hcs⟩:=HO.out k x hx
   have hl49:(loadVar 71 ⟨L,off+k * 69,none⟩).run Tryz.prog wr=.ok (.agg (outCells x a2 c2).toArray) wr:=
    run_loadVar_mid wr L (off+k * 69) 71 (outCells x a2 c2) _ (fun q u hu=>(hm.cell (p:=⟨L,_,none⟩) hL (fun q=>q)).trans (hcs q u hu)) Tryz.underlying71 rfl (by rw [size49,outCells_length])
   have hZ:=newB wr (.cells z49 71)
   have hone:(outCells x a2 c2).toArray.all (·.oneCell')=true:=by
    have:=entCells_one x a2 c2
    rw [List.all_toArray,List.all_eq_true] at this ⊢
    exact fun u hu=>this u (List.mem_append_right _ hu)
   have hst:(storeVar 71 ⟨wr.heap.size,0,none⟩ (.agg (outCells x a2 c2).toArray)).run Tryz.prog (wr.alloc (.cells z49 71))=.ok () ((wr.alloc (.cells z49 71)).setRow wr.heap.size (outCells x a2 c2).toArray):=
    run_storeVar_row (P:=Tryz.prog) _ wr.heap.size 71 71 z49 (outCells x a2 c2).toArray hZ (by rw [size49]; simp [outCells_length]) (by rw [HZ.out.2]; simp [outCells_length]) hone
   have hR:=setRow_same (cs:=(outCells x a2 c2).toArray) hZ
   have hmr:Mod N0 wr ((wr.alloc (.cells z49 71)).setRow wr.heap.size (outCells x a2 c2).toArray):=Mod_setRow ((Mod.refl _ wr).alloc (.cells z49 71)) (b:=wr.heap.size) (fun q=>by omega) _
   generalize (wr.alloc (.cells z49 71)).setRow wr.heap.size (outCells x a2 c2).toArray=w2 at hst hR hmr
   have hld2:(loadVar 71 ⟨wr.heap.size,0,none⟩).run Tryz.prog w2=.ok (.agg (outCells x a2 c2).toArray) w2:=
    run_loadVar_mid w2 wr.heap.size 0 71 (outCells x a2 c2) _ (fun j v hv=>by rw [Nat.zero_add,cellB hR,List.getElem?_toArray]; exact hv) Tryz.underlying71 rfl (by rw [size49,outCells_length])
   have HLD:=hh (And.intro hl49 (And.intro hst hld2))
   have HF:=hh (And.intro hco (And.intro hAs (And.intro hx hl)))
   have HR:=hh (And.intro (hr.tr hmr) (hm.tr hmr))
   have hlk:l.length<=k:=by
    have h1:=congrArg List.length hl
    simp only [List.length_map,List.length_take] at h1
    omega
   clear hl49 hst hR hmr hco hAs hx hl hcs hZ hr hm hone hld2
   obtain ⟨i51,hi,hi0,hi1,hi2⟩:=info_parts info51
   go_upto_region 4 with fail
   refine wp_region_lit ?_
   refine ex (v:=.pointer (some ⟨L,off+k * 69,none⟩)) ?_
   refine wx (exec_load_at _ _ 71 _ rfl ⟨L,off+k * 69,none⟩ rfl HLD.out.1) ?_
   refine ww (exec_alloc _ _ 71 z49 rfl HZ.out.1) ?_
   refine wpList_execS rfl (exec_store _ _ rfl rfl rfl HLD.out.2.1) ?_
   (try simp only [Act.put])
   go_upto_region 5 with fail
   refine wp_region_lit ?_
   refine ex (v:=v5) ?_
   refine wx (exec_load_at _ _ 71 _ rfl ⟨wr.heap.size,0,none⟩ rfl HLD.out.2.2) ?_
   refine wx (exec_buildL _ _ [(1,.tmp 18)] rfl [(1,.agg (outCells x a2 c2).toArray)] rfl (entCells (zEnt x) a2 c2).toArray (built51 x a2 c2)) ?_
   have hsl:∀ (act:Act) (o:Oper) (a:Operand),o.op=.buildSlice 28 1 #[(0,a)]->act.eval a=.agg (entCells (zEnt x) a2 c2).toArray->(execOp act.eval o).run Tryz.prog w2=.ok (.value (.slice (some ⟨w2.heap.size,0,none⟩) 1 1)) (w2.alloc (.cells (entCells (zEnt x) a2 c2).toArray 73)):=by
    intro act o a ho ha
    have:=exec_slicesL act o (w:=w2) [(0,a)] ho [.agg (entCells (zEnt x) a2 c2).toArray] (by simp [ha]) (E:=73) (s:=102) Tryz.underlying28 hi hi0 hi1 (by omega) rfl (by omega) (by omega) (by intro y hy; simp at hy; subst hy; simp [Value.cells,entCells_length])
    simpa [Value.cells] using this
   refine wpList_execW rfl (hsl _ _ _ rfl rfl) ?_
   clear hsl
   (try simp only [Act.put,ja,jb,jc])
   have hmA:Mod N0 w2 (w2.alloc (.cells (entCells (zEnt x) a2 c2).toArray 73)):=(Mod.refl _ w2).alloc _
   have HN:=hh (row_cells (newB w2 (.cells (entCells (zEnt x) a2 c2).toArray 73)))
   have HRA:=hh (And.intro (HR.out.1.tr hmA) (HR.out.2.tr hmA))
   clear hmA
   generalize w2.alloc (.cells (entCells (zEnt x) a2 c2).toArray 73)=w3 at HN HRA
   refine wpList_append_at _ rfl _ _ 28 rfl 73 i51 _ 102 176 Tryz.underlying28 hi hi0 hi1 hi2 (by simpa [Value.cells] using z51_size) (by decide) v5 l.length (entsCells l) rfl HRA.out.1.2.1 ⟨w2.heap.size,0,none⟩ 1 1 (entCells (zEnt x) a2 c2) rfl (by rw [entCells_length]) HN.out (by have:=entCells_one (zEnt x) a2 c2; rw [List.all_toArray,List.all_eq_true] at this; exact this) (by simp only [maxLen]; omega) (by omega) ?_
   intro v6 w6 ho6 hg6 hat6
   have H7:RowE w1 w6 v6 (l ++ [(zEnt x,a2,c2)]):=by
    refine ⟨fun y hy=>?_,?_,fun q hq=>?_⟩
    ·rcases List.mem_append.1 hy with h1|h1
     ·exact HRA.out.1.1 y h1
     ·simp at h1; subst h1
      exact ⟨HF.out.1,HF.out.2.1⟩
    ·simpa [entsCells] using ho6
    ·rcases hat6 q hq with h1|h1
     ·exact HRA.out.1.2.2 q h1
     ·have:=HRA.out.2.size
      omega
   have H8:Mod N0 w1 w6:=HRA.out.2.grown hg6 (fun q hq hl=>by have:=HRA.out.1.2.2 q hq; omega)
   have H9:=hh (And.intro H7 H8)
   clear H7 H8 ho6 hg6 hat6
   (try simp only [Act.put,ja,jb,jc])
   go_wp2_with fail
   go_roundw
   case rel=>exact ⟨k+1,_,_,by omega,rfl,by simp,by rw [List.take_add_one,HF.out.2.2.1]; simp [HF.out.2.2.2],H9.out.1,H9.out.2⟩
   case measure=>simp [intOf]; omega
  ·have e:k=os.length:=by omega
   subst e
   rw [List.take_length] at hl
   have hval:(l.map (·.1)).map (·.val)=os.map (·.val):=by rw [hl,List.map_map]; rfl
   have hll:l.length=os.length:=by simpa using congrArg List.length hl
   have hEl:=hr.ents hm (by omega)
   have HT2:=hh (tof_all wr v5 _ hEl (fun _=>true) (fun y _ a c W _=>each_calls y a c W) (by rw [filter_all,hval]; have:=HX.out.2.2.2.2.2.2; omega))
   rw [filter_all,hval] at HT2
   have HMR:=hh hm
   clear hr hEl hl hm hval hll
   go_wp2_with fail
   refine HT2.out.mono ?_
   rintro e w2 ⟨b,u,d2,rfl,hb2,hb,h1,h2,h3,h4,h5⟩
   obtain ⟨ua,un,uc,rfl⟩:=ownsRow_slice h3
   have hM2:=HMR.out.tr h5
   have HCC:=hh (coins_calls w2 cs _ fees forf HX.out.1 HX.out.2.2.1 HX.out.2.2.2.1 es (HE.out.tr hM2) HX.out.2.2.2.2.2.1)
   have HD:=hh (And.intro h1 (And.intro h2 (And.intro (tots_at h3 (by have:=perm_le h1; have:=HX.out.2.2.2.2.2.2; omega)) hb2)))
   have HM2:=hh hM2
   have HL36:=hh (load36_box HX.out.1.len (HA.out _ hM2))
   clear h1 h2 h3 h4 h5 hM2 hb2 hb
   go_wp2_with (refine wpList_exec rfl (exec_load_at _ _ 36 _ rfl ⟨w.heap.size,0,none⟩ rfl HL36.out) ?_)
   refine HCC.out.mono ?_
   rintro e w3 ⟨rfl,hm3⟩
   have hb3:=(hm3.block _ (ltB HD.out.2.2.2) (fun q=>q)).trans HD.out.2.2.2
   have HD3:=hh (And.intro (HD.out.2.2.1.tr hm3) hb3)
   have HM3:=hh (HM2.out.tr hm3)
   have hb3s:=ltB hb3
   clear hm3 hb3
   obtain ⟨zo,hzo⟩:∃ zo,coins (os.map (·.val))=zo:=⟨_,rfl⟩
   obtain ⟨zc,hzc⟩:∃ zc,coins (es.map (·.val))+(fees+forf)=zc:=⟨_,rfl⟩
   have hzz:=HX.out.2.2.2.2.1
   rw [hzo,hzc] at hzz
   rw [hzo] at HD3
   rw [hzc]
   have hst:=store57 (w3.alloc (.cells #[.int .i64 0,.int .u64 0] 48)) w3.heap.size zc (newB w3 _)
   have hb4:=setRow_same (cs:=#[.int .i64 (hiW zc),.int .u64 (loW zc)]) (newB w3 (.cells #[.int .i64 0,.int .u64 0] 48))
   have hm4:Mod N0 w3 ((w3.alloc (.cells #[.int .i64 0,.int .u64 0] 48)).setRow w3.heap.size #[.int .i64 (hiW zc),.int .u64 (loW zc)]):=Mod_setRow ((Mod.refl _ w3).alloc _) (fun q=>by omega) _
   generalize (w3.alloc (.cells #[.int .i64 0,.int .u64 0] 48)).setRow w3.heap.size #[.int .i64 (hiW zc),.int .u64 (loW zc)]=w4 at hst hb4 hm4
   have HST:=hh hst
   have HB4:=hh (And.intro hb4 (And.intro ((hm4.block _ (ltB HD3.out.2) (fun q=>q)).trans HD3.out.2) (And.intro (HD3.out.1.tr hm4) (HM3.out.tr hm4))))
   clear hb4 hm4 hst
   go_upto_region 9 with (refine wpList_execS rfl (exec_store _ _ rfl rfl rfl HST.out) ?_)
   have HS:=hh (fun (W:World) (hW:Mod N0 w4 W)=>And.intro ((hW.block _ (ltB HB4.out.1) (fun q=>q)).trans HB4.out.1) ((hW.block _ (ltB HB4.out.2.1) (fun q=>q)).trans HB4.out.2.1))
   refine wp_region_held_drew (S:=fun W=>Mod N0 w4 W) (by kernel_rfl) (Mod.refl _ w4).drew (fun hH=>?_)
   refine tq (i:=0) (oi:=⟨some 27,.fieldAddr 48 (.tmp 9) 0,0, "totals.go:64",#[],none⟩) (v:=.pointer (some ⟨w3.heap.size,0,none⟩)) hH ?_
   refine tk (i:=1) (oi:=⟨some 28,.load 2 (.tmp 27),2, "totals.go:64",#[⟨0,.data⟩],none⟩) (v:=.int .i64 (hiW zc)) hH ?_ ?_
   ·intro w' hSw
    have s:w'.cell? ⟨w3.heap.size,0,none⟩=some (.int .i64 (hiW zc)):=(cellB (HS.out _ hSw).1 0).trans rfl
    go_simp
    try with_reducible rfl
   refine tq (i:=2) (oi:=⟨some 29,.move (.tmp 8),86, "totals.go:64",#[],none⟩) (v:=.pointer (some ⟨b,0,none⟩)) hH ?_
   refine tq (i:=3) (oi:=⟨some 30,.nilCheck (.tmp 29),0, "totals.go:64",#[⟨2,.data⟩],none⟩) (v:=.pointer (some ⟨b,0,none⟩)) hH ?_
   refine tq (i:=4) (oi:=⟨some 31,.fieldAddr 90 (.tmp 30) 0,0, "totals.go:64",#[⟨3,.data⟩],none⟩) (v:=.pointer (some ⟨b,0,none⟩)) hH ?_
   refine tq (i:=5) (oi:=⟨some 32,.fieldAddr 48 (.tmp 31) 0,0, "totals.go:64",#[⟨4,.data⟩],none⟩) (v:=.pointer (some ⟨b,0,none⟩)) hH ?_
   refine tk (i:=6) (oi:=⟨some 33,.load 2 (.tmp 32),2, "totals.go:64",#[⟨5,.data⟩],none⟩) (v:=.int .i64 (hiW zo)) hH ?_ ?_
   ·intro w' hSw
    have s:w'.cell? ⟨b,0,none⟩=some (.int .i64 (hiW zo)):=(cellB (HS.out _ hSw).2 0).trans rfl
    go_simp
    try with_reducible rfl
   by_cases hh:hiW zc=hiW zo
   ·have hl:¬ loW zc=loW zo:=fun e=>hzz ⟨hh,e⟩
    have h7:(hiW zc == hiW zo)=true:=by simp [hh]
    have h7':decide (hiW zc=hiW zo)=true:=by simp [hh]
    have h16:(loW zc == loW zo)=false:=by simp [hl]
    have h16':decide (loW zc=loW zo)=false:=by simp [hl]
    clear hzz
    refine tq (i:=7) (oi:=⟨some 34,.binOp .eql 2 (.tmp 28) (.tmp 33) 2,4, "totals.go:64",#[⟨1,.data⟩,⟨6,.data⟩],none⟩) (v:=.bool true) hH ?_
    refine tq (i:=8) (oi:=⟨some 35,.move (.tmp 34),4, "totals.go:64",#[⟨7,.data⟩],none⟩) (v:=.bool true) hH ?_
    refine tq (i:=9) (oi:=⟨some 36,.fieldAddr 48 (.tmp 9) 1,0, "totals.go:64",#[⟨8,.guard⟩],some (8,true)⟩) (v:=.pointer (some ⟨w3.heap.size,1,none⟩)) hH ?_
    refine tk (i:=10) (oi:=⟨some 37,.load 30 (.tmp 36),30, "totals.go:64",#[⟨9,.data⟩,⟨8,.guard⟩],some (8,true)⟩) (v:=.int .u64 (loW zc)) hH ?_ ?_
    ·intro w' hSw
     have s:w'.cell? ⟨w3.heap.size,1,none⟩=some (.int .u64 (loW zc)):=(cellB (HS.out _ hSw).1 1).trans rfl
     go_simp
     try with_reducible rfl
    refine tq (i:=11) (oi:=⟨some 38,.move (.tmp 8),86, "totals.go:64",#[⟨8,.guard⟩],some (8,true)⟩) (v:=.pointer (some ⟨b,0,none⟩)) hH ?_
    refine tq (i:=12) (oi:=⟨some 39,.nilCheck (.tmp 38),0, "totals.go:64",#[⟨11,.data⟩,⟨8,.guard⟩],some (8,true)⟩) (v:=.pointer (some ⟨b,0,none⟩)) hH ?_
    refine tq (i:=13) (oi:=⟨some 40,.fieldAddr 90 (.tmp 39) 0,0, "totals.go:64",#[⟨12,.data⟩,⟨8,.guard⟩],some (8,true)⟩) (v:=.pointer (some ⟨b,0,none⟩)) hH ?_
    refine tq (i:=14) (oi:=⟨some 41,.fieldAddr 48 (.tmp 40) 1,0, "totals.go:64",#[⟨13,.data⟩,⟨8,.guard⟩],some (8,true)⟩) (v:=.pointer (some ⟨b,1,none⟩)) hH ?_
    refine tk (i:=15) (oi:=⟨some 42,.load 30 (.tmp 41),30, "totals.go:64",#[⟨14,.data⟩,⟨8,.guard⟩],some (8,true)⟩) (v:=.int .u64 (loW zo)) hH ?_ ?_
    ·intro w' hSw
     have s:w'.cell? ⟨b,1,none⟩=some (.int .u64 (loW zo)):=(cellB (HS.out _ hSw).2 1).trans rfl
     go_simp
     try with_reducible rfl
    refine tq (i:=16) (oi:=⟨some 43,.binOp .eql 30 (.tmp 37) (.tmp 42) 30,4, "totals.go:64",#[⟨10,.data⟩,⟨15,.data⟩,⟨8,.guard⟩],some (8,true)⟩) (v:=.bool false) hH ?_
    clear h7 h7' h16 h16' hh hl
    refine tq (i:=17) (oi:=⟨some 44,.pick (.tmp 35) (.tmp 43) (.const (.bool false)),4, "totals.go:64",#[⟨8,.data⟩,⟨16,.data⟩],none⟩) (v:=.bool false) hH ?_
    refine tq (i:=18) (oi:=⟨some 45,.move (.tmp 44),4, "totals.go:64",#[⟨17,.data⟩,⟨8,.chain⟩],none⟩) (v:=.bool false) hH ?_
    refine tn (i:=19) (oi:=⟨some 46,.load 36 (.tmp 2),36, "totals.go:64",#[⟨18,.guard⟩],some (18,true)⟩) (v:=undef) hH ?_
    refine tn (i:=21) (oi:=⟨some 48,.move (.tmp 8),86, "totals.go:64",#[⟨18,.guard⟩],some (18,true)⟩) (v:=undef) hH ?_
    refine tn (i:=22) (oi:=⟨some 49,.nilCheck (.tmp 48),0, "totals.go:64",#[⟨21,.data⟩,⟨18,.guard⟩],some (18,true)⟩) (v:=undef) hH ?_
    refine tn (i:=23) (oi:=⟨some 50,.fieldAddr 90 (.tmp 49) 1,0, "totals.go:64",#[⟨22,.data⟩,⟨18,.guard⟩],some (18,true)⟩) (v:=undef) hH ?_
    refine tn (i:=24) (oi:=⟨some 51,.load 33 (.tmp 50),33, "totals.go:64",#[⟨23,.data⟩,⟨18,.guard⟩],some (18,true)⟩) (v:=undef) hH ?_
    refine tn (i:=25) (oi:=⟨some 52,.fieldAddr 36 (.tmp 2) 9,0, "totals.go:64",#[⟨18,.guard⟩],some (18,true)⟩) (v:=undef) hH ?_
    refine tn (i:=26) (oi:=⟨some 53,.load 33 (.tmp 52),33, "totals.go:64",#[⟨25,.data⟩,⟨18,.guard⟩],some (18,true)⟩) (v:=undef) hH ?_
    refine tr (rs:=[20,27]) ?_
    refine AllReadyH.cons (o:=⟨some 47,.call {callee:=.value (.func 12),args:=#[.tmp 46],argTypes:=#[36]},33, "totals.go:64",#[⟨19,.data⟩,⟨18,.chain⟩,⟨18,.guard⟩],some (18,true)⟩) rfl (fun K hK=>?_) (AllReadyH.cons (o:=⟨some 54,.buildSlice 58 2 #[(0,.tmp 51),(1,.tmp 53)],58, "totals.go:64",#[⟨24,.data⟩,⟨26,.data⟩,⟨18,.guard⟩],some (18,true)⟩) rfl (fun K hK=>?_) AllReadyH.nil)
    ·rw [if_neg (by rw [show Region.wanted _ _=false by rfl]; simp)]
     refine hK.out _ _ (Mod.refl _ w4).drew (fun hH=>?_)
     clear hK K
     (try simp only [Act.put,ja,jb,jc])
     refine tr (rs:=[27]) ?_
     refine AllReadyH.cons (o:=⟨some 54,.buildSlice 58 2 #[(0,.tmp 51),(1,.tmp 53)],58, "totals.go:64",#[⟨24,.data⟩,⟨26,.data⟩,⟨18,.guard⟩],some (18,true)⟩) rfl (fun K hK=>?_) AllReadyH.nil
     rw [if_neg (by rw [show Region.wanted _ _=false by rfl]; simp)]
     refine hK.out _ _ (Mod.refl _ w4).drew (fun hH=>?_)
     clear hK K
     (try simp only [Act.put,ja,jb,jc])
     refine tr (rs:=[28]) ?_
     refine AllReadyH.cons (o:=⟨some 55,.call {callee:=.value (.func 39),args:=#[.tmp 54],argTypes:=#[58]},33, "totals.go:64",#[⟨27,.data⟩,⟨20,.chain⟩,⟨18,.guard⟩],some (18,true)⟩) rfl (fun K hK=>?_) AllReadyH.nil
     rw [if_neg (by rw [show Region.wanted _ _=false by rfl]; simp)]
     refine hK.out _ _ (Mod.refl _ w4).drew (fun hH=>?_)
     clear hK K
     (try simp only [Act.put,ja,jb,jc])
     refine tr (rs:=[29]) ?_
     refine AllReadyH.cons (o:=⟨some 56,.call {callee:=.value (.func 38),args:=#[.tmp 47,.tmp 55],argTypes:=#[33,33]},4, "totals.go:64",#[⟨20,.data⟩,⟨28,.data⟩,⟨28,.chain⟩,⟨18,.guard⟩],some (18,true)⟩) rfl (fun K hK=>?_) AllReadyH.nil
     rw [if_neg (by rw [show Region.wanted _ _=false by rfl]; simp)]
     refine hK.out _ _ (Mod.refl _ w4).drew (fun hH=>?_)
     clear hK K
     (try simp only [Act.put,ja,jb,jc])
     refine tq (i:=30) (oi:=⟨some 57,.pick (.tmp 45) (.tmp 56) (.const (.bool false)),4, "totals.go:64",#[⟨18,.data⟩,⟨29,.data⟩],none⟩) (v:=.bool false) hH ?_
     refine tq (i:=31) (oi:=⟨some 4,.assign (.tmp 57),4, "totals.go:64",#[⟨30,.data⟩,⟨29,.chain⟩,⟨0,.phase⟩,⟨1,.phase⟩,⟨2,.phase⟩,⟨3,.phase⟩,⟨4,.phase⟩,⟨5,.phase⟩,⟨6,.phase⟩,⟨7,.phase⟩,⟨8,.phase⟩,⟨9,.phase⟩,⟨10,.phase⟩,⟨11,.phase⟩,⟨12,.phase⟩,⟨13,.phase⟩,⟨14,.phase⟩,⟨15,.phase⟩,⟨16,.phase⟩,⟨17,.phase⟩,⟨18,.phase⟩,⟨19,.phase⟩,⟨20,.phase⟩,⟨21,.phase⟩,⟨22,.phase⟩,⟨23,.phase⟩,⟨24,.phase⟩,⟨25,.phase⟩,⟨26,.phase⟩,⟨27,.phase⟩,⟨28,.phase⟩,⟨29,.phase⟩,⟨30,.phase⟩],none⟩) (v:=.bool false) hH ?_
     refine wpAnyH_done (by kernel_rfl) ?_ _
     go_wp2_with fail
     go_ret
     exact ⟨rfl,HM.out.tr HB4.out.2.2.2.drew⟩
    ·rw [if_neg (by rw [show Region.wanted _ _=false by rfl]; simp)]
     refine hK.out _ _ (Mod.refl _ w4).drew (fun hH=>?_)
     clear hK K
     (try simp only [Act.put,ja,jb,jc])
     refine tr (rs:=[20]) ?_
     refine AllReadyH.cons (o:=⟨some 47,.call {callee:=.value (.func 12),args:=#[.tmp 46],argTypes:=#[36]},33, "totals.go:64",#[⟨19,.data⟩,⟨18,.chain⟩,⟨18,.guard⟩],some (18,true)⟩) rfl (fun K hK=>?_) AllReadyH.nil
     rw [if_neg (by rw [show Region.wanted _ _=false by rfl]; simp)]
     refine hK.out _ _ (Mod.refl _ w4).drew (fun hH=>?_)
     clear hK K
     (try simp only [Act.put,ja,jb,jc])
     refine tr (rs:=[28]) ?_
     refine AllReadyH.cons (o:=⟨some 55,.call {callee:=.value (.func 39),args:=#[.tmp 54],argTypes:=#[58]},33, "totals.go:64",#[⟨27,.data⟩,⟨20,.chain⟩,⟨18,.guard⟩],some (18,true)⟩) rfl (fun K hK=>?_) AllReadyH.nil
     rw [if_neg (by rw [show Region.wanted _ _=false by rfl]; simp)]
     refine hK.out _ _ (Mod.refl _ w4).drew (fun hH=>?_)
     clear hK K
     (try simp only [Act.put,ja,jb,jc])
     refine tr (rs:=[29]) ?_
     refine AllReadyH.cons (o:=⟨some 56,.call {callee:=.value (.func 38),args:=#[.tmp 47,.tmp 55],argTypes:=#[33,33]},4, "totals.go:64",#[⟨20,.data⟩,⟨28,.data⟩,⟨28,.chain⟩,⟨18,.guard⟩],some (18,true)⟩) rfl (fun K hK=>?_) AllReadyH.nil
     rw [if_neg (by rw [show Region.wanted _ _=false by rfl]; simp)]
     refine hK.out _ _ (Mod.refl _ w4).drew (fun hH=>?_)
     clear hK K
     (try simp only [Act.put,ja,jb,jc])
     refine tq (i:=30) (oi:=⟨some 57,.pick (.tmp 45) (.tmp 56) (.const (.bool false)),4, "totals.go:64",#[⟨18,.data⟩,⟨29,.data⟩],none⟩) (v:=.bool false) hH ?_
     refine tq (i:=31) (oi:=⟨some 4,.assign (.tmp 57),4, "totals.go:64",#[⟨30,.data⟩,⟨29,.chain⟩,⟨0,.phase⟩,⟨1,.phase⟩,⟨2,.phase⟩,⟨3,.phase⟩,⟨4,.phase⟩,⟨5,.phase⟩,⟨6,.phase⟩,⟨7,.phase⟩,⟨8,.phase⟩,⟨9,.phase⟩,⟨10,.phase⟩,⟨11,.phase⟩,⟨12,.phase⟩,⟨13,.phase⟩,⟨14,.phase⟩,⟨15,.phase⟩,⟨16,.phase⟩,⟨17,.phase⟩,⟨18,.phase⟩,⟨19,.phase⟩,⟨20,.phase⟩,⟨21,.phase⟩,⟨22,.phase⟩,⟨23,.phase⟩,⟨24,.phase⟩,⟨25,.phase⟩,⟨26,.phase⟩,⟨27,.phase⟩,⟨28,.phase⟩,⟨29,.phase⟩,⟨30,.phase⟩],none⟩) (v:=.bool false) hH ?_
     refine wpAnyH_done (by kernel_rfl) ?_ _
     go_wp2_with fail
     go_ret
     exact ⟨rfl,HM.out.tr HB4.out.2.2.2.drew⟩
   ·have h7:(hiW zc == hiW zo)=false:=by simp [hh]
    have h7':decide (hiW zc=hiW zo)=false:=by simp [hh]
    clear hzz
    refine tq (i:=7) (oi:=⟨some 34,.binOp .eql 2 (.tmp 28) (.tmp 33) 2,4, "totals.go:64",#[⟨1,.data⟩,⟨6,.data⟩],none⟩) (v:=.bool false) hH ?_
    refine tq (i:=8) (oi:=⟨some 35,.move (.tmp 34),4, "totals.go:64",#[⟨7,.data⟩],none⟩) (v:=.bool false) hH ?_
    refine tn (i:=9) (oi:=⟨some 36,.fieldAddr 48 (.tmp 9) 1,0, "totals.go:64",#[⟨8,.guard⟩],some (8,true)⟩) (v:=undef) hH ?_
    refine tn (i:=10) (oi:=⟨some 37,.load 30 (.tmp 36),30, "totals.go:64",#[⟨9,.data⟩,⟨8,.guard⟩],some (8,true)⟩) (v:=undef) hH ?_
    refine tn (i:=11) (oi:=⟨some 38,.move (.tmp 8),86, "totals.go:64",#[⟨8,.guard⟩],some (8,true)⟩) (v:=undef) hH ?_
    refine tn (i:=12) (oi:=⟨some 39,.nilCheck (.tmp 38),0, "totals.go:64",#[⟨11,.data⟩,⟨8,.guard⟩],some (8,true)⟩) (v:=undef) hH ?_
    refine tn (i:=13) (oi:=⟨some 40,.fieldAddr 90 (.tmp 39) 0,0, "totals.go:64",#[⟨12,.data⟩,⟨8,.guard⟩],some (8,true)⟩) (v:=undef) hH ?_
    refine tn (i:=14) (oi:=⟨some 41,.fieldAddr 48 (.tmp 40) 1,0, "totals.go:64",#[⟨13,.data⟩,⟨8,.guard⟩],some (8,true)⟩) (v:=undef) hH ?_
    refine tn (i:=15) (oi:=⟨some 42,.load 30 (.tmp 41),30, "totals.go:64",#[⟨14,.data⟩,⟨8,.guard⟩],some (8,true)⟩) (v:=undef) hH ?_
    refine tn (i:=16) (oi:=⟨some 43,.binOp .eql 30 (.tmp 37) (.tmp 42) 30,4, "totals.go:64",#[⟨10,.data⟩,⟨15,.data⟩,⟨8,.guard⟩],some (8,true)⟩) (v:=undef) hH ?_
    clear h7 h7' hh
    refine tq (i:=17) (oi:=⟨some 44,.pick (.tmp 35) (.tmp 43) (.const (.bool false)),4, "totals.go:64",#[⟨8,.data⟩,⟨16,.data⟩],none⟩) (v:=.bool false) hH ?_
    refine tq (i:=18) (oi:=⟨some 45,.move (.tmp 44),4, "totals.go:64",#[⟨17,.data⟩,⟨8,.chain⟩],none⟩) (v:=.bool false) hH ?_
    refine tn (i:=19) (oi:=⟨some 46,.load 36 (.tmp 2),36, "totals.go:64",#[⟨18,.guard⟩],some (18,true)⟩) (v:=undef) hH ?_
    refine tn (i:=21) (oi:=⟨some 48,.move (.tmp 8),86, "totals.go:64",#[⟨18,.guard⟩],some (18,true)⟩) (v:=undef) hH ?_
    refine tn (i:=22) (oi:=⟨some 49,.nilCheck (.tmp 48),0, "totals.go:64",#[⟨21,.data⟩,⟨18,.guard⟩],some (18,true)⟩) (v:=undef) hH ?_
    refine tn (i:=23) (oi:=⟨some 50,.fieldAddr 90 (.tmp 49) 1,0, "totals.go:64",#[⟨22,.data⟩,⟨18,.guard⟩],some (18,true)⟩) (v:=undef) hH ?_
    refine tn (i:=24) (oi:=⟨some 51,.load 33 (.tmp 50),33, "totals.go:64",#[⟨23,.data⟩,⟨18,.guard⟩],some (18,true)⟩) (v:=undef) hH ?_
    refine tn (i:=25) (oi:=⟨some 52,.fieldAddr 36 (.tmp 2) 9,0, "totals.go:64",#[⟨18,.guard⟩],some (18,true)⟩) (v:=undef) hH ?_
    refine tn (i:=26) (oi:=⟨some 53,.load 33 (.tmp 52),33, "totals.go:64",#[⟨25,.data⟩,⟨18,.guard⟩],some (18,true)⟩) (v:=undef) hH ?_
    refine tr (rs:=[20,27]) ?_
    refine AllReadyH.cons (o:=⟨some 47,.call {callee:=.value (.func 12),args:=#[.tmp 46],argTypes:=#[36]},33, "totals.go:64",#[⟨19,.data⟩,⟨18,.chain⟩,⟨18,.guard⟩],some (18,true)⟩) rfl (fun K hK=>?_) (AllReadyH.cons (o:=⟨some 54,.buildSlice 58 2 #[(0,.tmp 51),(1,.tmp 53)],58, "totals.go:64",#[⟨24,.data⟩,⟨26,.data⟩,⟨18,.guard⟩],some (18,true)⟩) rfl (fun K hK=>?_) AllReadyH.nil)
    ·rw [if_neg (by rw [show Region.wanted _ _=false by rfl]; simp)]
     refine hK.out _ _ (Mod.refl _ w4).drew (fun hH=>?_)
     clear hK K
     (try simp only [Act.put,ja,jb,jc])
     refine tr (rs:=[27]) ?_
     refine AllReadyH.cons (o:=⟨some 54,.buildSlice 58 2 #[(0,.tmp 51),(1,.tmp 53)],58, "totals.go:64",#[⟨24,.data⟩,⟨26,.data⟩,⟨18,.guard⟩],some (18,true)⟩) rfl (fun K hK=>?_) AllReadyH.nil
     rw [if_neg (by rw [show Region.wanted _ _=false by rfl]; simp)]
     refine hK.out _ _ (Mod.refl _ w4).drew (fun hH=>?_)
     clear hK K
     (try simp only [Act.put,ja,jb,jc])
     refine tr (rs:=[28]) ?_
     refine AllReadyH.cons (o:=⟨some 55,.call {callee:=.value (.func 39),args:=#[.tmp 54],argTypes:=#[58]},33, "totals.go:64",#[⟨27,.data⟩,⟨20,.chain⟩,⟨18,.guard⟩],some (18,true)⟩) rfl (fun K hK=>?_) AllReadyH.nil
     rw [if_neg (by rw [show Region.wanted _ _=false by rfl]; simp)]
     refine hK.out _ _ (Mod.refl _ w4).drew (fun hH=>?_)
     clear hK K
     (try simp only [Act.put,ja,jb,jc])
     refine tr (rs:=[29]) ?_
     refine AllReadyH.cons (o:=⟨some 56,.call {callee:=.value (.func 38),args:=#[.tmp 47,.tmp 55],argTypes:=#[33,33]},4, "totals.go:64",#[⟨20,.data⟩,⟨28,.data⟩,⟨28,.chain⟩,⟨18,.guard⟩],some (18,true)⟩) rfl (fun K hK=>?_) AllReadyH.nil
     rw [if_neg (by rw [show Region.wanted _ _=false by rfl]; simp)]
     refine hK.out _ _ (Mod.refl _ w4).drew (fun hH=>?_)
     clear hK K
     (try simp only [Act.put,ja,jb,jc])
     refine tq (i:=30) (oi:=⟨some 57,.pick (.tmp 45) (.tmp 56) (.const (.bool false)),4, "totals.go:64",#[⟨18,.data⟩,⟨29,.data⟩],none⟩) (v:=.bool false) hH ?_
     refine tq (i:=31) (oi:=⟨some 4,.assign (.tmp 57),4, "totals.go:64",#[⟨30,.data⟩,⟨29,.chain⟩,⟨0,.phase⟩,⟨1,.phase⟩,⟨2,.phase⟩,⟨3,.phase⟩,⟨4,.phase⟩,⟨5,.phase⟩,⟨6,.phase⟩,⟨7,.phase⟩,⟨8,.phase⟩,⟨9,.phase⟩,⟨10,.phase⟩,⟨11,.phase⟩,⟨12,.phase⟩,⟨13,.phase⟩,⟨14,.phase⟩,⟨15,.phase⟩,⟨16,.phase⟩,⟨17,.phase⟩,⟨18,.phase⟩,⟨19,.phase⟩,⟨20,.phase⟩,⟨21,.phase⟩,⟨22,.phase⟩,⟨23,.phase⟩,⟨24,.phase⟩,⟨25,.phase⟩,⟨26,.phase⟩,⟨27,.phase⟩,⟨28,.phase⟩,⟨29,.phase⟩,⟨30,.phase⟩],none⟩) (v:=.bool false) hH ?_
     refine wpAnyH_done (by kernel_rfl) ?_ _
     go_wp2_with fail
     go_ret
     exact ⟨rfl,HM.out.tr HB4.out.2.2.2.drew⟩
    ·rw [if_neg (by rw [show Region.wanted _ _=false by rfl]; simp)]
     refine hK.out _ _ (Mod.refl _ w4).drew (fun hH=>?_)
     clear hK K
     (try simp only [Act.put,ja,jb,jc])
     refine tr (rs:=[20]) ?_
     refine AllReadyH.cons (o:=⟨some 47,.call {callee:=.value (.func 12),args:=#[.tmp 46],argTypes:=#[36]},33, "totals.go:64",#[⟨19,.data⟩,⟨18,.chain⟩,⟨18,.guard⟩],some (18,true)⟩) rfl (fun K hK=>?_) AllReadyH.nil
     rw [if_neg (by rw [show Region.wanted _ _=false by rfl]; simp)]
     refine hK.out _ _ (Mod.refl _ w4).drew (fun hH=>?_)
     clear hK K
     (try simp only [Act.put,ja,jb,jc])
     refine tr (rs:=[28]) ?_
     refine AllReadyH.cons (o:=⟨some 55,.call {callee:=.value (.func 39),args:=#[.tmp 54],argTypes:=#[58]},33, "totals.go:64",#[⟨27,.data⟩,⟨20,.chain⟩,⟨18,.guard⟩],some (18,true)⟩) rfl (fun K hK=>?_) AllReadyH.nil
     rw [if_neg (by rw [show Region.wanted _ _=false by rfl]; simp)]
     refine hK.out _ _ (Mod.refl _ w4).drew (fun hH=>?_)
     clear hK K
     (try simp only [Act.put,ja,jb,jc])
     refine tr (rs:=[29]) ?_
     refine AllReadyH.cons (o:=⟨some 56,.call {callee:=.value (.func 38),args:=#[.tmp 47,.tmp 55],argTypes:=#[33,33]},4, "totals.go:64",#[⟨20,.data⟩,⟨28,.data⟩,⟨28,.chain⟩,⟨18,.guard⟩],some (18,true)⟩) rfl (fun K hK=>?_) AllReadyH.nil
     rw [if_neg (by rw [show Region.wanted _ _=false by rfl]; simp)]
     refine hK.out _ _ (Mod.refl _ w4).drew (fun hH=>?_)
     clear hK K
     (try simp only [Act.put,ja,jb,jc])
     refine tq (i:=30) (oi:=⟨some 57,.pick (.tmp 45) (.tmp 56) (.const (.bool false)),4, "totals.go:64",#[⟨18,.data⟩,⟨29,.data⟩],none⟩) (v:=.bool false) hH ?_
     refine tq (i:=31) (oi:=⟨some 4,.assign (.tmp 57),4, "totals.go:64",#[⟨30,.data⟩,⟨29,.chain⟩,⟨0,.phase⟩,⟨1,.phase⟩,⟨2,.phase⟩,⟨3,.phase⟩,⟨4,.phase⟩,⟨5,.phase⟩,⟨6,.phase⟩,⟨7,.phase⟩,⟨8,.phase⟩,⟨9,.phase⟩,⟨10,.phase⟩,⟨11,.phase⟩,⟨12,.phase⟩,⟨13,.phase⟩,⟨14,.phase⟩,⟨15,.phase⟩,⟨16,.phase⟩,⟨17,.phase⟩,⟨18,.phase⟩,⟨19,.phase⟩,⟨20,.phase⟩,⟨21,.phase⟩,⟨22,.phase⟩,⟨23,.phase⟩,⟨24,.phase⟩,⟨25,.phase⟩,⟨26,.phase⟩,⟨27,.phase⟩,⟨28,.phase⟩,⟨29,.phase⟩,⟨30,.phase⟩],none⟩) (v:=.bool false) hH ?_
     refine wpAnyH_done (by kernel_rfl) ?_ _
     go_wp2_with fail
     go_ret
     exact ⟨rfl,HM.out.tr HB4.out.2.2.2.drew⟩
theorem whole_calls (w:World) (cs gs:List Value) (sv ov mv:Value) (fees forf:Int) (hc:StC cs sv fees forf) (hmv:cs[179]?=some mv) (hov:gs[13]?=some ov) (hf:In64 fees) (hg:In64 forf)
  (es os:List Ent) (mint:List (Nm×Int)) (hes:EntsAt w sv es) (hos:OutsAt w ov os) (hol:os.length<=1000000) (hmt:TotsAt w mv mint) (hz:coins (os.map (·.val))=coins (es.map (·.val))+(fees+forf))
  (hb1:(bookV (es.map (·.val))).length<=1000000) (hb2:(bookV (os.map (·.val))).length+mint.length<=1000000) :
  Calls Tryz.prog 17 #[.agg cs.toArray,.agg gs.toArray] w fun e w'=>WholePost w es os mint e w':=
 whole_same w cs gs sv ov mv fees forf hc hmv hov hf hg es os mint hes hos hol hmt (congrArg wideV hz) hb1 hb2
end Go.Proofs.YtckcamlicgdklaaGreat
