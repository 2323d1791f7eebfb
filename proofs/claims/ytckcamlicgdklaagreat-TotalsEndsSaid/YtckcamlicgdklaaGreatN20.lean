/- awake, the closed example. awake tells true. -/
import Derived.Test.YtckcamlicgdklaaGreatN18
import Derived.Test.YtckcamlicgdklaaGreatN19
namespace Go.Proofs.YtckcamlicgdklaaGreat
open Go.RowKit Go.Mo Go.Sort
def outE (c:Int):Ent where
 pre:=zpre
 addr:=⟨false,List.replicate 32 0,rfl⟩
 val:=⟨c,[]⟩
 post:=.int .i64 0 :: (List.replicate 32 (.int .u8 0) ++ [.slice none 0 0])
 hpre:=rfl
 hpost:=rfl
 ones:=by
  intro u hu
  simp only [zpre,List.mem_append,List.mem_cons,List.mem_replicate,List.not_mem_nil,or_false] at hu
  rcases hu with (⟨_,rfl⟩|rfl)|rfl|⟨_,rfl⟩|rfl <;> rfl
def set36 (z:Array Value) (b:Nat):Array Value:=((z.setIfInBounds 44 (.slice (some ⟨b,0,none⟩) 2 2)).setIfInBounds 177 (.int .i64 2)).setIfInBounds 178 (.int .i64 1)
theorem st36':∃ z:Array Value,(∀ w,(zeroValue 36).run Tryz.prog w=.ok (.agg z) w)/\z.size=182/\z[179]?=some (.slice none 0 0)/\∀ b,Tryz.prog.built 36 [(2,.slice (some ⟨b,0,none⟩) 2 2),(7,.int .i64 2),(8,.int .i64 1)]=some (set36 z b)/\(set36 z b).all (·.oneCell')=true:=
 ⟨_,Tryz.zeroValue36,by kernel_rfl,by kernel_rfl,fun b=>⟨by kernel_rfl,by kernel_rfl⟩⟩
theorem st36:∃ z:Array Value,(∀ w,(zeroValue 36).run Tryz.prog w=.ok (.agg z) w)/\z.size=182/\∀ b,∃ cs:List Value,Tryz.prog.built 36 [(2,.slice (some ⟨b,0,none⟩) 2 2),(7,.int .i64 2),(8,.int .i64 1)]=some cs.toArray /\
  StC cs (.slice (some ⟨b,0,none⟩) 2 2) 2 1/\cs[179]?=some (.slice none 0 0)/\cs.toArray.all (·.oneCell')=true:=by
 obtain ⟨z,h1,h2,h3,h4⟩:=st36'
 refine ⟨z,h1,h2,fun b=>⟨(set36 z b).toList,by rw [Array.toArray_toList]; exact (h4 b).1,⟨?_,?_,?_,?_⟩,?_,by rw [Array.toArray_toList]; exact (h4 b).2⟩⟩
 ·simp [set36,h2]
 ·simp [set36,h2]
 ·simp [set36,h2]
 ·simp [set36,h2]
 ·rw [Array.getElem?_toList]
  simp [set36,h3]
theorem ge72:∃ z:Array Value,(∀ w,(zeroValue 39).run Tryz.prog w=.ok (.agg z) w)/\z.size=14/\∀ b,∃ gs:List Value,Tryz.prog.built 39 [(2,.slice (some ⟨b,0,none⟩) 1 1)]=some gs.toArray/\gs.length=14/\gs[13]?=some (.slice (some ⟨b,0,none⟩) 1 1)/\gs.toArray.all (·.oneCell')=true:=by
 have h:∃ z:Array Value,(∀ w,(zeroValue 39).run Tryz.prog w=.ok (.agg z) w)/\z.size=14/\∀ b,Tryz.prog.built 39 [(2,.slice (some ⟨b,0,none⟩) 1 1)]=some (z.setIfInBounds 13 (.slice (some ⟨b,0,none⟩) 1 1))/\(z.setIfInBounds 13 (.slice (some ⟨b,0,none⟩) 1 1)).all (·.oneCell')=true:=
  ⟨_,Tryz.zeroValue39,by kernel_rfl,fun b=>⟨by kernel_rfl,by kernel_rfl⟩⟩
 obtain ⟨z,h1,h2,h4⟩:=h
 refine ⟨z,h1,h2,fun b=>⟨(z.setIfInBounds 13 (.slice (some ⟨b,0,none⟩) 1 1)).toList,by rw [Array.toArray_toList]; exact (h4 b).1,?_,?_,by rw [Array.toArray_toList]; exact (h4 b).2⟩⟩
 ·simp [h2]
 ·simp [h2]
theorem ss72:(Tryz.prog.info? 39).map (·.size)=some 14:=by kernel_rfl
theorem exec_slice28 (act:Act) (o:Oper) {w:World} {a b:Operand} (ho:o.op=.buildSlice 28 2 #[(0,a),(1,b)]) (x y:Ent×Option Addr×Nat) (ha:act.eval a=.agg (entCells x.1 x.2.1 x.2.2).toArray) (hb:act.eval b=.agg (entCells y.1 y.2.1 y.2.2).toArray) :
  (execOp act.eval o).run Tryz.prog w=.ok (.value (.slice (some ⟨w.heap.size,0,none⟩) 2 2)) (w.alloc (.cells (entsCells [x,y]).toArray 73)):=by
 obtain ⟨i51,hi,hz0,hz1,hz2⟩:=info_parts info51
 have:=exec_slicesL act o (w:=w) [(0,a),(1,b)] ho [.agg (entCells x.1 x.2.1 x.2.2).toArray,.agg (entCells y.1 y.2.1 y.2.2).toArray] (by simp [ha,hb]) (E:=73) (s:=102) Tryz.underlying28 hi hz0 hz1 (by omega) rfl (by omega) (by omega) (by
  intro v hv
  simp only [List.mem_cons,List.not_mem_nil,or_false] at hv
  rcases hv with rfl|rfl <;> simp [Value.cells,entCells_length])
 simpa [Value.cells,entsCells] using this
theorem info49:∃ z:Array Value,(∀ w,(zeroValue 71).run Tryz.prog w=.ok (.agg z) w)/\(Tryz.prog.info? 71).map (fun i=>(i.zero,i.size,i.bytes))=some (some (.agg z),69,136):=⟨_,Tryz.zeroValue71,by kernel_rfl⟩
theorem exec_slice70 (act:Act) (o:Oper) {w:World} {a:Operand} (ho:o.op=.buildSlice 37 1 #[(0,a)]) (x:Ent) (ha:act.eval a=.agg (outCells x none 0).toArray) :
  (execOp act.eval o).run Tryz.prog w=.ok (.value (.slice (some ⟨w.heap.size,0,none⟩) 1 1)) (w.alloc (.cells (outCells x none 0).toArray 71)):=by
 obtain ⟨z,_,hinf⟩:=info49
 obtain ⟨i,hi,hz0,hz1,hz2⟩:=info_parts hinf
 have:=exec_slicesL act o (w:=w) [(0,a)] ho [.agg (outCells x none 0).toArray] (by simp [ha]) (E:=71) (s:=69) Tryz.underlying37 hi hz0 hz1 (by omega) rfl (by omega) (by omega) (by
  intro v hv
  simp only [List.mem_cons,List.not_mem_nil,or_false] at hv
  subst hv; simp [Value.cells,outCells_length])
 simpa [Value.cells] using this
theorem nil_assets (w:World):AssetsAt w (.slice none 0 0) []:=⟨none,0,rfl,by simp,fun i x hx=>by simp at hx⟩
theorem two_ents {w:World} {b:Nat} (x y:Ent) (hx:x.val.assets=[]) (hy:y.val.assets=[]) (hx6:In64 x.val.coin) (hy6:In64 y.val.coin) (h:w.heap[b]?=some (.cells (entsCells [(x,none,0),(y,none,0)]).toArray 73 (0,0))):EntsAt w (.slice (some ⟨b,0,none⟩) 2 2) [x,y]:=by
 refine ⟨_,_,rfl,by simp,fun i z hz=>?_⟩
 have hi:i<2:=by have:=(List.getElem?_eq_some_iff.1 hz).1; simpa using this
 have:i=0∨i=1:=by omega
 have key:∀ u,[(x,(none:Option Addr),0),(y,none,0)][i]?=some u->∀ j v,(entCells u.1 u.2.1 u.2.2)[j]?=some v->w.cell? ⟨b,0+i * 102+j,none⟩=some v:=fun u hu j v hv=>by
  rw [Nat.zero_add,cellB h,List.getElem?_toArray]
  exact entsCells_get hu j v hv
 rcases this with rfl|rfl
 ·simp at hz; subst hz
  exact ⟨hx6,b,0,none,0,rfl,ltB h,by rw [hx]; exact nil_assets w,fun j u hu=>key _ rfl j u hu⟩
 ·simp at hz; subst hz
  exact ⟨hy6,b,0,none,0,rfl,ltB h,by rw [hy]; exact nil_assets w,fun j u hu=>key _ rfl j u hu⟩
theorem one_out {w:World} {b:Nat} (x:Ent) (hx:x.val.assets=[]) (hx6:In64 x.val.coin) (h:w.heap[b]?=some (.cells (outCells x none 0).toArray 71 (0,0))):OutsAt w (.slice (some ⟨b,0,none⟩) 1 1) [x]:=by
 refine ⟨_,_,rfl,fun i z hz=>?_⟩
 have hi:i<1:=by have:=(List.getElem?_eq_some_iff.1 hz).1; simpa using this
 have e:i=0:=by omega
 subst e
 simp at hz; subst hz
 exact ⟨hx6,b,0,none,0,rfl,ltB h,by rw [hx]; exact nil_assets w,fun j u hu=>by simp only [Nat.zero_mul,Nat.zero_add]; rw [cellB h,List.getElem?_toArray]; exact hu⟩
end Go.Proofs.YtckcamlicgdklaaGreat
namespace Go.Proofs.YtckcamlicgdklaaGreat
open Go.RowKit Go.Mo Go.Sort
theorem wpList_execG {ops:Array Oper} {rest:List Oper} {o:Oper} {a:Act} {w w':World} {Q:Exit->Act->World->Prop} (hw:Region.wanted o (yielded ops a.tmps)=true) {v:Value} (hv:(execOp a.eval o).run Tryz.prog w=.ok (.value v) w') (h:wpList Tryz.prog ops Q rest (a.put o.dst v) w'):wpList Tryz.prog ops Q (o :: rest) a w:=by
 simp only [wpList,hw,if_true]
 refine .inl ?_
 unfold Oper.wp
 rw [hv]
 exact h
theorem gx {ops:Array Oper} {rest:List Oper} {o:Oper} {a a':Act} {w w':World} {Q:Exit->Act->World->Prop} {v:Value} (hv:(execOp a.eval o).run Tryz.prog w=.ok (.value v) w') (h:wpList Tryz.prog ops Q rest a' w') (ha:a.put o.dst v=a':=by ((try simp only [Act.put,ja,jb,jc]); rfl)) (hw:Region.wanted o (yielded ops a.tmps)=true:=by rfl):wpList Tryz.prog ops Q (o :: rest) a w:=wpList_execG hw hv (ha ▸ h)
theorem eg {ops:Array Oper} {rest:List Oper} {o:Oper} {a a':Act} {w:World} {Q:Exit->Act->World->Prop} {v:Value} (h:wpList Tryz.prog ops Q rest a' w) (hv:(execOp a.eval o).run Tryz.prog w=.ok (.value v) w:=by go_simp) (ha:a.put o.dst v=a':=by ((try simp only [Act.put,ja,jb,jc]); rfl)) (hw:Region.wanted o (yielded ops a.tmps)=true:=by rfl):wpList Tryz.prog ops Q (o :: rest) a w:=wpList_execG hw hv (ha ▸ h)
theorem wide14:wideV (coins (([entE 1 5,entE 2 6]).map (·.val))+(2+1))=.agg #[.int .i64 0,.int .u64 14]:=by
 simp [wideV,coins,entE,hiW,loW,wrap64]
theorem wide6:wideV (coins ((([entE 1 5,entE 2 6]).filter fun x=>decide (x.addr=(entE 2 6).addr)).map (·.val)))=.agg #[.int .i64 0,.int .u64 6]:=by
 have:(([entE 1 5,entE 2 6]).filter fun x=>decide (x.addr=(entE 2 6).addr))=[entE 2 6]:=by
  have h1:(entE 1 5).addr≠(entE 2 6).addr:=by
   intro h
   have:=congrArg (fun a=>a.hash[0]?) h
   simp [entE,hashE] at this
  simp [h1]
 rw [this]
 simp [wideV,coins,entE,hiW,loW,wrap64]
theorem book6:bookV ((([entE 1 5,entE 2 6]).filter fun x=>decide (x.addr=(entE 2 6).addr)).map (·.val))=[]:=by
 rw [bookV_eq,flat_val]
 have:∀ es:List Ent,(∀ x∈es,x.val.assets=[])->assetsOf es=[]:=by
  intro es h
  unfold assetsOf
  rw [List.flatMap_eq_nil_iff]
  exact h
 rw [this _ (fun x hx=>by
  have hx:=(List.mem_filter.1 hx).1
  simp at hx
  rcases hx with rfl|rfl <;> rfl)]
 rfl
set_option maxRecDepth 100000 in
set_option maxHeartbeats 4000000 in
theorem awake_calls (w:World):Calls Tryz.prog 7 #[] w fun e w'=>e=.returned (.bool true)/\Mod N0 w w':=by
 obtain ⟨z36,hz36,hs36,hb36⟩:=st36
 obtain ⟨z72,hz72,hs72,hb72⟩:=ge72
 have HZ36:=hh hz36
 have HZ72:=hh hz72
 have HS:=hh (And.intro hs36 hs72)
 have HB36:=hh hb36
 have HB72:=hh hb72
 clear hz36 hs36 hb36 hz72 hs72 hb72
 have HE1:=hh (entry1_calls w)
 go_enter Tryz.func7,Tryz.ntmps7
 go_wp2_with fail
 refine HE1.out.mono ?_
 rintro e w1 ⟨rfl,hm1⟩
 have HM1:=hh hm1
 have HE2:=hh (entry2_calls w1)
 clear hm1
 go_wp2_with fail
 refine HE2.out.mono ?_
 rintro e w2 ⟨rfl,hm2⟩
 rename_i hK
 refine hK _ _ ?_
 clear hK
 (try simp only [Act.put,ja,jb,jc])
 have hb3:=newB w2 (.cells (entsCells [(entE 1 5,none,0),(entE 2 6,none,0)]).toArray 73)
 have hm3:Mod N0 w (w2.alloc (.cells (entsCells [(entE 1 5,none,0),(entE 2 6,none,0)]).toArray 73)):=(HM1.out.tr hm2).alloc _
 clear hm2
 obtain ⟨b3,hb3e⟩:∃ b,w2.heap.size=b:=⟨_,rfl⟩
 rw [hb3e] at hb3
 have hsl3:∀ (act:Act) (o:Oper) (a b:Operand),o.op=.buildSlice 28 2 #[(0,a),(1,b)]->act.eval a=.agg (entCells (entE 1 5) none 0).toArray->act.eval b=.agg (entCells (entE 2 6) none 0).toArray->(execOp act.eval o).run Tryz.prog w2=.ok (.value (.slice (some ⟨b3,0,none⟩) 2 2)) (w2.alloc (.cells (entsCells [(entE 1 5,none,0),(entE 2 6,none,0)]).toArray 73)):=by
  intro act o a b ho ha hb
  rw [← hb3e]
  exact exec_slice28 act o ho (entE 1 5,none,0) (entE 2 6,none,0) ha hb
 generalize w2.alloc (.cells (entsCells [(entE 1 5,none,0),(entE 2 6,none,0)]).toArray 73)=w3 at hb3 hm3 hsl3
 have hE:=two_ents (entE 1 5) (entE 2 6) rfl rfl (by simp [In64,entE]) (by simp [In64,entE]) hb3
 obtain ⟨cs,hbd,hstc,hmint,hones⟩:=HB36.out b3
 have hst:(storeVar 36 ⟨w3.heap.size,0,none⟩ (.agg cs.toArray)).run Tryz.prog (w3.alloc (.cells z36 36))=.ok () ((w3.alloc (.cells z36 36)).setRow w3.heap.size cs.toArray):=
  run_storeVar_row (P:=Tryz.prog) _ w3.heap.size 36 36 z36 cs.toArray (newB w3 _) (by rw [ss36']; simp [hstc.len]) (by rw [HS.out.1]; simp [hstc.len]) hones
 have hR:=setRow_same (cs:=cs.toArray) (newB w3 (.cells z36 36))
 have hmr:Mod N0 w3 ((w3.alloc (.cells z36 36)).setRow w3.heap.size cs.toArray):=Mod_setRow ((Mod.refl _ w3).alloc (.cells z36 36)) (b:=w3.heap.size) (fun q=>by omega) _
 generalize (w3.alloc (.cells z36 36)).setRow w3.heap.size cs.toArray=w4 at hst hR hmr
 have HST:=hh (And.intro hbd hst)
 have HSL3:=hh hsl3
 have HX:=hh (And.intro hstc hmint)
 have HE4:=hh (hE.tr hmr)
 have HR4:=hh hR
 have HM4:=hh (hm3.tr hmr)
 clear hbd hst hsl3 hstc hmint hE hR hmr hm3 hones hb3 hb3e
 refine ww (HSL3.out _ _ _ _ rfl rfl rfl) ?_
 refine wx (exec_buildL _ _ [(2,.tmp 7),(7,.const (.int .i64 2)),(8,.const (.int .i64 1))] rfl [(2,.slice (some ⟨b3,0,none⟩) 2 2),(7,.int .i64 2),(8,.int .i64 1)] rfl cs.toArray HST.out.1) ?_
 refine ww (exec_alloc _ _ 36 z36 rfl HZ36.out) ?_
 refine wpList_execS rfl (exec_store _ _ rfl rfl rfl HST.out.2) ?_
 (try simp only [Act.put])
 have ho:=newB w4 (.cells (outCells (outE 14) none 0).toArray 71)
 have hm5:Mod N0 w4 (w4.alloc (.cells (outCells (outE 14) none 0).toArray 71)):=(Mod.refl _ w4).alloc _
 obtain ⟨b5,hb5e⟩:∃ b,w4.heap.size=b:=⟨_,rfl⟩
 rw [hb5e] at ho
 have hsl5:∀ (act:Act) (o:Oper) (a:Operand),o.op=.buildSlice 37 1 #[(0,a)]->act.eval a=.agg (outCells (outE 14) none 0).toArray->(execOp act.eval o).run Tryz.prog w4=.ok (.value (.slice (some ⟨b5,0,none⟩) 1 1)) (w4.alloc (.cells (outCells (outE 14) none 0).toArray 71)):=by
  intro act o a ho ha
  rw [← hb5e]
  exact exec_slice70 act o ho (outE 14) ha
 generalize w4.alloc (.cells (outCells (outE 14) none 0).toArray 71)=w5 at ho hm5 hsl5
 have hO:=one_out (outE 14) rfl (by simp [In64,outE]) ho
 obtain ⟨gs,hgb,hgl,hg13,hgo⟩:=HB72.out b5
 have hst:(storeVar 39 ⟨w5.heap.size,0,none⟩ (.agg gs.toArray)).run Tryz.prog (w5.alloc (.cells z72 39))=.ok () ((w5.alloc (.cells z72 39)).setRow w5.heap.size gs.toArray):=
  run_storeVar_row (P:=Tryz.prog) _ w5.heap.size 39 39 z72 gs.toArray (newB w5 _) (by rw [ss72]; simp [hgl]) (by rw [HS.out.2]; simp [hgl]) hgo
 have hR:=setRow_same (cs:=gs.toArray) (newB w5 (.cells z72 39))
 have hmr:Mod N0 w5 ((w5.alloc (.cells z72 39)).setRow w5.heap.size gs.toArray):=Mod_setRow ((Mod.refl _ w5).alloc (.cells z72 39)) (b:=w5.heap.size) (fun q=>by omega) _
 generalize (w5.alloc (.cells z72 39)).setRow w5.heap.size gs.toArray=w6 at hst hR hmr
 have hm46:=hm5.tr hmr
 have HST2:=hh (And.intro hgb hst)
 have HSL5:=hh hsl5
 have HG:=hh (And.intro hgl hg13)
 have HO:=hh (hO.tr hmr)
 have HE6:=hh (HE4.out.tr hm46)
 have HR6:=hh (And.intro ((hm46.block _ (ltB HR4.out) (fun q=>q)).trans HR4.out) hR)
 have HM6:=hh (HM4.out.tr hm46)
 clear hgb hst hsl5 hgl hg13 hO hR hmr hm46 hm5 ho hgo hb5e
 go_upto_region 2 with fail
 refine wp_region_lit ?_
 refine wx (exec_buildL _ _ [(0,.const (.int .i64 14))] rfl [(0,.int .i64 14)] rfl #[.int .i64 14,.slice none 0 0] (by kernel_rfl)) ?_
 refine wx (exec_buildL _ _ [(1,.tmp 9)] rfl [(1,.agg #[.int .i64 14,.slice none 0 0])] rfl (outCells (outE 14) none 0).toArray (by kernel_rfl)) ?_
 refine ww (HSL5.out _ _ _ rfl rfl) ?_
 refine wx (exec_buildL _ _ [(2,.tmp 11)] rfl [(2,.slice (some ⟨b5,0,none⟩) 1 1)] rfl gs.toArray HST2.out.1) ?_
 refine ww (exec_alloc _ _ 39 z72 rfl HZ72.out) ?_
 refine wpList_execS rfl (exec_store _ _ rfl rfl rfl HST2.out.2) ?_
 (try simp only [Act.put])
 have HL6:=hh (load36_box HX.out.1.len HR6.out.1)
 have HBAL:=hh (balance_calls w6 cs _ 2 1 HX.out.1 (entE 2 6).addr [entE 1 5,entE 2 6] HE6.out (by rw [book6]; simp))
 go_upto_region 3 with fail
 refine wp_region_lit ?_
 refine wx (exec_load_at _ _ 36 _ rfl ⟨w3.heap.size,0,none⟩ rfl HL6.out) ?_
 refine wx (exec_buildL _ _ [(0,.const (.int .u8 2))] rfl [(0,.int .u8 2)] rfl ((hashE 2).map by8).toArray (by kernel_rfl)) ?_
 refine wx (exec_buildL _ _ [(1,.tmp 15)] rfl [(1,.agg ((hashE 2).map by8).toArray)] rfl (adrCells (entE 2 6).addr).toArray (by kernel_rfl)) ?_
 go_wp2_with fail
 refine HBAL.out.mono ?_
 rintro e w7 ⟨u,d,rfl,h1,h2,h3,h4,h5⟩
 rw [book6] at h1
 have hd:d=[]:=h1.eq_nil
 subst hd
 rw [wide6]
 have ht:=tots_at h3 (by simp)
 obtain ⟨ua,uc,rfl,_⟩:=ht
 have HM7:=hh h5
 clear h1 h2 h3 h4 h5
 have hst:=run_storeVar_row (P:=Tryz.prog) (w7.alloc (.cells #[.int .i64 0,.int .u64 0] 48)) w7.heap.size 48 48 #[.int .i64 0,.int .u64 0] #[.int .i64 0,.int .u64 6] (newB w7 _) (by rw [size57]; rfl) rfl (by simp [Value.oneCell'])
 have hb8:=setRow_same (cs:=#[.int .i64 0,.int .u64 6]) (newB w7 (.cells #[.int .i64 0,.int .u64 0] 48))
 have hm8:Mod N0 w7 ((w7.alloc (.cells #[.int .i64 0,.int .u64 0] 48)).setRow w7.heap.size #[.int .i64 0,.int .u64 6]):=Mod_setRow ((Mod.refl _ w7).alloc _) (fun q=>by omega) _
 generalize (w7.alloc (.cells #[.int .i64 0,.int .u64 0] 48)).setRow w7.heap.size #[.int .i64 0,.int .u64 6]=w8 at hst hb8 hm8
 have HST3:=hh hst
 have HB8:=hh hb8
 have HM8:=hh (HM7.out.tr hm8)
 clear hst hb8 hm8
 go_upto_region 4 with (refine wpList_execS rfl (exec_store _ _ rfl rfl rfl HST3.out) ?_)
 have hA8:=(HM8.out.block _ (ltB HR6.out.1) (fun q=>q)).trans HR6.out.1
 have hl8:=load36_box HX.out.1.len hA8
 have hco:=coins_calls w8 cs _ 2 1 HX.out.1 (by simp [In64]) (by simp [In64]) [entE 1 5,entE 2 6] (HE6.out.tr HM8.out) (by rw [bookV_eq,flat_val]; simp [assetsOf,entE,bookA])
 rw [wide14] at hco
 have HL8:=hh hl8
 have HCO:=hh hco
 clear hA8 hl8 hco
 refine wp_region_lit ?_
 refine wx (exec_load_at _ _ 36 _ rfl ⟨w3.heap.size,0,none⟩ rfl HL8.out) ?_
 go_wp2_with fail
 refine HCO.out.mono ?_
 rintro e w9 ⟨rfl,hm9⟩
 rename_i hK
 refine hK _ _ ?_
 clear hK
 (try simp only [Act.put,ja,jb,jc])
 have hM9:=HM8.out.tr hm9
 have hA9:=(hM9.block _ (ltB HR6.out.1) (fun q=>q)).trans HR6.out.1
 have hG9:=(hM9.block _ (ltB HR6.out.2) (fun q=>q)).trans HR6.out.2
 have hld:=load36_box HX.out.1.len hA9
 have hlg:(loadVar 39 ⟨w5.heap.size,0,none⟩).run Tryz.prog w9=.ok (.agg gs.toArray) w9:=
  run_loadVar_mid w9 w5.heap.size 0 39 gs _ (fun j v hv=>by rw [Nat.zero_add,cellB hG9,List.getElem?_toArray]; exact hv) Tryz.underlying39 rfl (by rw [ss72,HG.out.1])
 have hwh:=whole_calls w9 cs gs _ _ _ 2 1 HX.out.1 HX.out.2 HG.out.2 (by simp [In64]) (by simp [In64]) [entE 1 5,entE 2 6] [outE 14] [] (HE6.out.tr hM9) (HO.out.tr hM9) (by simp) ⟨none,0,rfl,fun _=>rfl,by simp,fun i x hx=>by simp at hx⟩ (by simp [coins,entE,outE]) (by rw [bookV_eq,flat_val]; simp [assetsOf,entE,bookA]) (by rw [bookV_eq,flat_val]; simp [assetsOf,outE,bookA])
 have HL9:=hh (And.intro hld hlg)
 have HWH:=hh hwh
 have HB9:=hh ((hm9.block _ (ltB HB8.out) (fun q=>q)).trans HB8.out)
 have HM9:=hh (HM6.out.tr hM9)
 clear hM9 hA9 hG9 hld hlg hwh hm9
 refine wx (exec_buildL _ _ [(1,.const (.int .u64 14))] rfl [(1,.int .u64 14)] rfl #[.int .i64 0,.int .u64 14] (by kernel_rfl)) ?_
 refine ex (v:=.bool true) ?_
 refine ex (v:=.bool true) ?_
 refine gx (exec_load_at _ _ 36 _ rfl ⟨w3.heap.size,0,none⟩ rfl HL9.out.1) ?_
 refine gx (exec_load_at _ _ 39 _ rfl ⟨w5.heap.size,0,none⟩ rfl HL9.out.2) ?_
 go_wp2_with fail
 refine HWH.out.mono ?_
 rintro e w10 ⟨d,d2,m,rfl,p1,s1,p2,s2,p3,s3,hm10⟩
 rename_i hK
 clear s1 s2 s3
 have q1:bookV (([entE 1 5,entE 2 6]).map (·.val))=[]:=by rw [bookV_eq,flat_val]; simp [assetsOf,entE,bookA]
 have q2:bookV (([outE 14]).map (·.val))=[]:=by rw [bookV_eq,flat_val]; simp [assetsOf,outE,bookA]
 rw [q1] at p1
 rw [q2] at p2
 have e1:d=[]:=p1.eq_nil
 have e2:d2=[]:=p2.eq_nil
 subst e1 e2
 have e3:m=[]:=p3.eq_nil
 subst e3
 refine hK _ _ ?_
 clear hK p1 p2 p3 q1 q2
 (try dsimp only)
 have hb10:=(hm10.block _ (ltB HB9.out) (fun q=>q)).trans HB9.out
 have hl57:(loadVar 48 ⟨w7.heap.size,0,none⟩).run Tryz.prog w10=.ok (.agg #[.int .i64 0,.int .u64 6]) w10:=
  run_loadVar_mid w10 w7.heap.size 0 48 [.int .i64 0,.int .u64 6] _ (fun j v hv=>by rw [Nat.zero_add,cellB hb10,List.getElem?_toArray]; exact hv) Tryz.underlying48 rfl (by rw [size57]; rfl)
 have HL10:=hh hl57
 have HM10:=hh (HM9.out.tr hm10)
 clear hb10 hl57 hm10
 refine ex (v:=.bool true) ?_
 refine ex (v:=.bool true) ?_
 refine gx (exec_load_at _ _ 48 _ rfl ⟨w7.heap.size,0,none⟩ rfl HL10.out) ?_
 refine gx (exec_buildL _ _ [(1,.const (.int .u64 6))] rfl [(1,.int .u64 6)] rfl #[.int .i64 0,.int .u64 6] (by kernel_rfl)) ?_
 refine eg (v:=.bool true) ?_
 refine ex (v:=.bool true) ?_
 refine ex (v:=.bool true) ?_
 refine eg (v:=.slice ua 0 uc) ?_
 refine eg (v:=.int .i64 0) ?_
 refine eg (v:=.bool true) ?_
 refine ex (v:=.bool true) ?_
 go_wp2_with fail
 go_ret
 exact ⟨rfl,HM10.out⟩
end Go.Proofs.YtckcamlicgdklaaGreat
