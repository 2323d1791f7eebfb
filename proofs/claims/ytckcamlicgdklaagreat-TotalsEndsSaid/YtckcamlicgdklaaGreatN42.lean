/- The reference of chapter 27: Whole. -/
import Derived.Test.YtckcamlicgdklaaGreatN41
namespace Go.Proofs.YtckcamlicgdklaaGreat
open Go.RowKit Go.Mo Go.Sort
theorem load_sl37 {w:World} {p:Addr} {a:Option Addr} {n c:Nat} (h:w.cell? p=some (.slice a n c)):(loadVar 37 p).run Tryz.prog w=.ok (.slice a n c) w:=by
 go_simp
theorem load_sl33 {w:World} {p:Addr} {a:Option Addr} {n c:Nat} (h:w.cell? p=some (.slice a n c)):(loadVar 33 p).run Tryz.prog w=.ok (.slice a n c) w:=by
 go_simp
theorem exec_eqlW (act:Act) (o:Oper) {w:World} {x y:Operand} {R:TypeId} (ho:o.op=.binOp .eql 48 x y R) (a b:Int) (hx:act.eval x=wideV a) (hy:act.eval y=wideV b) {c:Bool} (hc:(hiW a == hiW b && loW a == loW b)=c):(execOp act.eval o).run Tryz.prog w=.ok (.value (.bool c)) w:=by
 unfold wideV at hx hy
 unfold execOp
 simp only [ho,hx,hy,Sem.run_bind,Sem.run_pure]
 subst hc
 go_simp
 by_cases h1:hiW a=hiW b <;> by_cases h2:loW a=loW b <;> simp [h1,h2]
set_option maxRecDepth 100000 in
/-- An output in cells at L, o: its bundle is read. -/
theorem out_val {w:World} {L o:Nat} {x:Ent} {a:Option Addr} {c:Nat} (h:∀ j u,(outCells x a c)[j]?=some u->w.cell? ⟨L,o+j,none⟩=some u):(loadVar 65 ⟨L,o+33,none⟩).run Tryz.prog w=.ok (.agg #[.int .i64 x.val.coin,.slice a x.val.assets.length c]) w:=by
 have h2:x.adr.length=33:=x.hadr
 have h3:=outCells_length x a c
 have:=load_mid h 65 33 2 _ Tryz.underlying65 rfl zs65' (by omega)
 have e:((outCells x a c).drop 33).take 2=[.int .i64 x.val.coin,.slice a x.val.assets.length c]:=by
  simp [outCells,h2]
 rwa [e] at this
theorem filt_le (l:Tl):((putAll l).filter (nzW ·.2)).length<=l.length:=Nat.le_trans (List.length_filter_le _ _) (putAll_le l)
set_option maxRecDepth 100000 in
set_option maxHeartbeats 4000000 in
theorem refWhole_calls (w:World) (cs gs:List Value) (sv ov mv:Value) (fees forf:Int) (hc:StC cs sv fees forf) (hmv:cs[179]?=some mv) (hov:gs[13]?=some ov) (hf:In64 fees) (hg:In64 forf)
  (es os:List Ent) (mint:Tl) (hes:EntsAt w sv es) (hos:OutsAt w ov os) (hol:os.length<=1000000) (hmt:TotsAt w mv mint)
  (hb1:(vAssets (es.map (·.val))).length<=900000) (hb2:(vAssets (os.map (·.val))).length+mint.length<=900000) (cb:Bool) (hcb:(hiW (coins (es.map (·.val))+(fees+forf)) == hiW (coins (os.map (·.val))) && loW (coins (es.map (·.val))+(fees+forf)) == loW (coins (os.map (·.val))))=cb) :
  Calls Tryz.prog 18 #[.agg cs.toArray,.agg gs.toArray] w fun e w'=>e=.returned (.bool (cb && decide (((putAll (vAssets (es.map (·.val)))).filter (nzW ·.2)).map tN=((putAll (((putAll (vAssets (os.map (·.val)))).filter (nzW ·.2)) ++ mint)).filter (nzW ·.2)).map tN)))/\Mod N0 w w':=by
 obtain ⟨w1,hw1⟩:∃ w1,(w.alloc (.cells cs.toArray 36)).alloc (.cells gs.toArray 39)=w1:=⟨_,rfl⟩
 have hA:w1.heap[w.heap.size]?=some (.cells cs.toArray 36 (0,0)):=by rw [← hw1]; exact allocB (newB w _) _
 have hG:w1.heap[w.heap.size+1]?=some (.cells gs.toArray 39 (0,0)):=by
  rw [← hw1]; have:=newB (w.alloc (.cells cs.toArray 36)) (.cells gs.toArray 39); rwa [World.size_alloc] at this
 have hm1:Mod N0 w w1:=by rw [← hw1]; exact ((Mod.refl _ w).alloc _).alloc _
 have HA:=hh (fun (W:World) (hW:Mod N0 w1 W)=>And.intro ((hW.block _ (ltB hA) (fun q=>q)).trans hA) ((hW.block _ (ltB hG) (fun q=>q)).trans hG))
 have HX:=hh (And.intro hc (And.intro hmv (And.intro hf (And.intro hg (And.intro hb1 (And.intro hb2 hov))))))
 have HE:=hh (hes.tr hm1)
 have HT:=hh (hmt.tr hm1)
 have HM:=hh hm1
 have HCB:=hh hcb
 obtain ⟨oa,oc,rfl,hoel⟩:=id (hos.tr hm1)
 have HO:=hh hoel
 obtain ⟨ma,mc,rfl,_⟩:=id hmt
 obtain ⟨sa,sc,rfl,_⟩:=id hes
 clear hA hG hm1 hov hc hmv hf hg hb1 hb2 hes hos hmt hoel hcb
 go_enter Tryz.func18,Tryz.ntmps18
 go_upto_region 0 with fail
 refine wp_region_lit ?_
 refine ww (exec_box _ _ 36 cs rfl rfl) ?_
 refine ww (exec_box _ _ 39 gs rfl rfl) ?_
 simp only [World.size_alloc]
 rw [hw1]
 clear hw1
 go_wp2_with fail
 go_loopw [5,6] (fun v5 i wr=>∃ (k:Nat) (v':Value) (l:List (Val×Value)),k<=os.length/\v'=v5/\i=.int .i64 k/\l.map (·.1)=(os.take k).map (·.val)/\RowV w1 wr v' l/\Mod N0 w1 wr) (fun _ i _=>os.length - (intOf i).toNat)
 case atStart=>exact ⟨0,_,[],by omega,rfl,rfl,rfl,RowV.nil w1 w1,Mod.refl _ w1⟩
 case round=>
  obtain ⟨k,v5,l,hk,rfl,rfl,hl,hr,hm⟩:=hrel
  have s13:wr.cell? ⟨w.heap.size+1,13,none⟩=some (.slice oa os.length oc):=by rw [cellB (HA.out wr hm).2,List.getElem?_toArray]; exact HX.out.2.2.2.2.2.2
  have HL:=hh hl
  have HR:=hh (And.intro hr hm)
  have HLK:=hh (show l.length<=k by
   have h1:=congrArg List.length hl
   simp only [List.length_map,List.length_take] at h1
   omega)
  clear hl hr hm
  by_cases hlt:k<os.length
  ·obtain ⟨x,hx⟩:∃ x,os[k]?=some x:=⟨_,List.getElem?_eq_getElem hlt⟩
   obtain ⟨hco,L,off,a2,c2,rfl,hL,hAs,hcs⟩:=HO.out k x hx
   have HLD:=hh (out_val (w:=wr) (fun j u hu=>(HR.out.2.cell (p:=⟨L,_,none⟩) hL (fun q=>q)).trans (hcs j u hu)))
   have HXX:=hh (And.intro hx (And.intro hco hAs))
   obtain ⟨i43,hi,hz0,hz1,hz2⟩:=info_parts info43
   have HII:=hh (And.intro hi (And.intro hz0 (And.intro hz1 hz2)))
   clear hcs hx hco hAs hL hi hz0 hz1 hz2
   go_upto_region 5 with fail
   refine wp_region_lit ?_
   refine ex (v:=v5) ?_
   refine ex (v:=.pointer (some ⟨w.heap.size+1,13,none⟩)) ?_
   refine wx (exec_load_pt _ _ 37 _ rfl ⟨w.heap.size+1,13,none⟩ rfl (load_sl37 s13)) ?_
   refine ex (v:=.int .i64 k) ?_
   refine ex (v:=.pointer (some ⟨L,off+k * 69,none⟩)) ?_
   refine ex (v:=.pointer (some ⟨L,off+k * 69+33,none⟩)) ?_
   refine wx (exec_load_pt _ _ 65 _ rfl ⟨L,off+k * 69+33,none⟩ rfl HLD.out) ?_
   refine ww (exec_val1 _ _ rfl _ _ rfl) ?_
   have hN:=row_cells (cs:=[.int .i64 x.val.coin,.slice a2 x.val.assets.length c2]) (newB wr (.cells #[.int .i64 x.val.coin,.slice a2 x.val.assets.length c2] 65))
   have hmA:=(Mod.refl N0 wr).alloc (.cells #[.int .i64 x.val.coin,.slice a2 x.val.assets.length c2] 65)
   clear s13
   generalize wr.alloc (.cells #[.int .i64 x.val.coin,.slice a2 x.val.assets.length c2] 65)=wa at hN hmA ⊢
   generalize wr.heap.size=ga at hN ⊢
   have HN:=hh (And.intro hN hmA)
   have HO2:=hh (HR.out.1.tr hmA)
   clear hN hmA
   refine wpList_append_at _ rfl _ _ 92 rfl 65 i43 _ 2 32 Tryz.underlying92 HII.out.1 HII.out.2.1 HII.out.2.2.1 HII.out.2.2.2 rfl (by decide) v5 l.length (valsCells l) rfl HO2.out.2.1 ⟨ga,0,none⟩ 1 1 [.int .i64 x.val.coin,.slice a2 x.val.assets.length c2] rfl rfl HN.out.1 (by intro u hu; simp only [List.mem_cons,List.not_mem_nil,or_false] at hu; rcases hu with rfl|rfl <;> rfl) (by have:=HLK.out; simp only [maxLen]; omega) (by have:=HLK.out; omega) ?_
   intro v6 w6 ho6 hg6 hat6
   have HF:=hh (RowV.more HO2.out (HR.out.2.tr HN.out.2) (Mod.refl _ _) HXX.out.2 ho6 hg6 hat6)
   clear ho6 hg6 hat6
   (try simp only [Act.put,ja,jb,jc])
   go_wp2_with fail
   go_roundw
   case rel=>exact ⟨k+1,_,_,by omega,rfl,by simp,by rw [List.take_add_one,HXX.out.1,List.map_append,List.map_append,HL.out]; rfl,HF.out.1,HF.out.2⟩
   case measure=>simp [intOf]; omega
  ·have e:k=os.length:=by omega
   subst e
   have hl:=HL.out
   rw [List.take_length] at hl
   have hv:=HR.out.1.vals HR.out.2
   rw [hl] at hv
   have HS:=hh (refSums_calls wr v5 _ hv (by have:=HX.out.2.2.2.2.2.1; omega) (by rw [List.length_map]; exact hol))
   clear hl hv
   go_wp2_with fail
   refine HS.out.mono ?_
   rintro e w3 ⟨u,rfl,hu,hm3⟩
   rename_i hK
   refine hK _ _ ?_
   clear hK
   (try simp only [Act.put,ja,jb,jc])
   obtain ⟨ua,uc,rfl⟩:=owns_shape hu.1
   have HU:=hh (And.intro (tots_at hu.1 (by have:=filt_le (vAssets (os.map (·.val))); have:=HX.out.2.2.2.2.2.1; omega)) (HR.out.2.tr hm3))
   have HUL:=hh (filt_le (vAssets (os.map (·.val))))
   clear hu hm3 HS
   generalize hd2:((putAll (vAssets (os.map (·.val)))).filter (nzW ·.2))=d2 at HU HUL
   have HD2:=hh hd2
   clear hd2
   generalize coins (os.map (·.val))=zo at HCB ⊢
   clear s13
   refine ex (v:=.tuple #[wideV zo,.slice ua d2.length uc]) ?_
   refine ex (v:=wideV zo) ?_
   refine ex (v:=.slice ua d2.length uc) ?_
   have hz3:=newB w3 (.cells #[.int .i64 0,.int .u64 0] 48)
   have hst:=store57 _ w3.heap.size zo hz3
   have hC3:=setRow_same (cs:=#[.int .i64 (hiW zo),.int .u64 (loW zo)]) hz3
   have hm4:Mod N0 w3 ((w3.alloc (.cells #[.int .i64 0,.int .u64 0] 48)).setRow w3.heap.size #[.int .i64 (hiW zo),.int .u64 (loW zo)]):=Mod_setRow ((Mod.refl _ w3).alloc (.cells #[.int .i64 0,.int .u64 0] 48)) (b:=w3.heap.size) (fun q=>by omega) _
   refine ww (exec_alloc _ _ 48 #[.int .i64 0,.int .u64 0] rfl zv57) ?_
   generalize (w3.alloc (.cells #[.int .i64 0,.int .u64 0] 48)).setRow w3.heap.size #[.int .i64 (hiW zo),.int .u64 (loW zo)]=w4 at hst hC3 hm4
   refine wpList_execS rfl (exec_store_pt _ _ rfl rfl rfl hst) ?_
   (try simp only [Act.put])
   have H4:=hh (And.intro hC3 (And.intro (HU.out.1.tr hm4) (HU.out.2.tr hm4)))
   clear hst hC3 hm4 hz3
   generalize w3.heap.size=b3 at H4 ⊢
   go_upto_region 7 with fail
   refine wp_region_held_drew (S:=fun W=>Mod N0 w4 W) (by kernel_rfl) (Mod.refl _ w4).drew (fun hH=>?_)
   refine tk (i:=0) (oi:=⟨some 30,.load 36 (.tmp 2),36, "ref.go:45",#[],none⟩) (v:=.agg cs.toArray) hH (fun w' hSw=>by exact exec_load_pt _ _ 36 _ rfl ⟨w.heap.size,0,none⟩ rfl (load36_box HX.out.1.len (HA.out _ (H4.out.2.2.tr hSw)).1)) ?_
   refine tk (i:=2) (oi:=⟨some 32,.load 48 (.tmp 7),48, "ref.go:45",#[],none⟩) (v:=wideV zo) hH (fun w' hSw=>by exact exec_load_pt _ _ 48 _ rfl ⟨b3,0,none⟩ rfl (load57_box ((hSw.block _ (ltB H4.out.1) (fun q=>q)).trans H4.out.1))) ?_
   refine tr (rs:=[1]) ?_
   refine AllReadyH.cons (o:=⟨some 31,.call {callee:=.value (.func 15),args:=#[.tmp 30],argTypes:=#[36]},48, "ref.go:45",#[⟨0,.data⟩],none⟩) rfl (fun K hK=>?_) AllReadyH.nil
   go_simp
   have hcM:=(Mod.refl N0 w4).drew
   refine (refCoins_calls _ cs _ fees forf HX.out.1 HX.out.2.2.1 HX.out.2.2.2.1 es (HE.out.tr (H4.out.2.2.tr hcM)) HX.out.2.2.2.2.1).mono ?_
   rintro e w5 ⟨rfl,hm5⟩
   have HM5:=hh (hcM.tr hm5)
   clear hm5 hcM
   generalize coins (es.map (·.val))+(fees+forf)=zc at HCB ⊢
   refine hK.out _ _ HM5.out (fun hH=>?_)
   clear hK K
   (try simp only [Act.put,ja,jb,jc])
   refine tk (i:=3) (oi:=⟨some 33,.binOp .eql 48 (.tmp 31) (.tmp 32) 48,4, "ref.go:45",#[⟨1,.data⟩,⟨2,.data⟩],none⟩) (v:=.bool cb) hH (fun w' hSw=>by exact exec_eqlW _ _ rfl zc zo rfl rfl HCB.out) ?_
   refine tq (i:=4) (oi:=⟨some 34,.move (.tmp 33),4, "ref.go:45",#[⟨3,.data⟩,⟨1,.chain⟩],none⟩) (v:=.bool cb) hH ?_
   cases cb with
  |false=>
    refine tn (i:=5) (oi:=⟨some 35,.load 36 (.tmp 2),36, "ref.go:45",#[⟨4,.guard⟩],some (4,true)⟩) (v:=undef) hH ?_
    refine tn (i:=7) (oi:=⟨some 37,.move (.tmp 8),33, "ref.go:45",#[⟨4,.guard⟩],some (4,true)⟩) (v:=undef) hH ?_
    refine tn (i:=8) (oi:=⟨some 38,.fieldAddr 36 (.tmp 2) 9,0, "ref.go:45",#[⟨4,.guard⟩],some (4,true)⟩) (v:=undef) hH ?_
    refine tn (i:=9) (oi:=⟨some 39,.load 33 (.tmp 38),33, "ref.go:45",#[⟨8,.data⟩,⟨4,.guard⟩],some (4,true)⟩) (v:=undef) hH ?_
    refine tr (rs:=[6,10]) ?_
    refine AllReadyH.cons (o:=⟨some 36,.call {callee:=.value (.func 16),args:=#[.tmp 35],argTypes:=#[36]},33, "ref.go:45",#[⟨5,.data⟩,⟨4,.chain⟩,⟨4,.guard⟩],some (4,true)⟩) rfl (fun K hK=>?_) (AllReadyH.cons (o:=⟨some 40,.buildSlice 58 2 #[(0,.tmp 37),(1,.tmp 39)],58, "ref.go:45",#[⟨7,.data⟩,⟨9,.data⟩,⟨4,.guard⟩],some (4,true)⟩) rfl (fun K hK=>?_) AllReadyH.nil)
    ·rw [if_neg (by rw [show Region.wanted _ _=false by rfl]; simp)]
     refine hK.out _ _ HM5.out (fun hH=>?_)
     clear hK K
     (try simp only [Act.put,ja,jb,jc])
     refine tr (rs:=[10]) ?_
     refine AllReadyH.cons (o:=⟨some 40,.buildSlice 58 2 #[(0,.tmp 37),(1,.tmp 39)],58, "ref.go:45",#[⟨7,.data⟩,⟨9,.data⟩,⟨4,.guard⟩],some (4,true)⟩) rfl (fun K hK=>?_) AllReadyH.nil
     rw [if_neg (by rw [show Region.wanted _ _=false by rfl]; simp)]
     refine hK.out _ _ HM5.out (fun hH=>?_)
     clear hK K
     (try simp only [Act.put,ja,jb,jc])
     refine tr (rs:=[11]) ?_
     refine AllReadyH.cons (o:=⟨some 41,.call {callee:=.value (.func 40),args:=#[.tmp 40],argTypes:=#[58]},33, "ref.go:45",#[⟨10,.data⟩,⟨6,.chain⟩,⟨4,.guard⟩],some (4,true)⟩) rfl (fun K hK=>?_) AllReadyH.nil
     rw [if_neg (by rw [show Region.wanted _ _=false by rfl]; simp)]
     refine hK.out _ _ HM5.out (fun hH=>?_)
     clear hK K
     (try simp only [Act.put,ja,jb,jc])
     refine tr (rs:=[12]) ?_
     refine AllReadyH.cons (o:=⟨some 42,.call {callee:=.value (.func 13),args:=#[.tmp 36,.tmp 41],argTypes:=#[33,33]},4, "ref.go:45",#[⟨6,.data⟩,⟨11,.data⟩,⟨11,.chain⟩,⟨4,.guard⟩],some (4,true)⟩) rfl (fun K hK=>?_) AllReadyH.nil
     rw [if_neg (by rw [show Region.wanted _ _=false by rfl]; simp)]
     refine hK.out _ _ HM5.out (fun hH=>?_)
     clear hK K
     (try simp only [Act.put,ja,jb,jc])
     refine tq (i:=13) (oi:=⟨some 43,.pick (.tmp 34) (.tmp 42) (.const (.bool false)),4, "ref.go:45",#[⟨4,.data⟩,⟨12,.data⟩],none⟩) (v:=.bool false) hH ?_
     refine tq (i:=14) (oi:=⟨some 4,.assign (.tmp 43),4, "ref.go:45",#[⟨13,.data⟩,⟨12,.chain⟩,⟨0,.phase⟩,⟨1,.phase⟩,⟨2,.phase⟩,⟨3,.phase⟩,⟨4,.phase⟩,⟨5,.phase⟩,⟨6,.phase⟩,⟨7,.phase⟩,⟨8,.phase⟩,⟨9,.phase⟩,⟨10,.phase⟩,⟨11,.phase⟩,⟨12,.phase⟩,⟨13,.phase⟩],none⟩) (v:=.bool false) hH ?_
     refine wpAnyH_done (by kernel_rfl) ?_ _
     go_wp2_with fail
     go_ret
     exact ⟨rfl,HM.out.tr (H4.out.2.2.tr HM5.out)⟩
    ·rw [if_neg (by rw [show Region.wanted _ _=false by rfl]; simp)]
     refine hK.out _ _ HM5.out (fun hH=>?_)
     clear hK K
     (try simp only [Act.put,ja,jb,jc])
     refine tr (rs:=[6]) ?_
     refine AllReadyH.cons (o:=⟨some 36,.call {callee:=.value (.func 16),args:=#[.tmp 35],argTypes:=#[36]},33, "ref.go:45",#[⟨5,.data⟩,⟨4,.chain⟩,⟨4,.guard⟩],some (4,true)⟩) rfl (fun K hK=>?_) AllReadyH.nil
     rw [if_neg (by rw [show Region.wanted _ _=false by rfl]; simp)]
     refine hK.out _ _ HM5.out (fun hH=>?_)
     clear hK K
     (try simp only [Act.put,ja,jb,jc])
     refine tr (rs:=[11]) ?_
     refine AllReadyH.cons (o:=⟨some 41,.call {callee:=.value (.func 40),args:=#[.tmp 40],argTypes:=#[58]},33, "ref.go:45",#[⟨10,.data⟩,⟨6,.chain⟩,⟨4,.guard⟩],some (4,true)⟩) rfl (fun K hK=>?_) AllReadyH.nil
     rw [if_neg (by rw [show Region.wanted _ _=false by rfl]; simp)]
     refine hK.out _ _ HM5.out (fun hH=>?_)
     clear hK K
     (try simp only [Act.put,ja,jb,jc])
     refine tr (rs:=[12]) ?_
     refine AllReadyH.cons (o:=⟨some 42,.call {callee:=.value (.func 13),args:=#[.tmp 36,.tmp 41],argTypes:=#[33,33]},4, "ref.go:45",#[⟨6,.data⟩,⟨11,.data⟩,⟨11,.chain⟩,⟨4,.guard⟩],some (4,true)⟩) rfl (fun K hK=>?_) AllReadyH.nil
     rw [if_neg (by rw [show Region.wanted _ _=false by rfl]; simp)]
     refine hK.out _ _ HM5.out (fun hH=>?_)
     clear hK K
     (try simp only [Act.put,ja,jb,jc])
     refine tq (i:=13) (oi:=⟨some 43,.pick (.tmp 34) (.tmp 42) (.const (.bool false)),4, "ref.go:45",#[⟨4,.data⟩,⟨12,.data⟩],none⟩) (v:=.bool false) hH ?_
     refine tq (i:=14) (oi:=⟨some 4,.assign (.tmp 43),4, "ref.go:45",#[⟨13,.data⟩,⟨12,.chain⟩,⟨0,.phase⟩,⟨1,.phase⟩,⟨2,.phase⟩,⟨3,.phase⟩,⟨4,.phase⟩,⟨5,.phase⟩,⟨6,.phase⟩,⟨7,.phase⟩,⟨8,.phase⟩,⟨9,.phase⟩,⟨10,.phase⟩,⟨11,.phase⟩,⟨12,.phase⟩,⟨13,.phase⟩],none⟩) (v:=.bool false) hH ?_
     refine wpAnyH_done (by kernel_rfl) ?_ _
     go_wp2_with fail
     go_ret
     exact ⟨rfl,HM.out.tr (H4.out.2.2.tr HM5.out)⟩
  |true=>
    refine tk (i:=5) (oi:=⟨some 35,.load 36 (.tmp 2),36, "ref.go:45",#[⟨4,.guard⟩],some (4,true)⟩) (v:=.agg cs.toArray) hH (fun w' hSw=>by exact exec_load_pt _ _ 36 _ rfl ⟨w.heap.size,0,none⟩ rfl (load36_box HX.out.1.len (HA.out _ (H4.out.2.2.tr hSw)).1)) ?_
    refine tq (i:=7) (oi:=⟨some 37,.move (.tmp 8),33, "ref.go:45",#[⟨4,.guard⟩],some (4,true)⟩) (v:=.slice ua d2.length uc) hH ?_
    refine tq (i:=8) (oi:=⟨some 38,.fieldAddr 36 (.tmp 2) 9,0, "ref.go:45",#[⟨4,.guard⟩],some (4,true)⟩) (v:=.pointer (some ⟨w.heap.size,179,none⟩)) hH ?_
    refine tk (i:=9) (oi:=⟨some 39,.load 33 (.tmp 38),33, "ref.go:45",#[⟨8,.data⟩,⟨4,.guard⟩],some (4,true)⟩) (v:=.slice ma mint.length mc) hH (fun w' hSw=>by exact exec_load_pt _ _ 33 _ rfl ⟨w.heap.size,179,none⟩ rfl (load_sl33 (by rw [cellB (HA.out _ (H4.out.2.2.tr hSw)).1,List.getElem?_toArray]; exact HX.out.2.1))) ?_
    refine tr (rs:=[6,10]) ?_
    refine AllReadyH.cons (o:=⟨some 36,.call {callee:=.value (.func 16),args:=#[.tmp 35],argTypes:=#[36]},33, "ref.go:45",#[⟨5,.data⟩,⟨4,.chain⟩,⟨4,.guard⟩],some (4,true)⟩) rfl (fun K hK=>?_) (AllReadyH.cons (o:=⟨some 40,.buildSlice 58 2 #[(0,.tmp 37),(1,.tmp 39)],58, "ref.go:45",#[⟨7,.data⟩,⟨9,.data⟩,⟨4,.guard⟩],some (4,true)⟩) rfl (fun K hK=>?_) AllReadyH.nil)
    ·go_simp
     have hcM:=HM5.out
     refine (refAssets_calls w5 cs _ fees forf HX.out.1 HX.out.2.2.1 HX.out.2.2.2.1 es (HE.out.tr (H4.out.2.2.tr hcM)) HX.out.2.2.2.2.1).mono ?_
     rintro e w6 ⟨u5,rfl,ho6,hm6⟩
     obtain ⟨va,vc,rfl⟩:=owns_shape ho6.1
     have HG:=hh (And.intro (tots_at ho6.1 (by have:=filt_le (vAssets (es.map (·.val))); have:=HX.out.2.2.2.2.1; omega)) (hcM.tr hm6))
     have HG6:=hh hm6
     clear ho6 hm6
     refine hK.out _ _ HG.out.2 (fun hH=>?_)
     clear hK K
     (try simp only [Act.put,ja,jb,jc])
     refine tr (rs:=[10]) ?_
     refine AllReadyH.cons (o:=⟨some 40,.buildSlice 58 2 #[(0,.tmp 37),(1,.tmp 39)],58, "ref.go:45",#[⟨7,.data⟩,⟨9,.data⟩,⟨4,.guard⟩],some (4,true)⟩) rfl (fun K hK=>?_) AllReadyH.nil
     have hal:Mod N0 w6 (w6.alloc (.cells #[.slice ua d2.length uc,.slice ma mint.length mc] 33)):=(Mod.refl _ w6).alloc _
     have HRW:=hh (rows_two (H4.out.2.1.tr HG.out.2) (HT.out.tr (H4.out.2.2.tr HG.out.2)))
     have HN:=hh (And.intro (HG.out.1.tr hal) (HG.out.2.tr hal))
     refine step_execW rfl (exec_rows2 _ _ rfl _ _ rfl rfl rfl rfl) ?_
     refine hK.out _ _ HN.out.2 (fun hH=>?_)
     clear hK K hal
     (try simp only [Act.put,ja,jb,jc])
     have HMC:=hh (refMerge_calls _ _ _ HRW.out (by have:=HUL.out; have:=HX.out.2.2.2.2.2.1; simp only [List.flatten_cons,List.flatten_nil,List.append_nil,List.length_append]; omega))
     simp only [List.flatten_cons,List.flatten_nil,List.append_nil] at HMC
     refine tr (rs:=[11]) ?_
     refine AllReadyH.cons (o:=⟨some 41,.call {callee:=.value (.func 40),args:=#[.tmp 40],argTypes:=#[58]},33, "ref.go:45",#[⟨10,.data⟩,⟨6,.chain⟩,⟨4,.guard⟩],some (4,true)⟩) rfl (fun K hK=>?_) AllReadyH.nil
     go_simp
     refine HMC.out.mono ?_
     rintro e w8 ⟨u8,rfl,ho8,hm8⟩
     obtain ⟨xa,xc,rfl⟩:=owns_shape ho8.1
     have HEQ:=hh (same_calls w8 _ _ _ _ (HN.out.1.tr hm8) (tots_at ho8.1 (by have:=filt_le (d2 ++ mint); have:=HUL.out; have:=HX.out.2.2.2.2.2.1; simp only [List.length_append] at *; omega)))
     have HM8:=hh (HN.out.2.tr hm8)
     clear ho8 hm8
     refine hK.out _ _ HM8.out (fun hH=>?_)
     clear hK K
     (try simp only [Act.put,ja,jb,jc])
     refine tr (rs:=[12]) ?_
     refine AllReadyH.cons (o:=⟨some 42,.call {callee:=.value (.func 13),args:=#[.tmp 36,.tmp 41],argTypes:=#[33,33]},4, "ref.go:45",#[⟨6,.data⟩,⟨11,.data⟩,⟨11,.chain⟩,⟨4,.guard⟩],some (4,true)⟩) rfl (fun K hK=>?_) AllReadyH.nil
     go_simp
     refine HEQ.out.mono ?_
     rintro e w9 ⟨rfl,hm9⟩
     have HM9:=hh (HM8.out.tr hm9)
     clear hm9
     generalize hbq:decide (((putAll (vAssets (es.map (·.val)))).filter (nzW ·.2)).map tN=((putAll (d2 ++ mint)).filter (nzW ·.2)).map tN)=bq
     have HBQ:=hh hbq
     clear hbq
     refine hK.out _ _ HM9.out (fun hH=>?_)
     clear hK K
     (try simp only [Act.put,ja,jb,jc])
     refine tq (i:=13) (oi:=⟨some 43,.pick (.tmp 34) (.tmp 42) (.const (.bool false)),4, "ref.go:45",#[⟨4,.data⟩,⟨12,.data⟩],none⟩) (v:=.bool bq) hH ?_
     refine tq (i:=14) (oi:=⟨some 4,.assign (.tmp 43),4, "ref.go:45",#[⟨13,.data⟩,⟨12,.chain⟩,⟨0,.phase⟩,⟨1,.phase⟩,⟨2,.phase⟩,⟨3,.phase⟩,⟨4,.phase⟩,⟨5,.phase⟩,⟨6,.phase⟩,⟨7,.phase⟩,⟨8,.phase⟩,⟨9,.phase⟩,⟨10,.phase⟩,⟨11,.phase⟩,⟨12,.phase⟩,⟨13,.phase⟩],none⟩) (v:=.bool bq) hH ?_
     refine wpAnyH_done (by kernel_rfl) ?_ _
     go_wp2_with fail
     go_ret
     have HE9:=hh (show (true && decide (((putAll (vAssets (es.map (·.val)))).filter (nzW ·.2)).map tN=((putAll (((putAll (vAssets (os.map (·.val)))).filter (nzW ·.2)) ++ mint)).filter (nzW ·.2)).map tN))=bq by rw [HD2.out,HBQ.out,Bool.true_and])
     exact ⟨(congrArg (fun b=>Ending.returned (Value.bool b)) HE9.out).symm,HM.out.tr (H4.out.2.2.tr HM9.out)⟩
    ·have hal:Mod N0 w4 (w5.alloc (.cells #[.slice ua d2.length uc,.slice ma mint.length mc] 33)):=HM5.out.alloc _
     have HRW0:=hh (rows_two (H4.out.2.1.tr HM5.out) (HT.out.tr (H4.out.2.2.tr HM5.out)))
     refine step_execW rfl (exec_rows2 _ _ rfl _ _ rfl rfl rfl rfl) ?_
     refine hK.out _ _ hal (fun hH=>?_)
     clear hK K
     (try simp only [Act.put,ja,jb,jc])
     refine tr (rs:=[6]) ?_
     refine AllReadyH.cons (o:=⟨some 36,.call {callee:=.value (.func 16),args:=#[.tmp 35],argTypes:=#[36]},33, "ref.go:45",#[⟨5,.data⟩,⟨4,.chain⟩,⟨4,.guard⟩],some (4,true)⟩) rfl (fun K hK=>?_) AllReadyH.nil
     go_simp
     have hcM:=hal
     refine (refAssets_calls _ cs _ fees forf HX.out.1 HX.out.2.2.1 HX.out.2.2.2.1 es (HE.out.tr (H4.out.2.2.tr hcM)) HX.out.2.2.2.2.1).mono ?_
     rintro e w6 ⟨u5,rfl,ho6,hm6⟩
     obtain ⟨va,vc,rfl⟩:=owns_shape ho6.1
     have HG:=hh (And.intro (tots_at ho6.1 (by have:=filt_le (vAssets (es.map (·.val))); have:=HX.out.2.2.2.2.1; omega)) (hcM.tr hm6))
     have HG6:=hh hm6
     clear ho6 hm6
     refine hK.out _ _ HG.out.2 (fun hH=>?_)
     clear hK K
     (try simp only [Act.put,ja,jb,jc])
     have HRW:=hh (rows_tr HRW0.out HG6.out)
     have HN:=hh (And.intro HG.out.1 HG.out.2)
     have HMC:=hh (refMerge_calls _ _ _ HRW.out (by have:=HUL.out; have:=HX.out.2.2.2.2.2.1; simp only [List.flatten_cons,List.flatten_nil,List.append_nil,List.length_append]; omega))
     simp only [List.flatten_cons,List.flatten_nil,List.append_nil] at HMC
     refine tr (rs:=[11]) ?_
     refine AllReadyH.cons (o:=⟨some 41,.call {callee:=.value (.func 40),args:=#[.tmp 40],argTypes:=#[58]},33, "ref.go:45",#[⟨10,.data⟩,⟨6,.chain⟩,⟨4,.guard⟩],some (4,true)⟩) rfl (fun K hK=>?_) AllReadyH.nil
     go_simp
     refine HMC.out.mono ?_
     rintro e w8 ⟨u8,rfl,ho8,hm8⟩
     obtain ⟨xa,xc,rfl⟩:=owns_shape ho8.1
     have HEQ:=hh (same_calls w8 _ _ _ _ (HN.out.1.tr hm8) (tots_at ho8.1 (by have:=filt_le (d2 ++ mint); have:=HUL.out; have:=HX.out.2.2.2.2.2.1; simp only [List.length_append] at *; omega)))
     have HM8:=hh (HN.out.2.tr hm8)
     clear ho8 hm8
     refine hK.out _ _ HM8.out (fun hH=>?_)
     clear hK K
     (try simp only [Act.put,ja,jb,jc])
     refine tr (rs:=[12]) ?_
     refine AllReadyH.cons (o:=⟨some 42,.call {callee:=.value (.func 13),args:=#[.tmp 36,.tmp 41],argTypes:=#[33,33]},4, "ref.go:45",#[⟨6,.data⟩,⟨11,.data⟩,⟨11,.chain⟩,⟨4,.guard⟩],some (4,true)⟩) rfl (fun K hK=>?_) AllReadyH.nil
     go_simp
     refine HEQ.out.mono ?_
     rintro e w9 ⟨rfl,hm9⟩
     have HM9:=hh (HM8.out.tr hm9)
     clear hm9
     generalize hbq:decide (((putAll (vAssets (es.map (·.val)))).filter (nzW ·.2)).map tN=((putAll (d2 ++ mint)).filter (nzW ·.2)).map tN)=bq
     have HBQ:=hh hbq
     clear hbq
     refine hK.out _ _ HM9.out (fun hH=>?_)
     clear hK K
     (try simp only [Act.put,ja,jb,jc])
     refine tq (i:=13) (oi:=⟨some 43,.pick (.tmp 34) (.tmp 42) (.const (.bool false)),4, "ref.go:45",#[⟨4,.data⟩,⟨12,.data⟩],none⟩) (v:=.bool bq) hH ?_
     refine tq (i:=14) (oi:=⟨some 4,.assign (.tmp 43),4, "ref.go:45",#[⟨13,.data⟩,⟨12,.chain⟩,⟨0,.phase⟩,⟨1,.phase⟩,⟨2,.phase⟩,⟨3,.phase⟩,⟨4,.phase⟩,⟨5,.phase⟩,⟨6,.phase⟩,⟨7,.phase⟩,⟨8,.phase⟩,⟨9,.phase⟩,⟨10,.phase⟩,⟨11,.phase⟩,⟨12,.phase⟩,⟨13,.phase⟩],none⟩) (v:=.bool bq) hH ?_
     refine wpAnyH_done (by kernel_rfl) ?_ _
     go_wp2_with fail
     go_ret
     have HE9:=hh (show (true && decide (((putAll (vAssets (es.map (·.val)))).filter (nzW ·.2)).map tN=((putAll (((putAll (vAssets (os.map (·.val)))).filter (nzW ·.2)) ++ mint)).filter (nzW ·.2)).map tN))=bq by rw [HD2.out,HBQ.out,Bool.true_and])
     exact ⟨(congrArg (fun b=>Ending.returned (Value.bool b)) HE9.out).symm,HM.out.tr (H4.out.2.2.tr HM9.out)⟩
end Go.Proofs.YtckcamlicgdklaaGreat
