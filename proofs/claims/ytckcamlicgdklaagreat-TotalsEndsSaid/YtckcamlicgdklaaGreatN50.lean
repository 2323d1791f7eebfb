/- TotalsTell: its walk. -/
import Derived.Test.YtckcamlicgdklaaGreatN49
import Derived.Deep.Cut
import Derived.Deep.CutBlock
import Derived.Deep.CutRange
namespace Go.Proofs.YtckcamlicgdklaaGreat
open Go.RowKit Go.Mo Go.Sort
theorem zi39:∃ z:Array Value,(∀ w,(zeroValue 39).run Tryz.prog w=.ok (.agg z) w)/\z.size=14:=⟨_,Tryz.zeroValue39,by kernel_rfl⟩
theorem exec_rows3 (act:Act) (o:Oper) {w:World} {x y z:Operand} (ho:o.op=.buildSlice 58 3 #[(0,x),(1,y),(2,z)]) (u v s:Value) (hx:act.eval x=u) (hy:act.eval y=v) (hz:act.eval z=s) (hu:u.cells=#[u]) (hv:v.cells=#[v]) (hs:s.cells=#[s]) :
  (execOp act.eval o).run Tryz.prog w=.ok (.value (.slice (some ⟨w.heap.size,0,none⟩) 3 3)) (w.alloc (.cells #[u,v,s] 33)):=by
 obtain ⟨i33,hi,hz0,hz1,hz2⟩:=info_parts info33
 have:=exec_slicesL act o (w:=w) [(0,x),(1,y),(2,z)] ho [u,v,s] (by simp [hx,hy,hz]) (E:=33) (s:=1) Tryz.underlying58 hi hz0 hz1 (by omega) rfl (by omega) (by omega) (by
  intro q hq
  simp only [List.mem_cons,List.not_mem_nil,or_false] at hq
  rcases hq with rfl|rfl|rfl
  ·rw [hu]; rfl
  ·rw [hv]; rfl
  ·rw [hs]; rfl)
 simpa [hu,hv,hs] using this
theorem RowO.one {w1 w:World} {u:Value} {d:Tl} (h:RowO w1 w u d):u.cells=#[u]:=by
 obtain ⟨a,c,rfl⟩:=own_form h.1
 rfl
/-- A wide number's box. -/
theorem box_wide (w:World) (z:Int):∃ w',(storeVar 48 ⟨w.heap.size,0,none⟩ (wideV z)).run Tryz.prog (w.alloc (.cells #[.int .i64 0,.int .u64 0] 48))=.ok () w'/\Mod N0 w w'/\∀ W,Mod N0 w' W->(loadVar 48 ⟨w.heap.size,0,none⟩).run Tryz.prog W=.ok (wideV z) W:=by
 have hA:=newB w (.cells #[.int .i64 0,.int .u64 0] 48)
 have hst:=store57 (w.alloc (.cells #[.int .i64 0,.int .u64 0] 48)) w.heap.size z hA
 have hR:=setRow_same (cs:=#[.int .i64 (hiW z),.int .u64 (loW z)]) hA
 have hm:Mod N0 w ((w.alloc (.cells #[.int .i64 0,.int .u64 0] 48)).setRow w.heap.size #[.int .i64 (hiW z),.int .u64 (loW z)]):=Mod_setRow ((Mod.refl _ w).alloc _) (b:=w.heap.size) (fun q=>by omega) _
 exact ⟨_,hst,hm,fun W hW=>load57_box ((hW.block _ (ltB hR) (fun q=>q)).trans hR)⟩
set_option maxRecDepth 100000 in
set_option maxHeartbeats 1000000 in
theorem tell_calls (w:World) (cs gs:List Value) (t:Adr) (hr:Rd w 36 cs) (hg:Rd w 39 gs) (hg1:∀ u∈gs,u.oneCell'=true):Calls Tryz.prog 3 #[.agg cs.toArray,.agg gs.toArray,.agg (adrCells t).toArray] w fun e w'=>e=.returned (.bool true)/\Mod N0 w w':=by
 have hcl:=hr.len Tryz.underlying36
 rw [zc36] at hcl
 have hgl:=hg.len Tryz.underlying39
 rw [zc39] at hgl
 obtain ⟨ov,hov,hro⟩:=hg.cellAt Tryz.underlying39 2 rfl 37 13 rfl rfl (by kernel_rfl) zc39 (by omega)
 obtain ⟨oa,ol,oc,rfl,_⟩:=id (hro.slice Tryz.underlying37 cc49 (by omega))
 obtain ⟨w1,hw1⟩:∃ w1,((w.alloc (.cells cs.toArray 36)).alloc (.cells gs.toArray 39)).alloc (.cells (adrCells t).toArray 41)=w1:=⟨_,rfl⟩
 have hA:w1.heap[w.heap.size]?=some (.cells cs.toArray 36 (0,0)):=by rw [← hw1]; exact allocB (allocB (newB w _) _) _
 have hB:w1.heap[w.heap.size+1]?=some (.cells gs.toArray 39 (0,0)):=by
  rw [← hw1]; have:=newB (w.alloc (.cells cs.toArray 36)) (.cells gs.toArray 39); rw [World.size_alloc] at this; exact allocB this _
 have hC:w1.heap[w.heap.size+2]?=some (.cells (adrCells t).toArray 41 (0,0)):=by
  rw [← hw1]; have:=newB ((w.alloc (.cells cs.toArray 36)).alloc (.cells gs.toArray 39)) (.cells (adrCells t).toArray 41); rwa [World.size_alloc,World.size_alloc] at this
 have hm1:Mod N0 w w1:=by rw [← hw1]; exact (((Mod.refl _ w).alloc _).alloc _).alloc _
 have HB:=hh (fun (W:World) (hW:Mod N0 w1 W)=>(show (loadVar 36 ⟨w.heap.size,0,none⟩).run Tryz.prog W=.ok (.agg cs.toArray) W/\(loadVar 39 ⟨w.heap.size+1,0,none⟩).run Tryz.prog W=.ok (.agg gs.toArray) W/\(loadVar 41 ⟨w.heap.size+1+1,0,none⟩).run Tryz.prog W=.ok (.agg (adrCells t).toArray) W/\(loadVar 37 ⟨w.heap.size+1,13,none⟩).run Tryz.prog W=.ok (.slice oa ol oc) W/\W.cell? ⟨w.heap.size+1,13,none⟩=some (.slice oa ol oc) from by
  have h1:=(hW.block _ (ltB hA) (fun q=>q)).trans hA
  have h2:=(hW.block _ (ltB hB) (fun q=>q)).trans hB
  have h3:=(hW.block _ (ltB hC) (fun q=>q)).trans hC
  have s:W.cell? ⟨w.heap.size+1,13,none⟩=some (.slice oa ol oc):=(cellB h2 13).trans (by rw [List.getElem?_toArray]; exact hov)
  exact ⟨load36_box hcl h1,run_loadVar_mid W (w.heap.size+1) 0 39 gs _ (fun j v hv=>by rw [Nat.zero_add,cellB h2,List.getElem?_toArray]; exact hv) Tryz.underlying39 rfl (by rw [ss72,hgl]),load40_box h3,load_sl37 s,s⟩))
 have HM1:=hh hm1
 have HRD:=hh (And.intro hr (And.intro hg (And.intro hro (And.intro hgl (And.intro hg1 hov)))))
 clear hcl hgl hov hro hA hB hC hm1 hr hg hg1
 go_enter Tryz.func3,Tryz.ntmps3
 go_upto_region 0 with fail
 refine wp_region_lit ?_
 refine ww (exec_box _ _ 36 cs rfl rfl) ?_
 refine ww (exec_box _ _ 39 gs rfl rfl) ?_
 refine ww (exec_box _ _ 41 (adrCells t) rfl rfl) ?_
 rw [hw1,World.size_alloc,World.size_alloc,World.size_alloc]
 refine ex (v:=.bool false) ?_
 clear hw1
 go_upto_region 1 with fail
 refine wp_region_lit ?_
 refine wx (exec_load_pt _ _ 36 _ rfl ⟨w.heap.size,0,none⟩ rfl (HB.out _ (Mod.refl _ w1)).1) ?_
 go_wp2_with fail
 refine (great2_calls w cs HRD.out.1 w1 HM1.out).mono ?_
 rintro e w2 ⟨bg,rfl,hgr,hm2⟩
 have HM2:=hh hm2
 have HGR:=hh hgr
 clear hm2 hgr
 rename_i hK
 refine hK _ _ ?_
 clear hK
 (try simp only [Act.put,ja,jb,jc])
 cases bg with
|true=>
  go_wp2_with fail
  refine (awake_calls w2).mono ?_
  rintro e w3 ⟨rfl,hm3⟩
  have HM3:=hh (HM1.out.tr (HM2.out.tr hm3))
  clear hm3
  go_wp2_with fail
  go_ret
  exact ⟨rfl,HM3.out⟩
|false=>
  have s:=(HB.out _ HM2.out).2.2.2.2
  go_wp2_with fail
  refine (outputsOf2_calls w _ HRD.out.2.2.1 w2 (HM1.out.tr HM2.out)).mono ?_
  rintro e w3 ⟨n,rfl,hn0,hn1,hR,hm3⟩
  have HM3:=hh (HM2.out.tr hm3)
  have HR:=hh hR
  clear hm3 hR s
  by_cases hn:n<=6000
  ·have hinp:=inp_of_rd HRD.out.1 HRD.out.2.1 (HGR.out trivial) (fun a len c e=>by
    rw [HRD.out.2.2.2.2.2] at e
    simp only [Option.some.injEq] at e
    obtain ⟨h1,h2⟩:=HR.out hn a len c e
    exact ⟨by omega,fun ms hl=>by have:=h2 ms hl; omega⟩)
   obtain ⟨fees,forf,es,os,mint,hinp⟩:=hinp
   have HI:=hh hinp
   clear hinp HR HGR
   go_upto_region 3 with fail
   clear hn hn0 hn1
   go_cut [7,8] from 23 (fun p q wx=>∃ (b7 b8:Nat) (cs':List Value),p=.pointer (some ⟨b7,0,none⟩)/\q=.pointer (some ⟨b8,0,none⟩)/\T3 w w1 wx cs gs b7 b8 cs')
   case first=>
    obtain ⟨z6,hz6,_,hz6s⟩:=zi36
    obtain ⟨z9,hz9,hz9s⟩:=zi39
    have HZ:=hh (And.intro (And.intro hz6 hz6s) (And.intro hz9 hz9s))
    clear hz6 hz6s hz9 hz9s
    refine wp_region_held_drew (S:=fun W=>Mod N0 w1 W) (by kernel_rfl) HM3.out.drew (fun hH=>?_)
    refine tk (i:=0) (oi:=⟨some 23,.load 36 (.tmp 3),36, "law.go:35",#[],none⟩) (v:=.agg cs.toArray) hH (fun w' hSw=>by exact exec_load_pt _ _ 36 _ rfl ⟨w.heap.size,0,none⟩ rfl (HB.out _ hSw).1) ?_
    refine tk (i:=2) (oi:=⟨some 25,.load 39 (.tmp 4),39, "law.go:35",#[⟨5,.gcOnly .lateStores⟩],none⟩) (v:=.agg gs.toArray) hH (fun w' hSw=>by exact exec_load_pt _ _ 39 _ rfl ⟨w.heap.size+1,0,none⟩ rfl (HB.out _ hSw).2.1) ?_
    have HQ0:=hh (R3.start (w:=w) (cs:=cs) HM3.out.drew)
    refine tr (rs:=[1,3,4]) ?_
    refine AllReadyH.cons (o:=⟨some 24,.call {callee:=.value (.func 8),args:=#[.tmp 23],argTypes:=#[36]},36, "law.go:35",#[⟨0,.data⟩],none⟩) rfl (fun K hK=>?_) (AllReadyH.cons (o:=⟨some 7,.alloc 36,0, "law.go:35",#[],none⟩) rfl (fun K hK=>?_) (AllReadyH.cons (o:=⟨some 8,.alloc 39,0, "law.go:35",#[],none⟩) rfl (fun K hK=>?_) AllReadyH.nil))
    ·skip
     go_simp
     refine (copyState cs HRD.out.1 w3.drew (HM1.out.tr HQ0.out.mod)).mono ?_
     rintro e w1x hc
     obtain ⟨cs1,rfl,h3⟩:=HQ0.out.call hc
     have HQ1:=hh h3
     clear hc h3
     refine hK.out _ _ HQ1.out.mod (fun hH=>?_)
     clear hK K
     (try simp only [Act.put,ja,jb,jc])
     refine tr (rs:=[3,4]) ?_
     refine AllReadyH.cons (o:=⟨some 7,.alloc 36,0, "law.go:35",#[],none⟩) rfl (fun K hK=>?_) (AllReadyH.cons (o:=⟨some 8,.alloc 39,0, "law.go:35",#[],none⟩) rfl (fun K hK=>?_) AllReadyH.nil)
     ·skip
      have h3:=HQ1.out.a7 HZ.out.1.2
      refine step_execW rfl (exec_alloc _ _ 36 z6 rfl HZ.out.1.1) ?_
      refine hK.out _ _ h3.mod (fun hH=>?_)
      clear hK K
      (try simp only [Act.put,ja,jb,jc])
      clear hH
      have hH:(fun W=>Mod N0 w1 W) (w1x.alloc (.cells z6 36)):=h3.mod
      generalize w1x.alloc (.cells z6 36)=w2x at h3 hH ⊢
      generalize w1x.heap.size=g2 at h3 ⊢
      have HQ2:=hh h3
      clear h3
      refine tr (rs:=[4]) ?_
      refine AllReadyH.cons (o:=⟨some 8,.alloc 39,0, "law.go:35",#[],none⟩) rfl (fun K hK=>?_) AllReadyH.nil
      have h3:=HQ2.out.a8 HZ.out.2.2
      refine step_execW rfl (exec_alloc _ _ 39 z9 rfl HZ.out.2.1) ?_
      refine hK.out _ _ h3.mod (fun hH=>?_)
      clear hK K
      (try simp only [Act.put,ja,jb,jc])
      clear hH
      have hH:(fun W=>Mod N0 w1 W) (w2x.alloc (.cells z9 39)):=h3.mod
      generalize w2x.alloc (.cells z9 39)=w3x at h3 hH ⊢
      generalize w2x.heap.size=g3 at h3 ⊢
      have HQ3:=hh h3
      clear h3
      obtain ⟨v5,v6,st7,m5,st8,h3⟩:=HQ3.out.put HM1.out.size HRD.out.2.2.2.1 HRD.out.2.2.2.2.1
      refine tr (rs:=[5]) ?_
      refine AllReadyH.cons (o:=⟨none,.store 36 (.tmp 7) (.tmp 24),0, "law.go:35",#[⟨3,.data⟩,⟨1,.data⟩,⟨1,.chain⟩,⟨0,.phase⟩,⟨1,.phase⟩,⟨2,.textOnly .lateStores⟩,⟨3,.phase⟩,⟨4,.phase⟩],none⟩) rfl (fun K hK=>?_) AllReadyH.nil
      refine step_execS rfl (exec_store_pt _ _ rfl rfl rfl st7) ?_
      refine hK.out _ _ m5 (fun hH=>?_)
      clear hK K
      (try simp only [Act.put])
      refine tr (rs:=[6]) ?_
      refine AllReadyH.cons (o:=⟨none,.store 39 (.tmp 8) (.tmp 25),0, "law.go:35",#[⟨4,.data⟩,⟨2,.data⟩,⟨5,.chain⟩,⟨0,.phase⟩,⟨1,.phase⟩,⟨2,.phase⟩,⟨3,.phase⟩,⟨4,.phase⟩,⟨5,.phase⟩],none⟩) rfl (fun K hK=>?_) AllReadyH.nil
      refine step_execS rfl (exec_store_pt _ _ rfl rfl rfl st8) ?_
      refine hK.out _ _ h3.mod (fun hH=>?_)
      clear hK K
      (try simp only [Act.put])
      refine wpAnyH_done (by kernel_rfl) ?_ _
      have H3:=hh h3
      clear st7 m5 st8 h3
      go_wp2_with fail
      go_meet
      case rel=>exact ⟨_,_,_,rfl,rfl,H3.out⟩
     ·skip
      have h3:=HQ1.out.a8 HZ.out.2.2
      refine step_execW rfl (exec_alloc _ _ 39 z9 rfl HZ.out.2.1) ?_
      refine hK.out _ _ h3.mod (fun hH=>?_)
      clear hK K
      (try simp only [Act.put,ja,jb,jc])
      clear hH
      have hH:(fun W=>Mod N0 w1 W) (w1x.alloc (.cells z9 39)):=h3.mod
      generalize w1x.alloc (.cells z9 39)=w4x at h3 hH ⊢
      generalize w1x.heap.size=g4 at h3 ⊢
      have HQ4:=hh h3
      clear h3
      refine tr (rs:=[3]) ?_
      refine AllReadyH.cons (o:=⟨some 7,.alloc 36,0, "law.go:35",#[],none⟩) rfl (fun K hK=>?_) AllReadyH.nil
      have h3:=HQ4.out.a7 HZ.out.1.2
      refine step_execW rfl (exec_alloc _ _ 36 z6 rfl HZ.out.1.1) ?_
      refine hK.out _ _ h3.mod (fun hH=>?_)
      clear hK K
      (try simp only [Act.put,ja,jb,jc])
      clear hH
      have hH:(fun W=>Mod N0 w1 W) (w4x.alloc (.cells z6 36)):=h3.mod
      generalize w4x.alloc (.cells z6 36)=w5x at h3 hH ⊢
      generalize w4x.heap.size=g5 at h3 ⊢
      have HQ5:=hh h3
      clear h3
      obtain ⟨v5,v6,st7,m5,st8,h3⟩:=HQ5.out.put HM1.out.size HRD.out.2.2.2.1 HRD.out.2.2.2.2.1
      refine tr (rs:=[5]) ?_
      refine AllReadyH.cons (o:=⟨none,.store 36 (.tmp 7) (.tmp 24),0, "law.go:35",#[⟨3,.data⟩,⟨1,.data⟩,⟨1,.chain⟩,⟨0,.phase⟩,⟨1,.phase⟩,⟨2,.textOnly .lateStores⟩,⟨3,.phase⟩,⟨4,.phase⟩],none⟩) rfl (fun K hK=>?_) AllReadyH.nil
      refine step_execS rfl (exec_store_pt _ _ rfl rfl rfl st7) ?_
      refine hK.out _ _ m5 (fun hH=>?_)
      clear hK K
      (try simp only [Act.put])
      refine tr (rs:=[6]) ?_
      refine AllReadyH.cons (o:=⟨none,.store 39 (.tmp 8) (.tmp 25),0, "law.go:35",#[⟨4,.data⟩,⟨2,.data⟩,⟨5,.chain⟩,⟨0,.phase⟩,⟨1,.phase⟩,⟨2,.phase⟩,⟨3,.phase⟩,⟨4,.phase⟩,⟨5,.phase⟩],none⟩) rfl (fun K hK=>?_) AllReadyH.nil
      refine step_execS rfl (exec_store_pt _ _ rfl rfl rfl st8) ?_
      refine hK.out _ _ h3.mod (fun hH=>?_)
      clear hK K
      (try simp only [Act.put])
      refine wpAnyH_done (by kernel_rfl) ?_ _
      have H3:=hh h3
      clear st7 m5 st8 h3
      go_wp2_with fail
      go_meet
      case rel=>exact ⟨_,_,_,rfl,rfl,H3.out⟩
    ·skip
     have h3:=HQ0.out.a7 HZ.out.1.2
     refine step_execW rfl (exec_alloc _ _ 36 z6 rfl HZ.out.1.1) ?_
     refine hK.out _ _ h3.mod (fun hH=>?_)
     clear hK K
     (try simp only [Act.put,ja,jb,jc])
     clear hH
     have hH:(fun W=>Mod N0 w1 W) (w3.drew.alloc (.cells z6 36)):=h3.mod
     generalize w3.drew.alloc (.cells z6 36)=w6x at h3 hH ⊢
     generalize w3.drew.heap.size=g6 at h3 ⊢
     have HQ6:=hh h3
     clear h3
     refine tr (rs:=[1,4]) ?_
     refine AllReadyH.cons (o:=⟨some 24,.call {callee:=.value (.func 8),args:=#[.tmp 23],argTypes:=#[36]},36, "law.go:35",#[⟨0,.data⟩],none⟩) rfl (fun K hK=>?_) (AllReadyH.cons (o:=⟨some 8,.alloc 39,0, "law.go:35",#[],none⟩) rfl (fun K hK=>?_) AllReadyH.nil)
     ·skip
      go_simp
      refine (copyState cs HRD.out.1 w6x (HM1.out.tr HQ6.out.mod)).mono ?_
      rintro e w7x hc
      obtain ⟨cs7,rfl,h3⟩:=HQ6.out.call hc
      have HQ7:=hh h3
      clear hc h3
      refine hK.out _ _ HQ7.out.mod (fun hH=>?_)
      clear hK K
      (try simp only [Act.put,ja,jb,jc])
      refine tr (rs:=[4]) ?_
      refine AllReadyH.cons (o:=⟨some 8,.alloc 39,0, "law.go:35",#[],none⟩) rfl (fun K hK=>?_) AllReadyH.nil
      have h3:=HQ7.out.a8 HZ.out.2.2
      refine step_execW rfl (exec_alloc _ _ 39 z9 rfl HZ.out.2.1) ?_
      refine hK.out _ _ h3.mod (fun hH=>?_)
      clear hK K
      (try simp only [Act.put,ja,jb,jc])
      clear hH
      have hH:(fun W=>Mod N0 w1 W) (w7x.alloc (.cells z9 39)):=h3.mod
      generalize w7x.alloc (.cells z9 39)=w8x at h3 hH ⊢
      generalize w7x.heap.size=g8 at h3 ⊢
      have HQ8:=hh h3
      clear h3
      obtain ⟨v5,v6,st7,m5,st8,h3⟩:=HQ8.out.put HM1.out.size HRD.out.2.2.2.1 HRD.out.2.2.2.2.1
      refine tr (rs:=[5]) ?_
      refine AllReadyH.cons (o:=⟨none,.store 36 (.tmp 7) (.tmp 24),0, "law.go:35",#[⟨3,.data⟩,⟨1,.data⟩,⟨1,.chain⟩,⟨0,.phase⟩,⟨1,.phase⟩,⟨2,.textOnly .lateStores⟩,⟨3,.phase⟩,⟨4,.phase⟩],none⟩) rfl (fun K hK=>?_) AllReadyH.nil
      refine step_execS rfl (exec_store_pt _ _ rfl rfl rfl st7) ?_
      refine hK.out _ _ m5 (fun hH=>?_)
      clear hK K
      (try simp only [Act.put])
      refine tr (rs:=[6]) ?_
      refine AllReadyH.cons (o:=⟨none,.store 39 (.tmp 8) (.tmp 25),0, "law.go:35",#[⟨4,.data⟩,⟨2,.data⟩,⟨5,.chain⟩,⟨0,.phase⟩,⟨1,.phase⟩,⟨2,.phase⟩,⟨3,.phase⟩,⟨4,.phase⟩,⟨5,.phase⟩],none⟩) rfl (fun K hK=>?_) AllReadyH.nil
      refine step_execS rfl (exec_store_pt _ _ rfl rfl rfl st8) ?_
      refine hK.out _ _ h3.mod (fun hH=>?_)
      clear hK K
      (try simp only [Act.put])
      refine wpAnyH_done (by kernel_rfl) ?_ _
      have H3:=hh h3
      clear st7 m5 st8 h3
      go_wp2_with fail
      go_meet
      case rel=>exact ⟨_,_,_,rfl,rfl,H3.out⟩
     ·skip
      have h3:=HQ6.out.a8 HZ.out.2.2
      refine step_execW rfl (exec_alloc _ _ 39 z9 rfl HZ.out.2.1) ?_
      refine hK.out _ _ h3.mod (fun hH=>?_)
      clear hK K
      (try simp only [Act.put,ja,jb,jc])
      clear hH
      have hH:(fun W=>Mod N0 w1 W) (w6x.alloc (.cells z9 39)):=h3.mod
      generalize w6x.alloc (.cells z9 39)=w9x at h3 hH ⊢
      generalize w6x.heap.size=g9 at h3 ⊢
      have HQ9:=hh h3
      clear h3
      refine tr (rs:=[1]) ?_
      refine AllReadyH.cons (o:=⟨some 24,.call {callee:=.value (.func 8),args:=#[.tmp 23],argTypes:=#[36]},36, "law.go:35",#[⟨0,.data⟩],none⟩) rfl (fun K hK=>?_) AllReadyH.nil
      go_simp
      refine (copyState cs HRD.out.1 w9x (HM1.out.tr HQ9.out.mod)).mono ?_
      rintro e w10x hc
      obtain ⟨cs10,rfl,h3⟩:=HQ9.out.call hc
      have HQ10:=hh h3
      clear hc h3
      refine hK.out _ _ HQ10.out.mod (fun hH=>?_)
      clear hK K
      (try simp only [Act.put,ja,jb,jc])
      obtain ⟨v5,v6,st7,m5,st8,h3⟩:=HQ10.out.put HM1.out.size HRD.out.2.2.2.1 HRD.out.2.2.2.2.1
      refine tr (rs:=[5]) ?_
      refine AllReadyH.cons (o:=⟨none,.store 36 (.tmp 7) (.tmp 24),0, "law.go:35",#[⟨3,.data⟩,⟨1,.data⟩,⟨1,.chain⟩,⟨0,.phase⟩,⟨1,.phase⟩,⟨2,.textOnly .lateStores⟩,⟨3,.phase⟩,⟨4,.phase⟩],none⟩) rfl (fun K hK=>?_) AllReadyH.nil
      refine step_execS rfl (exec_store_pt _ _ rfl rfl rfl st7) ?_
      refine hK.out _ _ m5 (fun hH=>?_)
      clear hK K
      (try simp only [Act.put])
      refine tr (rs:=[6]) ?_
      refine AllReadyH.cons (o:=⟨none,.store 39 (.tmp 8) (.tmp 25),0, "law.go:35",#[⟨4,.data⟩,⟨2,.data⟩,⟨5,.chain⟩,⟨0,.phase⟩,⟨1,.phase⟩,⟨2,.phase⟩,⟨3,.phase⟩,⟨4,.phase⟩,⟨5,.phase⟩],none⟩) rfl (fun K hK=>?_) AllReadyH.nil
      refine step_execS rfl (exec_store_pt _ _ rfl rfl rfl st8) ?_
      refine hK.out _ _ h3.mod (fun hH=>?_)
      clear hK K
      (try simp only [Act.put])
      refine wpAnyH_done (by kernel_rfl) ?_ _
      have H3:=hh h3
      clear st7 m5 st8 h3
      go_wp2_with fail
      go_meet
      case rel=>exact ⟨_,_,_,rfl,rfl,H3.out⟩
    ·skip
     have h3:=HQ0.out.a8 HZ.out.2.2
     refine step_execW rfl (exec_alloc _ _ 39 z9 rfl HZ.out.2.1) ?_
     refine hK.out _ _ h3.mod (fun hH=>?_)
     clear hK K
     (try simp only [Act.put,ja,jb,jc])
     clear hH
     have hH:(fun W=>Mod N0 w1 W) (w3.drew.alloc (.cells z9 39)):=h3.mod
     generalize w3.drew.alloc (.cells z9 39)=w11x at h3 hH ⊢
     generalize w3.drew.heap.size=g11 at h3 ⊢
     have HQ11:=hh h3
     clear h3
     refine tr (rs:=[1,3]) ?_
     refine AllReadyH.cons (o:=⟨some 24,.call {callee:=.value (.func 8),args:=#[.tmp 23],argTypes:=#[36]},36, "law.go:35",#[⟨0,.data⟩],none⟩) rfl (fun K hK=>?_) (AllReadyH.cons (o:=⟨some 7,.alloc 36,0, "law.go:35",#[],none⟩) rfl (fun K hK=>?_) AllReadyH.nil)
     ·skip
      go_simp
      refine (copyState cs HRD.out.1 w11x (HM1.out.tr HQ11.out.mod)).mono ?_
      rintro e w12x hc
      obtain ⟨cs12,rfl,h3⟩:=HQ11.out.call hc
      have HQ12:=hh h3
      clear hc h3
      refine hK.out _ _ HQ12.out.mod (fun hH=>?_)
      clear hK K
      (try simp only [Act.put,ja,jb,jc])
      refine tr (rs:=[3]) ?_
      refine AllReadyH.cons (o:=⟨some 7,.alloc 36,0, "law.go:35",#[],none⟩) rfl (fun K hK=>?_) AllReadyH.nil
      have h3:=HQ12.out.a7 HZ.out.1.2
      refine step_execW rfl (exec_alloc _ _ 36 z6 rfl HZ.out.1.1) ?_
      refine hK.out _ _ h3.mod (fun hH=>?_)
      clear hK K
      (try simp only [Act.put,ja,jb,jc])
      clear hH
      have hH:(fun W=>Mod N0 w1 W) (w12x.alloc (.cells z6 36)):=h3.mod
      generalize w12x.alloc (.cells z6 36)=w13x at h3 hH ⊢
      generalize w12x.heap.size=g13 at h3 ⊢
      have HQ13:=hh h3
      clear h3
      obtain ⟨v5,v6,st7,m5,st8,h3⟩:=HQ13.out.put HM1.out.size HRD.out.2.2.2.1 HRD.out.2.2.2.2.1
      refine tr (rs:=[5]) ?_
      refine AllReadyH.cons (o:=⟨none,.store 36 (.tmp 7) (.tmp 24),0, "law.go:35",#[⟨3,.data⟩,⟨1,.data⟩,⟨1,.chain⟩,⟨0,.phase⟩,⟨1,.phase⟩,⟨2,.textOnly .lateStores⟩,⟨3,.phase⟩,⟨4,.phase⟩],none⟩) rfl (fun K hK=>?_) AllReadyH.nil
      refine step_execS rfl (exec_store_pt _ _ rfl rfl rfl st7) ?_
      refine hK.out _ _ m5 (fun hH=>?_)
      clear hK K
      (try simp only [Act.put])
      refine tr (rs:=[6]) ?_
      refine AllReadyH.cons (o:=⟨none,.store 39 (.tmp 8) (.tmp 25),0, "law.go:35",#[⟨4,.data⟩,⟨2,.data⟩,⟨5,.chain⟩,⟨0,.phase⟩,⟨1,.phase⟩,⟨2,.phase⟩,⟨3,.phase⟩,⟨4,.phase⟩,⟨5,.phase⟩],none⟩) rfl (fun K hK=>?_) AllReadyH.nil
      refine step_execS rfl (exec_store_pt _ _ rfl rfl rfl st8) ?_
      refine hK.out _ _ h3.mod (fun hH=>?_)
      clear hK K
      (try simp only [Act.put])
      refine wpAnyH_done (by kernel_rfl) ?_ _
      have H3:=hh h3
      clear st7 m5 st8 h3
      go_wp2_with fail
      go_meet
      case rel=>exact ⟨_,_,_,rfl,rfl,H3.out⟩
     ·skip
      have h3:=HQ11.out.a7 HZ.out.1.2
      refine step_execW rfl (exec_alloc _ _ 36 z6 rfl HZ.out.1.1) ?_
      refine hK.out _ _ h3.mod (fun hH=>?_)
      clear hK K
      (try simp only [Act.put,ja,jb,jc])
      clear hH
      have hH:(fun W=>Mod N0 w1 W) (w11x.alloc (.cells z6 36)):=h3.mod
      generalize w11x.alloc (.cells z6 36)=w14x at h3 hH ⊢
      generalize w11x.heap.size=g14 at h3 ⊢
      have HQ14:=hh h3
      clear h3
      refine tr (rs:=[1]) ?_
      refine AllReadyH.cons (o:=⟨some 24,.call {callee:=.value (.func 8),args:=#[.tmp 23],argTypes:=#[36]},36, "law.go:35",#[⟨0,.data⟩],none⟩) rfl (fun K hK=>?_) AllReadyH.nil
      go_simp
      refine (copyState cs HRD.out.1 w14x (HM1.out.tr HQ14.out.mod)).mono ?_
      rintro e w15x hc
      obtain ⟨cs15,rfl,h3⟩:=HQ14.out.call hc
      have HQ15:=hh h3
      clear hc h3
      refine hK.out _ _ HQ15.out.mod (fun hH=>?_)
      clear hK K
      (try simp only [Act.put,ja,jb,jc])
      obtain ⟨v5,v6,st7,m5,st8,h3⟩:=HQ15.out.put HM1.out.size HRD.out.2.2.2.1 HRD.out.2.2.2.2.1
      refine tr (rs:=[5]) ?_
      refine AllReadyH.cons (o:=⟨none,.store 36 (.tmp 7) (.tmp 24),0, "law.go:35",#[⟨3,.data⟩,⟨1,.data⟩,⟨1,.chain⟩,⟨0,.phase⟩,⟨1,.phase⟩,⟨2,.textOnly .lateStores⟩,⟨3,.phase⟩,⟨4,.phase⟩],none⟩) rfl (fun K hK=>?_) AllReadyH.nil
      refine step_execS rfl (exec_store_pt _ _ rfl rfl rfl st7) ?_
      refine hK.out _ _ m5 (fun hH=>?_)
      clear hK K
      (try simp only [Act.put])
      refine tr (rs:=[6]) ?_
      refine AllReadyH.cons (o:=⟨none,.store 39 (.tmp 8) (.tmp 25),0, "law.go:35",#[⟨4,.data⟩,⟨2,.data⟩,⟨5,.chain⟩,⟨0,.phase⟩,⟨1,.phase⟩,⟨2,.phase⟩,⟨3,.phase⟩,⟨4,.phase⟩,⟨5,.phase⟩],none⟩) rfl (fun K hK=>?_) AllReadyH.nil
      refine step_execS rfl (exec_store_pt _ _ rfl rfl rfl st8) ?_
      refine hK.out _ _ h3.mod (fun hH=>?_)
      clear hK K
      (try simp only [Act.put])
      refine wpAnyH_done (by kernel_rfl) ?_ _
      have H3:=hh h3
      clear st7 m5 st8 h3
      go_wp2_with fail
      go_meet
      case rel=>exact ⟨_,_,_,rfl,rfl,H3.out⟩
   case rest=>
    obtain ⟨b7,b8,cs1,rfl,rfl,h3⟩:=hcut
    have H3:=hh h3
    clear h3 HM2 HM3
    go_upto_region 4 with fail
    refine wp_region_lit ?_
    refine ex (v:=.pointer (some ⟨w.heap.size+1,13,none⟩)) ?_
    refine wx (exec_load_pt _ _ 37 _ rfl ⟨w.heap.size+1,13,none⟩ rfl (HB.out _ H3.out.mod).2.2.2.1) ?_
    go_wp2_with fail
    refine (copyOutputs _ HRD.out.2.2.1 wc (HM1.out.tr H3.out.mod)).mono ?_
    rintro e w3x hc
    obtain ⟨ov1,w4,rfl,hst,h4⟩:=H3.out.outs HM1.out.size HRD.out.2.2.2.1 hc
    have H4:=hh h4
    clear h4 hc H3
    rename_i hK
    refine hK _ _ ?_
    clear hK
    (try simp only [Act.put,ja,jb,jc])
    refine ex (v:=.pointer (some ⟨b8,13,none⟩)) ?_
    refine wpList_execS rfl (exec_store_pt _ _ rfl rfl rfl hst) ?_
    (try simp only [Act.put])
    clear hst
    obtain ⟨es1,os1,hk,hk2,hinc⟩:=HI.out.copy HRD.out.2.2.2.2.2 H4.out (HM1.out.tr H4.out.mod)
    have HIO:=hh (HI.out.tr (HM1.out.tr H4.out.mod))
    have HIC:=hh (And.intro hinc (And.intro hk hk2))
    clear hinc hk hk2 HI
    obtain ⟨ov1a,ov1c,hov1⟩:∃ a c,ov1=.slice a ol c:=by
     obtain ⟨no,hqo⟩:=H4.out.eqo
     obtain ⟨_,_,a,a',l,c,c',h1,h2,_⟩:=hqo.slice rfl Tryz.underlying37 cc49
     cases h1
     exact ⟨a',c',h2⟩
    subst hov1
    have HL4:=hh (fun (W:World) (hW:Mod N0 w4 W)=>(show (loadVar 36 ⟨b7,0,none⟩).run Tryz.prog W=.ok (.agg cs1.toArray) W/\(loadVar 39 ⟨b8,0,none⟩).run Tryz.prog W=.ok (.agg (gs.set 13 (.slice ov1a ol ov1c)).toArray) W/\(loadVar 37 ⟨b8,13,none⟩).run Tryz.prog W=.ok (.slice ov1a ol ov1c) W from by
     have h1:=(hW.block _ (ltB H4.out.c7) (fun q=>q)).trans H4.out.c7
     have h2:=(hW.block _ (ltB H4.out.c8) (fun q=>q)).trans H4.out.c8
     have hl1:cs1.length=182:=by
      obtain ⟨_,_,_,hc1,_⟩:=HIC.out.1.args
      exact hc1.len
     have s:W.cell? ⟨b8,13,none⟩=some (.slice ov1a ol ov1c):=(cellB h2 13).trans (by rw [List.getElem?_toArray,List.getElem?_set]; simp [HRD.out.2.2.2.1])
     exact ⟨load36_box hl1 h1,run_loadVar_mid W b8 0 39 (gs.set 13 (.slice ov1a ol ov1c)) _ (fun j v hv=>by rw [Nat.zero_add,cellB h2,List.getElem?_toArray]; exact hv) Tryz.underlying39 rfl (by rw [ss72,List.length_set,HRD.out.2.2.2.1]),load_sl37 s⟩))
    go_upto_region 5 with fail
    refine wp_region_lit ?_
    refine wx (exec_load_pt _ _ 36 _ rfl ⟨b7,0,none⟩ rfl (HL4.out _ (Mod.refl _ w4)).1) ?_
    refine wx (exec_load_pt _ _ 41 _ rfl ⟨w.heap.size+1+1,0,none⟩ rfl (HB.out _ (H4.out.mod.tr (Mod.refl N0 w4))).2.2.1) ?_
    go_wp2_with fail
    refine (c_balance HIC.out.1 HIC.out.2.1 t).mono ?_
    rintro e w5 ⟨u5,d5,rfl,ho,hd,hm⟩
    rename_i hK
    refine hK _ _ ?_
    clear hK
    (try simp only [Act.put,ja,jb,jc])
    obtain ⟨x5,hst,hmx,hl⟩:=box_wide w5 (coins (flt es t))
    have HM5:=hh (((Mod.refl N0 w4)).tr (hm.tr hmx))
    have HW5:=hh hl
    have HO5:=hh (And.intro (ho.tr hmx) hd)
    have HS5:=hh hst
    clear ho hd hm hmx hl hst
    refine ex (v:=.tuple #[wideV (coins (flt es t)),u5]) ?_
    refine wpList_exec (v:=wideV (coins (flt es t))) rfl (by go_simp; try rfl) ?_
    (try simp only [Act.put,ja,jb,jc])
    refine ex (v:=u5) ?_
    refine ww (exec_alloc _ _ 48 _ rfl zv57) ?_
    refine wpList_execS rfl (exec_store_pt _ _ rfl rfl rfl HS5.out) ?_
    (try simp only [Act.put])
    refine ex (v:=u5) ?_
    generalize w5.heap.size=g5 at HW5 ⊢
    clear HS5
    go_upto_region 6 with fail
    refine wp_region_lit ?_
    refine wx (exec_load_pt _ _ 36 _ rfl ⟨w.heap.size,0,none⟩ rfl (HB.out _ (H4.out.mod.tr HM5.out)).1) ?_
    refine wx (exec_load_pt _ _ 41 _ rfl ⟨w.heap.size+1+1,0,none⟩ rfl (HB.out _ (H4.out.mod.tr HM5.out)).2.2.1) ?_
    go_wp2_with fail
    refine (c_refBalance (HIO.out.tr HM5.out) t).mono ?_
    rintro e w6 ⟨u6,d6,rfl,ho,hd,hm⟩
    rename_i hK
    refine hK _ _ ?_
    clear hK
    (try simp only [Act.put,ja,jb,jc])
    obtain ⟨x6,hst,hmx,hl⟩:=box_wide w6 (coins (flt es t))
    have HM6:=hh ((HM5.out).tr (hm.tr hmx))
    have HM56:=hh (hm.tr hmx)
    have HW6:=hh hl
    have HO6:=hh (And.intro (ho.tr hmx) hd)
    have HS6:=hh hst
    clear ho hd hm hmx hl hst
    refine ex (v:=.tuple #[wideV (coins (flt es t)),u6]) ?_
    refine wpList_exec (v:=wideV (coins (flt es t))) rfl (by go_simp; try rfl) ?_
    (try simp only [Act.put,ja,jb,jc])
    refine ex (v:=u6) ?_
    refine ww (exec_alloc _ _ 48 _ rfl zv57) ?_
    refine wpList_execS rfl (exec_store_pt _ _ rfl rfl rfl HS6.out) ?_
    (try simp only [Act.put])
    refine ex (v:=u6) ?_
    generalize w6.heap.size=g6 at HW6 ⊢
    clear HS6
    go_upto_region 7 with fail
    refine wp_region_lit ?_
    refine wx (exec_load_pt _ _ 36 _ rfl ⟨b7,0,none⟩ rfl (HL4.out _ HM6.out).1) ?_
    go_wp2_with fail
    refine (c_assets (HIC.out.1.tr HM6.out) HIC.out.2.1).mono ?_
    rintro e w7 ⟨u7,d7,rfl,ho,hd,hm⟩
    rename_i hK
    refine hK _ _ ?_
    clear hK
    (try simp only [Act.put,ja,jb,jc])
    have HM67:=hh hm
    have HM7:=hh (HM6.out.tr hm)
    have HO7:=hh (And.intro ho hd)
    clear ho hd hm
    refine ex (v:=u7) ?_
    have HX5:=hh (HM56.out.tr HM67.out)
    go_upto_region 8 with fail
    refine wp_region_held_drew (S:=fun W=>Mod N0 w7 W) (by kernel_rfl) ((Mod.refl _ w7).drew) (fun hH=>?_)
    refine tk (i:=0) (oi:=⟨some 44,.load 48 (.tmp 9),48, "law.go:40",#[],none⟩) (v:=wideV (coins (flt es t))) hH (fun w' hSw=>by exact exec_load_pt _ _ 48 _ rfl ⟨g5,0,none⟩ rfl (HW5.out _ (HX5.out.tr hSw))) ?_
    refine tk (i:=1) (oi:=⟨some 45,.load 48 (.tmp 11),48, "law.go:40",#[],none⟩) (v:=wideV (coins (flt es t))) hH (fun w' hSw=>by exact exec_load_pt _ _ 48 _ rfl ⟨g6,0,none⟩ rfl (HW6.out _ (HM67.out.tr hSw))) ?_
    refine tk (i:=2) (oi:=⟨some 46,.binOp .neq 48 (.tmp 44) (.tmp 45) 48,4, "law.go:40",#[⟨0,.data⟩,⟨1,.data⟩],none⟩) (v:=.bool false) hH (fun w' hSw=>by exact exec_neqW _ _ rfl (coins (flt es t)) rfl rfl) ?_
    refine tq (i:=3) (oi:=⟨some 47,.move (.tmp 46),4, "law.go:40",#[⟨2,.data⟩],none⟩) (v:=.bool false) hH ?_
    refine tq (i:=4) (oi:=⟨some 48,.move (.tmp 10),33, "law.go:40",#[⟨3,.guard⟩],some (3,false)⟩) (v:=u5) hH ?_
    refine tq (i:=5) (oi:=⟨some 49,.move (.tmp 12),33, "law.go:40",#[⟨3,.guard⟩],some (3,false)⟩) (v:=u6) hH ?_
    refine tr (rs:=[6]) ?_
    refine AllReadyH.cons (o:=⟨some 50,.call {callee:=.value (.func 13),args:=#[.tmp 48,.tmp 49],argTypes:=#[33,33]},4, "law.go:40",#[⟨4,.data⟩,⟨5,.data⟩,⟨3,.chain⟩,⟨3,.guard⟩],some (3,false)⟩) rfl (fun K hK=>?_) AllReadyH.nil
    go_simp
    refine (c_same (HO5.out.1.tr (HX5.out.tr ((Mod.refl N0 w7).drew))) (HO6.out.1.tr (HM67.out.tr ((Mod.refl N0 w7).drew))) (HO5.out.2.trans HO6.out.2.symm)).mono ?_
    rintro e y1 ⟨rfl,hm⟩
    have HY1:=hh ((((Mod.refl N0 w7).drew)).tr hm)
    clear hm
    refine hK.out _ _ HY1.out (fun hH=>?_)
    clear hK K
    (try simp only [Act.put,ja,jb,jc])
    refine tq (i:=7) (oi:=⟨some 51,.unOp .not 4 (.tmp 50),4, "law.go:40",#[⟨6,.data⟩,⟨3,.guard⟩],some (3,false)⟩) (v:=.bool false) hH ?_
    refine tq (i:=8) (oi:=⟨some 52,.pick (.tmp 47) (.const (.bool true)) (.tmp 51),4, "law.go:40",#[⟨3,.data⟩,⟨7,.data⟩],none⟩) (v:=.bool false) hH ?_
    refine tq (i:=9) (oi:=⟨some 53,.move (.tmp 52),4, "law.go:40",#[⟨8,.data⟩,⟨6,.chain⟩],none⟩) (v:=.bool false) hH ?_
    refine tk (i:=10) (oi:=⟨some 54,.load 36 (.tmp 7),36, "law.go:40",#[⟨9,.guard⟩],some (9,false)⟩) (v:=.agg cs1.toArray) hH (fun w' hSw=>by exact exec_load_pt _ _ 36 _ rfl ⟨b7,0,none⟩ rfl ((HL4.out _ (HM7.out.tr hSw)).1)) ?_
    refine tk (i:=12) (oi:=⟨some 56,.load 36 (.tmp 3),36, "law.go:40",#[⟨9,.guard⟩],some (9,false)⟩) (v:=.agg cs.toArray) hH (fun w' hSw=>by exact exec_load_pt _ _ 36 _ rfl ⟨w.heap.size,0,none⟩ rfl ((HB.out _ (H4.out.mod.tr (HM7.out.tr hSw))).1)) ?_
    refine tr (rs:=[11]) ?_
    refine AllReadyH.cons (o:=⟨some 55,.call {callee:=.value (.func 14),args:=#[.tmp 54],argTypes:=#[36]},48, "law.go:40",#[⟨10,.data⟩,⟨9,.chain⟩,⟨9,.guard⟩],some (9,false)⟩) rfl (fun K hK=>?_) AllReadyH.nil
    go_simp
    refine (c_coins (HIC.out.1.tr (HM7.out.tr HY1.out)) HIC.out.2.1).mono ?_
    rintro e y2 ⟨rfl,hm⟩
    have HY2:=hh ((HY1.out).tr hm)
    clear hm
    refine hK.out _ _ HY2.out (fun hH=>?_)
    clear hK K
    (try simp only [Act.put,ja,jb,jc])
    refine tr (rs:=[13]) ?_
    refine AllReadyH.cons (o:=⟨some 57,.call {callee:=.value (.func 15),args:=#[.tmp 56],argTypes:=#[36]},48, "law.go:40",#[⟨12,.data⟩,⟨11,.chain⟩,⟨9,.guard⟩],some (9,false)⟩) rfl (fun K hK=>?_) AllReadyH.nil
    go_simp
    refine (c_refCoins (HIO.out.tr (HM7.out.tr HY2.out))).mono ?_
    rintro e y3 ⟨rfl,hm⟩
    have HY3:=hh ((HY2.out).tr hm)
    clear hm
    refine hK.out _ _ HY3.out (fun hH=>?_)
    clear hK K
    (try simp only [Act.put,ja,jb,jc])
    refine tk (i:=14) (oi:=⟨some 58,.binOp .neq 48 (.tmp 55) (.tmp 57) 48,4, "law.go:40",#[⟨11,.data⟩,⟨13,.data⟩,⟨9,.guard⟩],some (9,false)⟩) (v:=.bool false) hH (fun w' hSw=>by exact exec_neqW _ _ rfl (coins (es.map (·.val))+(fees+forf)) rfl rfl) ?_
    refine tq (i:=15) (oi:=⟨some 59,.pick (.tmp 53) (.const (.bool true)) (.tmp 58),4, "law.go:40",#[⟨9,.data⟩,⟨14,.data⟩],none⟩) (v:=.bool false) hH ?_
    refine tq (i:=16) (oi:=⟨some 60,.move (.tmp 59),4, "law.go:40",#[⟨15,.data⟩,⟨13,.chain⟩],none⟩) (v:=.bool false) hH ?_
    refine tq (i:=17) (oi:=⟨some 61,.move (.tmp 13),33, "law.go:40",#[⟨16,.guard⟩],some (16,false)⟩) (v:=u7) hH ?_
    refine tk (i:=18) (oi:=⟨some 62,.load 36 (.tmp 3),36, "law.go:40",#[⟨16,.guard⟩],some (16,false)⟩) (v:=.agg cs.toArray) hH (fun w' hSw=>by exact exec_load_pt _ _ 36 _ rfl ⟨w.heap.size,0,none⟩ rfl ((HB.out _ (H4.out.mod.tr (HM7.out.tr hSw))).1)) ?_
    refine tr (rs:=[19]) ?_
    refine AllReadyH.cons (o:=⟨some 63,.call {callee:=.value (.func 16),args:=#[.tmp 62],argTypes:=#[36]},33, "law.go:40",#[⟨18,.data⟩,⟨16,.chain⟩,⟨16,.guard⟩],some (16,false)⟩) rfl (fun K hK=>?_) AllReadyH.nil
    go_simp
    refine (c_refAssets (HIO.out.tr (HM7.out.tr HY3.out))).mono ?_
    rintro e y4 ⟨v4,q4,rfl,ho,hd,hm⟩
    have HY4:=hh ((HY3.out).tr hm)
    have HO4:=hh (And.intro ho hd)
    clear ho hd
    clear hm
    refine hK.out _ _ HY4.out (fun hH=>?_)
    clear hK K
    (try simp only [Act.put,ja,jb,jc])
    refine tr (rs:=[20]) ?_
    refine AllReadyH.cons (o:=⟨some 64,.call {callee:=.value (.func 13),args:=#[.tmp 61,.tmp 63],argTypes:=#[33,33]},4, "law.go:40",#[⟨17,.data⟩,⟨19,.data⟩,⟨19,.chain⟩,⟨16,.guard⟩],some (16,false)⟩) rfl (fun K hK=>?_) AllReadyH.nil
    go_simp
    refine (c_same (HO7.out.1.tr HY4.out) HO4.out.1 (HO7.out.2.trans HO4.out.2.symm)).mono ?_
    rintro e y5 ⟨rfl,hm⟩
    have HY5:=hh ((HY4.out).tr hm)
    clear hm
    refine hK.out _ _ HY5.out (fun hH=>?_)
    clear hK K
    (try simp only [Act.put,ja,jb,jc])
    refine tq (i:=21) (oi:=⟨some 65,.unOp .not 4 (.tmp 64),4, "law.go:40",#[⟨20,.data⟩,⟨16,.guard⟩],some (16,false)⟩) (v:=.bool false) hH ?_
    refine tq (i:=22) (oi:=⟨some 66,.pick (.tmp 60) (.const (.bool true)) (.tmp 65),4, "law.go:40",#[⟨16,.data⟩,⟨21,.data⟩],none⟩) (v:=.bool false) hH ?_
    refine tq (i:=23) (oi:=⟨some 67,.move (.tmp 66),4, "law.go:40",#[⟨22,.data⟩,⟨20,.chain⟩],none⟩) (v:=.bool false) hH ?_
    refine tk (i:=24) (oi:=⟨some 68,.load 36 (.tmp 7),36, "law.go:40",#[⟨23,.guard⟩],some (23,false)⟩) (v:=.agg cs1.toArray) hH (fun w' hSw=>by exact exec_load_pt _ _ 36 _ rfl ⟨b7,0,none⟩ rfl ((HL4.out _ (HM7.out.tr hSw)).1)) ?_
    refine tk (i:=25) (oi:=⟨some 69,.load 39 (.tmp 8),39, "law.go:40",#[⟨23,.guard⟩],some (23,false)⟩) (v:=.agg (gs.set 13 (.slice ov1a ol ov1c)).toArray) hH (fun w' hSw=>by exact exec_load_pt _ _ 39 _ rfl ⟨b8,0,none⟩ rfl (HL4.out _ (HM7.out.tr hSw)).2.1) ?_
    refine tk (i:=27) (oi:=⟨some 71,.load 36 (.tmp 3),36, "law.go:40",#[⟨23,.guard⟩],some (23,false)⟩) (v:=.agg cs.toArray) hH (fun w' hSw=>by exact exec_load_pt _ _ 36 _ rfl ⟨w.heap.size,0,none⟩ rfl ((HB.out _ (H4.out.mod.tr (HM7.out.tr hSw))).1)) ?_
    refine tk (i:=28) (oi:=⟨some 72,.load 39 (.tmp 4),39, "law.go:40",#[⟨23,.guard⟩],some (23,false)⟩) (v:=.agg gs.toArray) hH (fun w' hSw=>by exact exec_load_pt _ _ 39 _ rfl ⟨w.heap.size+1,0,none⟩ rfl (HB.out _ (H4.out.mod.tr (HM7.out.tr hSw))).2.1) ?_
    refine tr (rs:=[26]) ?_
    refine AllReadyH.cons (o:=⟨some 70,.call {callee:=.value (.func 17),args:=#[.tmp 68,.tmp 69],argTypes:=#[36,39]},4, "law.go:40",#[⟨24,.data⟩,⟨25,.data⟩,⟨23,.chain⟩,⟨23,.guard⟩],some (23,false)⟩) rfl (fun K hK=>?_) AllReadyH.nil
    go_simp
    refine (c_whole (HIC.out.1.tr (HM7.out.tr HY5.out)) HIC.out.2.1 HIC.out.2.2).mono ?_
    rintro e y6 ⟨rfl,hm⟩
    have HY6:=hh ((HY5.out).tr hm)
    clear hm
    refine hK.out _ _ HY6.out (fun hH=>?_)
    clear hK K
    (try simp only [Act.put,ja,jb,jc])
    refine tr (rs:=[29]) ?_
    refine AllReadyH.cons (o:=⟨some 73,.call {callee:=.value (.func 18),args:=#[.tmp 71,.tmp 72],argTypes:=#[36,39]},4, "law.go:40",#[⟨27,.data⟩,⟨28,.data⟩,⟨26,.chain⟩,⟨23,.guard⟩],some (23,false)⟩) rfl (fun K hK=>?_) AllReadyH.nil
    go_simp
    refine (c_refWhole (HIO.out.tr (HM7.out.tr HY6.out))).mono ?_
    rintro e y7 ⟨rfl,hm⟩
    have HY7:=hh ((HY6.out).tr hm)
    clear hm
    refine hK.out _ _ HY7.out (fun hH=>?_)
    clear hK K
    (try simp only [Act.put,ja,jb,jc])
    generalize Wb es os fees forf mint=bw
    refine tk (i:=30) (oi:=⟨some 74,.binOp .neq 4 (.tmp 70) (.tmp 73) 4,4, "law.go:40",#[⟨26,.data⟩,⟨29,.data⟩,⟨23,.guard⟩],some (23,false)⟩) (v:=.bool false) hH ?_ ?_
    ·intro w' hSw
     go_simp
     try (cases bw <;> rfl)
    refine tq (i:=31) (oi:=⟨some 75,.pick (.tmp 67) (.const (.bool true)) (.tmp 74),4, "law.go:40",#[⟨23,.data⟩,⟨30,.data⟩],none⟩) (v:=.bool false) hH ?_
    refine wpAnyH_done (by kernel_rfl) ?_ _
    have HM8:=hh (HM7.out.tr HY7.out)
    go_upto_region 10 with fail
    refine wp_region_lit ?_
    refine wx (exec_load_pt _ _ 36 _ rfl ⟨b7,0,none⟩ rfl (HL4.out _ HM8.out).1) ?_
    refine wx (exec_load_pt _ _ 36 _ rfl ⟨w.heap.size,0,none⟩ rfl (HB.out _ (H4.out.mod.tr HM8.out)).1) ?_
    obtain ⟨ns,hqs⟩:=H4.out.eq
    obtain ⟨no,hqo⟩:=H4.out.eqo
    have HCS:=hh (sameState cs cs1 HRD.out.1 hqs y7 HM8.out)
    have HCO:=hh (fun (W:World) (hW:Mod N0 w4 W)=>sameOutputs _ _ HRD.out.2.2.1 hqo W hW)
    clear hqs hqo
    go_wp2_with fail
    refine HCS.out.mono ?_
    rintro e z1 ⟨rfl,hm⟩
    have HZ1:=hh (HY7.out.tr hm)
    clear hm HCS
    rename_i hK
    refine hK _ _ ?_
    clear hK
    (try simp only [Act.put,ja,jb,jc])
    refine ex (v:=.bool true) ?_
    refine eg (v:=.pointer (some ⟨b8,13,none⟩)) ?_
    refine gx (exec_load_pt _ _ 37 _ rfl ⟨b8,13,none⟩ rfl (HL4.out _ (HM7.out.tr HZ1.out)).2.2) ?_
    refine eg (v:=.pointer (some ⟨w.heap.size+1,13,none⟩)) ?_
    refine gx (exec_load_pt _ _ 37 _ rfl ⟨w.heap.size+1,13,none⟩ rfl (HB.out _ (H4.out.mod.tr (HM7.out.tr HZ1.out))).2.2.2.1) ?_
    go_wp2_with fail
    refine (HCO.out z1 (HM7.out.tr HZ1.out)).mono ?_
    rintro e z2 ⟨rfl,hm⟩
    have HZ2:=hh (HZ1.out.tr hm)
    clear hm HCO
    rename_i hK
    refine hK _ _ ?_
    clear hK
    (try simp only [Act.put,ja,jb,jc])
    refine ex (v:=.bool true) ?_
    refine ex (v:=.bool true) ?_
    refine eg (v:=u5) ?_
    refine eg (v:=u7) ?_
    refine gx (exec_load_pt _ _ 36 _ rfl ⟨b7,0,none⟩ rfl (HL4.out _ (HM7.out.tr HZ2.out)).1) ?_
    go_wp2_with fail
    refine (c_assets (HIC.out.1.tr (HM7.out.tr HZ2.out)) HIC.out.2.1).mono ?_
    rintro e z3 ⟨u8,d8,rfl,ho,hd,hm⟩
    have HZ23:=hh hm
    have HZ3:=hh (HZ2.out.tr hm)
    have HO8:=hh ho
    clear ho hd hm
    rename_i hK
    refine hK _ _ ?_
    clear hK
    (try simp only [Act.put,ja,jb,jc])
    obtain ⟨vs,ns,hv0,hv1,hv2,hfl⟩:=three_apart (HO5.out.1.tr (HX5.out.tr HZ3.out)) (HO7.out.1.tr HZ3.out) HO8.out (fun k hk=>ownsRow_lt (HO5.out.1.tr HM56.out).1 hk) (fun k hk=>by
     rcases hk with hk|hk
     ·exact ownsRow_lt (HO5.out.1.tr (HX5.out.tr HZ2.out)).1 hk
     ·exact ownsRow_lt (HO7.out.1.tr HZ2.out).1 hk)
    have hms:∀ W,Mod (Sb 3 vs) (z3.alloc (.cells #[u5,u7,u8] 33)) W->Mod N0 w4 W:=fun W hW=>by
     have h0:Mod N0 w4 (z3.alloc (.cells #[u5,u7,u8] 33)):=(HM7.out.tr HZ3.out).alloc _
     refine h0.trans hW (fun q hq hl=>?_)
     obtain ⟨j,hj,e⟩:=hq
     have n5:∀ k,u5.ownBlock=some k->w4.heap.size<=k:=HO5.out.1.2.2
     have n7:∀ k,u7.ownBlock=some k->w4.heap.size<=k:=fun k hk=>Nat.le_trans HM6.out.size (HO7.out.1.2.2 k hk)
     have n8:∀ k,u8.ownBlock=some k->w4.heap.size<=k:=fun k hk=>Nat.le_trans (HM7.out.tr HZ2.out).size (HO8.out.2.2 k hk)
     match j,hj with
    |0,_=>rw [hv0] at e; have:=n5 q e; omega
    |1,_=>rw [hv1] at e; have:=n7 q e; omega
    |2,_=>rw [hv2] at e; have:=n8 q e; omega
    refine gx (exec_rows3 _ _ rfl u5 u7 u8 rfl rfl rfl HO5.out.1.one HO7.out.1.one HO8.out.one) ?_
    generalize z3.alloc (.cells #[u5,u7,u8] 33)=z4 at hfl hms ⊢
    generalize z3.heap.size=gq at hfl ⊢
    have HFL:=hh hfl
    have HMS:=hh hms
    clear hfl hms hv0 hv1 hv2
    go_wp2_with fail
    refine (apartTotals_calls z4 gq 0 3 3 vs ns HFL.out (by omega) (by omega)).mono ?_
    rintro e z5 ⟨rfl,hm⟩
    have HZ5:=hh (HMS.out _ hm)
    clear hm HMS
    rename_i hK
    refine hK _ _ ?_
    clear hK
    (try simp only [Act.put,ja,jb,jc])
    go_wp2_with fail
    refine (awake_calls z5).mono ?_
    rintro e z6 ⟨rfl,hm⟩
    have HZ6:=hh (HM1.out.tr (H4.out.mod.tr (HZ5.out.tr hm)))
    clear hm
    rename_i hK
    refine hK _ _ ?_
    clear hK
    (try simp only [Act.put,ja,jb,jc])
    go_wp2_with fail
    go_ret
    exact ⟨rfl,HZ6.out⟩
  ·go_wp2_with fail
   refine (awake_calls w3).mono ?_
   rintro e w4 ⟨rfl,hm4⟩
   have HM4:=hh (HM1.out.tr (HM3.out.tr hm4))
   clear hm4
   go_wp2_with fail
   go_ret
   exact ⟨rfl,HM4.out⟩
end Go.Proofs.YtckcamlicgdklaaGreat
