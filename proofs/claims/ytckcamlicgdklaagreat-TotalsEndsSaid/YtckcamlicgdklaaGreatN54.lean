/- TotalsEnds: its walk. -/
import Derived.Test.YtckcamlicgdklaaGreatN53
import Derived.Deep.Cut
import Derived.Deep.CutBlock
import Derived.Deep.CutRange
namespace Go.Proofs.YtckcamlicgdklaaGreat
open Go.RowKit Go.Mo Go.Sort
theorem info2:(Tryz.prog.info? 2).map (fun i=>(i.zero,i.size,i.bytes))=some (some (.int .i64 0),1,8):=by kernel_rfl
theorem exec_nums (act:Act) (o:Oper) {w:World} (ho:o.op=.buildSlice 60 6 #[(0,.const (.int .i64 (-9223372036854775808))),(1,.const (.int .i64 (-1))),(2,.const (.int .i64 0)),(3,.const (.int .i64 1)),(4,.const (.int .i64 5)),(5,.const (.int .i64 9223372036854775807))]) :
  (execOp act.eval o).run Tryz.prog w=.ok (.value (.slice (some ⟨w.heap.size,0,none⟩) 6 6)) (w.alloc (.cells (numsL.map (Value.int .i64)).toArray 2)):=by
 obtain ⟨i2,hi,hz0,hz1,hz2⟩:=info_parts info2
 have:=exec_slicesL act o (w:=w) [(0,.const (.int .i64 (-9223372036854775808))),(1,.const (.int .i64 (-1))),(2,.const (.int .i64 0)),(3,.const (.int .i64 1)),(4,.const (.int .i64 5)),(5,.const (.int .i64 9223372036854775807))] ho (numsL.map (Value.int .i64)) rfl (E:=2) (s:=1) Tryz.underlying60 hi hz0 hz1 (by omega) rfl (by omega) (by omega) (by
  intro v hv
  obtain ⟨z,_,rfl⟩:=List.mem_map.1 hv
  rfl)
 have e:((numsL.map (Value.int .i64)).flatMap fun v=>v.cells.toList)=numsL.map (Value.int .i64):=rfl
 rwa [e] at this
section
variable {w8 W:World} {b4 b5 b6:Nat} {p4 p5 p6:List Value}
theorem T8.set4 {n:Nat} {c:Int} (h:T8 w8 W b4 b5 b6 (entCells (entE n c) none 0) p5 p6) (l:List (Nm×Int)) (la:Nat) (hl:l.length=2) :
  ∃ W',(storeVar 63 ⟨b4,67,none⟩ (.slice (some ⟨la,0,none⟩) 2 2)).run Tryz.prog W=.ok () W'/\Mod (fun q=>q=b4) W W'/\T8 w8 W' b4 b5 b6 (entCells (entA n c l) (some ⟨la,0,none⟩) 2) p5 p6:=by
 have hc:W.cell? ⟨b4,67,none⟩=some ((entCells (entE n c) none 0)[67]'(by rw [entCells_length]; omega)):=by rw [cellB h.c4,List.getElem?_toArray,List.getElem?_eq_getElem (by rw [entCells_length]; omega)]
 have hf:W.frozen? ⟨b4,67,none⟩=false:=frozB h.c4 _
 have hst:(storeVar 63 ⟨b4,67,none⟩ (.slice (some ⟨la,0,none⟩) 2 2)).run Tryz.prog W=.ok () (W.setCell ⟨b4,67,none⟩ (.slice (some ⟨la,0,none⟩) 2 2)):=by go_simp
 have m:Mod (fun q=>q=b4) W (W.setCell ⟨b4,67,none⟩ (.slice (some ⟨la,0,none⟩) 2 2)):=(Mod.refl (fun q=>q=b4) W).setCell (p:=⟨b4,67,none⟩) (fun _=>rfl) _
 have l4:=h.l4
 refine ⟨_,hst,m,h.mod.trans m (fun q e hl=>by omega),?_,(m.block _ (ltB h.c5) (fun e=>h.n45 e.symm)).trans h.c5,(m.block _ (ltB h.c6) (fun e=>h.n46 e.symm)).trans h.c6,h.l4,h.l5,h.n45,h.n46,h.n56⟩
 have:=ent_set n c l (some ⟨la,0,none⟩) 2
 rw [hl] at this
 rw [setB h.c4,List.setIfInBounds_toArray,this]
theorem T8.set5 {n:Nat} {c:Int} (h:T8 w8 W b4 b5 b6 p4 (entCells (entE n c) none 0) p6) (l:List (Nm×Int)) (la:Nat) (hl:l.length=2) :
  ∃ W',(storeVar 63 ⟨b5,67,none⟩ (.slice (some ⟨la,0,none⟩) 2 2)).run Tryz.prog W=.ok () W'/\Mod (fun q=>q=b5) W W'/\T8 w8 W' b4 b5 b6 p4 (entCells (entA n c l) (some ⟨la,0,none⟩) 2) p6:=by
 have hc:W.cell? ⟨b5,67,none⟩=some ((entCells (entE n c) none 0)[67]'(by rw [entCells_length]; omega)):=by rw [cellB h.c5,List.getElem?_toArray,List.getElem?_eq_getElem (by rw [entCells_length]; omega)]
 have hf:W.frozen? ⟨b5,67,none⟩=false:=frozB h.c5 _
 have hst:(storeVar 63 ⟨b5,67,none⟩ (.slice (some ⟨la,0,none⟩) 2 2)).run Tryz.prog W=.ok () (W.setCell ⟨b5,67,none⟩ (.slice (some ⟨la,0,none⟩) 2 2)):=by go_simp
 have m:Mod (fun q=>q=b5) W (W.setCell ⟨b5,67,none⟩ (.slice (some ⟨la,0,none⟩) 2 2)):=(Mod.refl (fun q=>q=b5) W).setCell (p:=⟨b5,67,none⟩) (fun _=>rfl) _
 have l5:=h.l5
 refine ⟨_,hst,m,h.mod.trans m (fun q e hl=>by omega),(m.block _ (ltB h.c4) h.n45).trans h.c4,?_,(m.block _ (ltB h.c6) (fun e=>h.n56 e.symm)).trans h.c6,h.l4,h.l5,h.n45,h.n46,h.n56⟩
 have:=ent_set n c l (some ⟨la,0,none⟩) 2
 rw [hl] at this
 rw [setB h.c5,List.setIfInBounds_toArray,this]
end
/-- Region 11 in whatever order. -/
structure R11 (w12 W:World) (pe pm:List Value) (oe om o7:Option Nat):Prop where
 mod:Mod N0 w12 W
 he:∀ b,oe=some b->W.heap[b]?=some (.cells pe.toArray 73 (0,0))
 hm:∀ b,om=some b->W.heap[b]?=some (.cells pm.toArray 78 (0,0))
 h7:∀ b,o7=some b->w12.heap.size<=b/\∃ z:Array Value,W.heap[b]?=some (.cells z 36 (0,0))/\z.size=182
section
variable {w12 W:World} {pe pm:List Value} {oe om o7:Option Nat}
theorem R11.ae (h:R11 w12 W pe pm none om o7):R11 w12 (W.alloc (.cells pe.toArray 73)) pe pm (some W.heap.size) om o7:=
 ⟨h.mod.alloc _,(fun b e=>by cases e; exact newB W _),(fun b e=>allocB (h.hm b e) _),(fun b e=>by obtain ⟨h1,z,h2,h3⟩:=h.h7 b e; exact ⟨h1,z,allocB h2 _,h3⟩)⟩
theorem R11.am (h:R11 w12 W pe pm oe none o7):R11 w12 (W.alloc (.cells pm.toArray 78)) pe pm oe (some W.heap.size) o7:=
 ⟨h.mod.alloc _,(fun b e=>allocB (h.he b e) _),(fun b e=>by cases e; exact newB W _),(fun b e=>by obtain ⟨h1,z,h2,h3⟩:=h.h7 b e; exact ⟨h1,z,allocB h2 _,h3⟩)⟩
theorem R11.a7 (h:R11 w12 W pe pm oe om none) {z:Array Value} (hz:z.size=182):R11 w12 (W.alloc (.cells z 36)) pe pm oe om (some W.heap.size):=
 ⟨h.mod.alloc _,(fun b e=>allocB (h.he b e) _),(fun b e=>allocB (h.hm b e) _),(fun b e=>by cases e; exact ⟨h.mod.size,z,newB W _,hz⟩)⟩
theorem R11.put {le lm p7:Nat} (h:R11 w12 W pe pm (some le) (some lm) (some p7)) {cs:List Value} (hl:cs.length=182) (h1:∀ u∈cs,u.oneCell'=true) :
  ∃ W',(storeVar 36 ⟨p7,0,none⟩ (.agg cs.toArray)).run Tryz.prog W=.ok () W'/\Mod N0 w12 W'/\W'.heap[le]?=some (.cells pe.toArray 73 (0,0))/\W'.heap[lm]?=some (.cells pm.toArray 78 (0,0))/\W'.heap[p7]?=some (.cells cs.toArray 36 (0,0)):=by
 obtain ⟨n7,z,k7,s7⟩:=h.h7 p7 rfl
 have ke:=h.he le rfl
 have km:=h.hm lm rfl
 have st:=run_storeVar_row (P:=Tryz.prog) W p7 36 36 z cs.toArray k7 (by rw [zs36]; simp [hl]) (by simp [s7,hl]) (by rw [List.all_toArray,List.all_eq_true]; exact h1)
 have c7:=setRow_same (cs:=cs.toArray) k7
 have m7:Mod (fun q=>q=p7) W (W.setRow p7 cs.toArray):=Mod_setRow (Mod.refl (fun q=>q=p7) W) (b:=p7) (fun _=>rfl) _
 refine ⟨_,st,h.mod.trans m7 (fun q e hl=>by omega),(m7.block _ (ltB ke) (fun e=>?_)).trans ke,(m7.block _ (ltB km) (fun e=>?_)).trans km,c7⟩
 ·rw [e,k7] at ke
  simp at ke
 ·rw [e,k7] at km
  simp at km
end
theorem stL_length (a b c d:Value):(stL a b c d).length=182:=by kernel_rfl
theorem stL_one {a b c d:Value} (h1:a.oneCell'=true) (h2:b.oneCell'=true) (h3:c.oneCell'=true) (h4:d.oneCell'=true):∀ u∈stL a b c d,u.oneCell'=true:=by
 intro u hu
 simp only [stL,oo,rootL,List.flatten_cons,List.flatten_nil,List.mem_append,List.mem_cons,List.mem_replicate,List.not_mem_nil,or_false] at hu
 have hr:∀ (q:Prop),u=.int .u8 0->u.oneCell'=true:=fun _ e=>by rw [e]; rfl
 rcases hu with ⟨_,rfl⟩|⟨_,rfl⟩|rfl|rfl|(⟨_,rfl⟩|(rfl|rfl)|⟨_,rfl⟩|rfl)|⟨_,rfl⟩|⟨_,rfl⟩|rfl|rfl|rfl|rfl|rfl <;> first|rfl|assumption
theorem gnL_length (a:Value):(gnL a).length=14:=by simp [gnL]
theorem gnL_one {a:Value} (h1:a.oneCell'=true):∀ u∈gnL a,u.oneCell'=true:=by
 intro u hu
 simp only [gnL,List.flatten_cons,List.flatten_nil,List.mem_append,List.mem_cons,List.mem_replicate,List.not_mem_nil,or_false] at hu
 rcases hu with ⟨_,rfl⟩|rfl|rfl <;> first|rfl|assumption
theorem exec_ents4 (act:Act) (o:Oper) {w:World} {x y u v:Operand} (ho:o.op=.buildSlice 28 4 #[(0,x),(1,y),(2,u),(3,v)]) (p q r s:List Value) (hp:p.length=102) (hq:q.length=102) (hr:r.length=102) (hs:s.length=102) (hx:act.eval x=.agg p.toArray) (hy:act.eval y=.agg q.toArray) (hu:act.eval u=.agg r.toArray) (hv:act.eval v=.agg s.toArray) :
  (execOp act.eval o).run Tryz.prog w=.ok (.value (.slice (some ⟨w.heap.size,0,none⟩) 4 4)) (w.alloc (.cells ([p,q,r,s].flatten).toArray 73)):=by
 obtain ⟨i73,hi,hz0,hz1,hz2⟩:=info_parts info51
 have:=exec_slicesL act o (w:=w) [(0,x),(1,y),(2,u),(3,v)] ho [.agg p.toArray,.agg q.toArray,.agg r.toArray,.agg s.toArray] (by simp [hx,hy,hu,hv]) (E:=73) (s:=102) Tryz.underlying28 hi hz0 hz1 (by omega) rfl (by omega) (by omega) (by
  intro v hv
  simp only [List.mem_cons,List.not_mem_nil,or_false] at hv
  rcases hv with rfl|rfl|rfl|rfl <;> simp [Value.cells,hp,hq,hr,hs])
 simpa [Value.cells] using this
theorem exec_outs2 (act:Act) (o:Oper) {w:World} {x y:Operand} (ho:o.op=.buildSlice 37 2 #[(0,x),(1,y)]) (p q:List Value) (hp:p.length=69) (hq:q.length=69) (hx:act.eval x=.agg p.toArray) (hy:act.eval y=.agg q.toArray) :
  (execOp act.eval o).run Tryz.prog w=.ok (.value (.slice (some ⟨w.heap.size,0,none⟩) 2 2)) (w.alloc (.cells ([p,q].flatten).toArray 71)):=by
 obtain ⟨z,_,hz⟩:=info49
 obtain ⟨i71,hi,hz0,hz1,hz2⟩:=info_parts hz
 have:=exec_slicesL act o (w:=w) [(0,x),(1,y)] ho [.agg p.toArray,.agg q.toArray] (by simp [hx,hy]) (E:=71) (s:=69) Tryz.underlying37 hi hz0 hz1 (by omega) rfl (by omega) (by omega) (by
  intro v hv
  simp only [List.mem_cons,List.not_mem_nil,or_false] at hv
  rcases hv with rfl|rfl <;> simp [Value.cells,hp,hq])
 simpa [Value.cells] using this
theorem entF_out (x:Ent) (a:Option Addr) (c:Nat):((entCells x a c).drop 33).take 69=outCells x a c:=by
 rw [entCells,List.drop_append_of_le_length (by rw [x.hpre]; omega),List.drop_of_length_le (by rw [x.hpre]; omega),List.nil_append,List.take_of_length_le (by rw [outCells_length]; omega)]
theorem entF_addr (x:Ent) (a:Option Addr) (c:Nat):((entCells x a c).drop 33).take 33=adrCells x.addr:=by
 have h:(adrCells x.addr).length=33:=adrCells_length _
 rw [entCells,List.drop_append_of_le_length (by rw [x.hpre]; omega),List.drop_of_length_le (by rw [x.hpre]; omega),List.nil_append,outCells,Ent.adr,List.take_append_of_le_length (by omega),List.take_of_length_le (by omega)]
theorem c15 (W:World) (f g:Int) (hf:In64 f) (hg:In64 g):Calls Tryz.prog 14 #[.agg (stL (.slice none 0 0) (.int .i64 f) (.int .i64 g) (.slice none 0 0)).toArray] W fun e w'=>e=.returned (wideV (f+g))/\Mod N0 W w':=by
 have hc:StC (stL (.slice none 0 0) (.int .i64 f) (.int .i64 g) (.slice none 0 0)) (.slice none 0 0) f g:=⟨stL_length _ _ _ _,by kernel_rfl,by kernel_rfl,by kernel_rfl⟩
 have hE:EntsAt W (.slice none 0 0) []:=⟨none,0,rfl,by simp,fun i x h=>by simp at h⟩
 refine (coins_calls W _ _ f g hc hf hg [] hE (show 0<=1000000 by omega)).mono ?_
 rintro e w' ⟨he,hm⟩
 refine ⟨?_,hm⟩
 rw [he]
 have:coins (([]:List Ent).map (·.val))+(f+g)=f+g:=by
  show (0:Int)+(f+g)=f+g
  omega
 rw [this]
theorem m164:In64 (-1):=by unfold In64; omega
set_option maxRecDepth 100000 in
set_option maxHeartbeats 1000000 in
theorem ends_calls (w:World):Calls Tryz.prog 4 #[] w fun e w'=>e=.returned (.bool true)/\Mod N0 w w':=by
 have hA:=newB w (.cells (numsL.map (Value.int .i64)).toArray 2)
 have hm1:=(Mod.refl N0 w).alloc (.cells (numsL.map (Value.int .i64)).toArray 2)
 go_enter Tryz.func4,Tryz.ntmps4
 go_upto_region 1 with fail
 refine wp_region_lit ?_
 refine ww (exec_nums _ _ rfl) ?_
 generalize w.alloc (.cells (numsL.map (Value.int .i64)).toArray 2)=w1 at hA hm1 ⊢
 have HM1:=hh hm1
 have HN:=hh (And.intro (ltB hA) (fun (W:World) (hW:W.heap[w.heap.size]?=w1.heap[w.heap.size]?) (j:Nat) (z:Int) (hz:numsL[j]?=some z)=>load_n2 (w:=W) (p:=⟨w.heap.size,j,none⟩) ((cellB (hW.trans hA) j).trans (by rw [List.getElem?_toArray,List.getElem?_map,hz]; rfl))))
 clear hA hm1
 refine ex (v:=.slice (some ⟨w.heap.size,0,none⟩) 6 6) ?_
 go_wp2_with fail
 go_loopw [2] (fun x wx=>∃ i:Nat,i<=6/\x=.int .i64 i/\Mod N0 w1 wx) (fun x _=>6 - (intOf x).toNat)
 case atStart=>exact ⟨0,by omega,rfl,Mod.refl _ w1⟩
 case round=>
  obtain ⟨i,hi,rfl,hm⟩:=hrel
  have HM:=hh hm
  clear hm
  by_cases hlt:i<6
  ·obtain ⟨ni,hni⟩:∃ z,numsL[i]?=some z:=⟨_,List.getElem?_eq_getElem (show i<numsL.length from hlt)⟩
   have HI:=hh hni
   clear hni
   go_wp2_with fail
   generalize decide ((i:Int)<6)=bi
   go_loopw [3] (fun x wx=>∃ k:Nat,k<=6/\x=.int .i64 k/\Mod N0 w1 wx) (fun x _=>6 - (intOf x).toNat)
   case atStart=>exact ⟨0,by omega,rfl,HM.out⟩
   case round=>
    obtain ⟨k,hk,rfl,hm2⟩:=hrel
    have HM2:=hh hm2
    clear hm2
    by_cases hlt2:k<6
    ·obtain ⟨nk,hnk⟩:∃ z,numsL[k]?=some z:=⟨_,List.getElem?_eq_getElem (show k<numsL.length from hlt2)⟩
     have h64:=nums64 hnk
     have HL:=hh (fun (S:Nat->Prop) (W:World) (hS:∀ q,S q->wr.heap.size<=q) (hW:Mod S wr W)=>(show (loadVar 2 ⟨w.heap.size,i,none⟩).run Tryz.prog W=.ok (.int .i64 ni) W/\(loadVar 2 ⟨w.heap.size,k,none⟩).run Tryz.prog W=.ok (.int .i64 nk) W from by
      have hl1:=HN.out.1
      have hl2:=HM2.out.size
      have e:W.heap[w.heap.size]?=w1.heap[w.heap.size]?:=(hW.block _ (by omega) (fun q=>by have:=hS _ q; omega)).trans (HM2.out.block _ hl1 (fun q=>q))
      exact ⟨HN.out.2 W e i ni HI.out,HN.out.2 W e k nk hnk⟩))
     have H64:=hh (And.intro (nums64 HI.out) h64)
     clear hnk h64
     go_upto_region 8 with fail
     refine wp_region_held_drew (S:=fun W=>Mod N0 wr W) (by kernel_rfl) ((Mod.refl _ wr).drew) (fun hH=>?_)
     refine tq (i:=0) (oi:=⟨some 22,.move (.tmp 1),60, "law.go:51",#[],none⟩) (v:=.slice (some ⟨w.heap.size,0,none⟩) 6 6) hH ?_
     refine tq (i:=1) (oi:=⟨some 23,.move (.tmp 2),3, "law.go:51",#[],none⟩) (v:=.int .i64 i) hH ?_
     refine tq (i:=2) (oi:=⟨some 24,.indexAddr 60 (.tmp 22) (.tmp 23),0, "law.go:51",#[⟨0,.data⟩,⟨1,.data⟩],none⟩) (v:=.pointer (some ⟨w.heap.size,i,none⟩)) hH ?_
     refine tk (i:=3) (oi:=⟨some 25,.load 2 (.tmp 24),2, "law.go:51",#[⟨2,.data⟩],none⟩) (v:=.int .i64 ni) hH (fun w' hSw=>by exact exec_load_pt _ _ 2 _ rfl ⟨w.heap.size,i,none⟩ rfl (HL.out _ _ (fun _ e=>e.elim) hSw).1) ?_
     refine tq (i:=5) (oi:=⟨some 27,.move (.tmp 1),60, "law.go:51",#[],none⟩) (v:=.slice (some ⟨w.heap.size,0,none⟩) 6 6) hH ?_
     refine tq (i:=6) (oi:=⟨some 28,.move (.tmp 3),3, "law.go:51",#[],none⟩) (v:=.int .i64 k) hH ?_
     refine tq (i:=7) (oi:=⟨some 29,.indexAddr 60 (.tmp 27) (.tmp 28),0, "law.go:51",#[⟨5,.data⟩,⟨6,.data⟩],none⟩) (v:=.pointer (some ⟨w.heap.size,k,none⟩)) hH ?_
     refine tk (i:=8) (oi:=⟨some 30,.load 2 (.tmp 29),2, "law.go:51",#[⟨7,.data⟩],none⟩) (v:=.int .i64 nk) hH (fun w' hSw=>by exact exec_load_pt _ _ 2 _ rfl ⟨w.heap.size,k,none⟩ rfl (HL.out _ _ (fun _ e=>e.elim) hSw).2) ?_
     refine reg8 wr wr.drew ni nk ((Mod.refl _ wr).drew) ?_
     intro b4 b5 b6 w8 h8
     have H8:=hh h8
     clear h8
     go_upto_region 9 with fail
     refine wp_region_held_drew (S:=fun W=>Mod (fun q=>q=b4) w8 W) (by kernel_rfl) ((Mod.refl _ w8).drew) (fun hH=>?_)
     have HL9:=hh (fun (W:World) (hW:Mod (fun q=>q=b4) w8 W)=>HL.out (fun q=>q=b4) W (fun q e=>by have:=H8.out.l4; omega) (H8.out.mod.any.tr hW))
     refine tq (i:=0) (oi:=⟨some 33,.move (.tmp 1),60, "law.go:52",#[],none⟩) (v:=.slice (some ⟨w.heap.size,0,none⟩) 6 6) hH ?_
     refine tq (i:=1) (oi:=⟨some 34,.move (.tmp 3),3, "law.go:52",#[],none⟩) (v:=.int .i64 k) hH ?_
     refine tq (i:=2) (oi:=⟨some 35,.indexAddr 60 (.tmp 33) (.tmp 34),0, "law.go:52",#[⟨0,.data⟩,⟨1,.data⟩],none⟩) (v:=.pointer (some ⟨w.heap.size,k,none⟩)) hH ?_
     refine tk (i:=3) (oi:=⟨some 36,.load 2 (.tmp 35),2, "law.go:52",#[⟨2,.data⟩],none⟩) (v:=.int .i64 nk) hH (fun w' hSw=>by exact exec_load_pt _ _ 2 _ rfl ⟨w.heap.size,k,none⟩ rfl (HL9.out _ hSw).2) ?_
     refine tq (i:=5) (oi:=⟨some 38,.move (.tmp 1),60, "law.go:52",#[],none⟩) (v:=.slice (some ⟨w.heap.size,0,none⟩) 6 6) hH ?_
     refine tq (i:=6) (oi:=⟨some 39,.move (.tmp 2),3, "law.go:52",#[],none⟩) (v:=.int .i64 i) hH ?_
     refine tq (i:=7) (oi:=⟨some 40,.indexAddr 60 (.tmp 38) (.tmp 39),0, "law.go:52",#[⟨5,.data⟩,⟨6,.data⟩],none⟩) (v:=.pointer (some ⟨w.heap.size,i,none⟩)) hH ?_
     refine tk (i:=8) (oi:=⟨some 41,.load 2 (.tmp 40),2, "law.go:52",#[⟨7,.data⟩],none⟩) (v:=.int .i64 ni) hH (fun w' hSw=>by exact exec_load_pt _ _ 2 _ rfl ⟨w.heap.size,i,none⟩ rfl (HL9.out _ hSw).1) ?_
     refine tk (i:=4) (oi:=⟨some 37,.build 76 #[(1,.const (.string {data:=#[120]})),(2,.tmp 36)],76, "law.go:52",#[⟨3,.data⟩],none⟩) (v:=.agg (asCells (nmX 120) nk).toArray) hH (fun w' hSw=>by exact exec_as _ _ rfl 120 nk rfl rfl) ?_
     refine tk (i:=9) (oi:=⟨some 42,.build 76 #[(1,.const (.string {data:=#[120]})),(2,.tmp 41)],76, "law.go:52",#[⟨8,.data⟩],none⟩) (v:=.agg (asCells (nmX 120) ni).toArray) hH (fun w' hSw=>by exact exec_as _ _ rfl 120 ni rfl rfl) ?_
     refine tr (rs:=[10]) ?_
     refine AllReadyH.cons (o:=⟨some 43,.buildSlice 63 2 #[(0,.tmp 37),(1,.tmp 42)],63, "law.go:52",#[⟨4,.data⟩,⟨9,.data⟩],none⟩) rfl (fun K hK=>?_) AllReadyH.nil
     refine step_execW rfl (exec_as2 _ _ rfl 120 120 nk ni rfl rfl) ?_
     have hA:=newB w8.drew (.cells ([asCells (nmX 120) nk,asCells (nmX 120) ni].flatten).toArray 76)
     have hm9:=((Mod.refl N0 w8).drew).alloc (.cells ([asCells (nmX 120) nk,asCells (nmX 120) ni].flatten).toArray 76)
     refine hK.out _ _ hm9.any (fun hH=>?_)
     clear hK K
     (try simp only [Act.put,ja,jb,jc])
     clear hH
     have hH:(fun W=>Mod (fun q=>q=b4) w8 W) (w8.drew.alloc (.cells ([asCells (nmX 120) nk,asCells (nmX 120) ni].flatten).toArray 76)):=hm9.any
     generalize w8.drew.alloc (.cells ([asCells (nmX 120) nk,asCells (nmX 120) ni].flatten).toArray 76)=w9 at hA hm9 hH ⊢
     have hlw:w8.heap.size<=w8.drew.heap.size:=Nat.le_refl _
     generalize w8.drew.heap.size=la at hA hlw ⊢
     obtain ⟨w10,hst,hmb,h10⟩:=(H8.out.keep hm9).set4 [(nmX 120,nk),(nmX 120,ni)] la rfl
     have HA:=hh ((hmb.block la (ltB hA) (fun e=>by have:=ltB H8.out.c4; omega)).trans hA)
     have H10:=hh h10
     have HS:=hh (And.intro hst (show Mod (fun q=>q=b4) w8 w10 from (hm9.any).tr hmb))
     clear hA hm9 hst hmb h10 hlw
     refine tq (i:=11) (oi:=⟨some 44,.fieldAddr 73 (.tmp 4) 1,0, "law.go:52",#[⟨0,.phase⟩,⟨1,.phase⟩,⟨2,.phase⟩,⟨3,.phase⟩,⟨4,.phase⟩,⟨5,.phase⟩,⟨6,.phase⟩,⟨7,.phase⟩,⟨8,.phase⟩,⟨9,.phase⟩,⟨10,.phase⟩],none⟩) (v:=.pointer (some ⟨b4,33,none⟩)) hH ?_
     refine tq (i:=12) (oi:=⟨some 45,.fieldAddr 71 (.tmp 44) 1,0, "law.go:52",#[⟨11,.data⟩,⟨0,.phase⟩,⟨1,.phase⟩,⟨2,.phase⟩,⟨3,.phase⟩,⟨4,.phase⟩,⟨5,.phase⟩,⟨6,.phase⟩,⟨7,.phase⟩,⟨8,.phase⟩,⟨9,.phase⟩,⟨10,.phase⟩],none⟩) (v:=.pointer (some ⟨b4,66,none⟩)) hH ?_
     refine tq (i:=13) (oi:=⟨some 46,.fieldAddr 65 (.tmp 45) 1,0, "law.go:52",#[⟨12,.data⟩,⟨0,.phase⟩,⟨1,.phase⟩,⟨2,.phase⟩,⟨3,.phase⟩,⟨4,.phase⟩,⟨5,.phase⟩,⟨6,.phase⟩,⟨7,.phase⟩,⟨8,.phase⟩,⟨9,.phase⟩,⟨10,.phase⟩],none⟩) (v:=.pointer (some ⟨b4,67,none⟩)) hH ?_
     refine tr (rs:=[14]) ?_
     refine AllReadyH.cons (o:=⟨none,.store 63 (.tmp 46) (.tmp 43),0, "law.go:52",#[⟨13,.data⟩,⟨10,.data⟩,⟨0,.phase⟩,⟨1,.phase⟩,⟨2,.phase⟩,⟨3,.phase⟩,⟨4,.phase⟩,⟨5,.phase⟩,⟨6,.phase⟩,⟨7,.phase⟩,⟨8,.phase⟩,⟨9,.phase⟩,⟨10,.phase⟩],none⟩) rfl (fun K hK=>?_) AllReadyH.nil
     refine step_execS rfl (exec_store_pt _ _ rfl rfl rfl HS.out.1) ?_
     refine hK.out _ _ HS.out.2 (fun hH=>?_)
     clear hK K
     (try simp only [Act.put])
     refine wpAnyH_done (by kernel_rfl) ?_ _
     clear HS HL9 H8 hH
     go_upto_region 10 with fail
     refine wp_region_lit ?_
     refine wx (exec_buildL _ _ [(1,.const (.string ⟨#[120]⟩)),(2,.const (.int .i64 5))] rfl [(1,.string ⟨[120].toArray⟩),(2,.int .i64 5)] rfl _ (as_built 120 5)) ?_
     refine ex (v:=.slice (some ⟨w.heap.size,0,none⟩) 6 6) ?_
     refine ex (v:=.int .i64 i) ?_
     refine ex (v:=.pointer (some ⟨w.heap.size,i,none⟩)) ?_
     refine wx (exec_load_pt _ _ 2 _ rfl ⟨w.heap.size,i,none⟩ rfl (HL.out _ _ (fun _ e=>e.elim) H10.out.mod).1) ?_
     refine wx (exec_as _ _ rfl 97 ni rfl rfl) ?_
     refine ww (exec_as2 _ _ rfl 120 97 5 ni rfl rfl) ?_
     have hA:=newB w10 (.cells ([asCells (nmX 120) 5,asCells (nmX 97) ni].flatten).toArray 76)
     have hm9:=(Mod.refl N0 w10).alloc (.cells ([asCells (nmX 120) 5,asCells (nmX 97) ni].flatten).toArray 76)
     generalize w10.alloc (.cells ([asCells (nmX 120) 5,asCells (nmX 97) ni].flatten).toArray 76)=w11 at hA hm9 ⊢
     have hlw:w10.heap.size<=w10.heap.size:=Nat.le_refl _
     generalize hlb:w10.heap.size=lb at hA ⊢
     obtain ⟨w12,hst,hmb,h12⟩:=(H10.out.keep hm9).set5 [(nmX 120,5),(nmX 97,ni)] lb rfl
     have HBB:=hh ((hmb.block lb (ltB hA) (fun e=>by have:=ltB H10.out.c5; omega)).trans hA)
     have HAA:=hh ((hmb.block la (ltB ((hm9.block la (ltB HA.out) (fun q=>q)).trans HA.out)) (fun e=>by
      have h1:=H10.out.c5
      rw [← e,HA.out] at h1
      cases h1)).trans ((hm9.block la (ltB HA.out) (fun q=>q)).trans HA.out))
     have H12:=hh h12
     have HS:=hh hst
     clear hA hm9 hst hmb h12 hlw hlb H10 HA
     refine ex (v:=.pointer (some ⟨b5,33,none⟩)) ?_
     refine ex (v:=.pointer (some ⟨b5,66,none⟩)) ?_
     refine ex (v:=.pointer (some ⟨b5,67,none⟩)) ?_
     refine wpList_execS rfl (exec_store_pt _ _ rfl rfl rfl HS.out) ?_
     (try simp only [Act.put])
     clear HS
     go_upto_region 11 with fail
     go_cut [7] from 57 to 74 (fun p wx=>∃ b7 le lm:Nat,p=.pointer (some ⟨b7,0,none⟩)/\Mod N0 w12 wx/\W4 wx ni nk 9223372036854775807 la lb le lm/\wx.heap[b7]?=some (.cells (stL (.slice (some ⟨le,0,none⟩) 4 4) (.int .i64 nk) (.int .i64 ni) (.slice (some ⟨lm,0,none⟩) 1 1)).toArray 36 (0,0)))
     case first=>
      obtain ⟨z6,hz6,_,hz6s⟩:=zi36
      have HZ:=hh (And.intro hz6 hz6s)
      clear hz6 hz6s
      refine wp_region_held_drew (S:=fun W=>Mod N0 w12 W) (by kernel_rfl) ((Mod.refl _ w12).drew) (fun hH=>?_)
      refine tk (i:=0) (oi:=⟨some 57,.load 73 (.tmp 4),73, "law.go:54",#[],none⟩) (v:=.agg (entCells (entA 1 ni [(nmX 120,nk),(nmX 120,ni)]) (some ⟨la,0,none⟩) 2).toArray) hH (fun w' hSw=>by exact exec_load_pt _ _ 73 _ rfl ⟨b4,0,none⟩ rfl (load51_box (entCells_length _ _ _) ((hSw.block _ (ltB H12.out.c4) (fun q=>q)).trans H12.out.c4))) ?_
      refine tk (i:=1) (oi:=⟨some 58,.load 73 (.tmp 5),73, "law.go:54",#[],none⟩) (v:=.agg (entCells (entA 2 nk [(nmX 120,5),(nmX 97,ni)]) (some ⟨lb,0,none⟩) 2).toArray) hH (fun w' hSw=>by exact exec_load_pt _ _ 73 _ rfl ⟨b5,0,none⟩ rfl (load51_box (entCells_length _ _ _) ((hSw.block _ (ltB H12.out.c5) (fun q=>q)).trans H12.out.c5))) ?_
      refine tk (i:=2) (oi:=⟨some 59,.load 73 (.tmp 6),73, "law.go:54",#[],none⟩) (v:=.agg (entCells (entE 1 9223372036854775807) none 0).toArray) hH (fun w' hSw=>by exact exec_load_pt _ _ 73 _ rfl ⟨b6,0,none⟩ rfl (load51_box (entCells_length _ _ _) ((hSw.block _ (ltB H12.out.c6) (fun q=>q)).trans H12.out.c6))) ?_
      refine tk (i:=3) (oi:=⟨some 60,.load 73 (.tmp 6),73, "law.go:54",#[],none⟩) (v:=.agg (entCells (entE 1 9223372036854775807) none 0).toArray) hH (fun w' hSw=>by exact exec_load_pt _ _ 73 _ rfl ⟨b6,0,none⟩ rfl (load51_box (entCells_length _ _ _) ((hSw.block _ (ltB H12.out.c6) (fun q=>q)).trans H12.out.c6))) ?_
      refine tq (i:=5) (oi:=⟨some 62,.move (.tmp 1),60, "law.go:54",#[],none⟩) (v:=.slice (some ⟨w.heap.size,0,none⟩) 6 6) hH ?_
      refine tq (i:=6) (oi:=⟨some 63,.move (.tmp 3),3, "law.go:54",#[],none⟩) (v:=.int .i64 k) hH ?_
      refine tq (i:=7) (oi:=⟨some 64,.indexAddr 60 (.tmp 62) (.tmp 63),0, "law.go:54",#[⟨5,.data⟩,⟨6,.data⟩],none⟩) (v:=.pointer (some ⟨w.heap.size,k,none⟩)) hH ?_
      refine tk (i:=8) (oi:=⟨some 65,.load 2 (.tmp 64),2, "law.go:54",#[⟨7,.data⟩],none⟩) (v:=.int .i64 nk) hH (fun w' hSw=>by exact exec_load_pt _ _ 2 _ rfl ⟨w.heap.size,k,none⟩ rfl (HL.out _ _ (fun _ e=>e.elim) (H12.out.mod.tr hSw)).2) ?_
      refine tq (i:=9) (oi:=⟨some 66,.move (.tmp 1),60, "law.go:54",#[],none⟩) (v:=.slice (some ⟨w.heap.size,0,none⟩) 6 6) hH ?_
      refine tq (i:=10) (oi:=⟨some 67,.move (.tmp 2),3, "law.go:54",#[],none⟩) (v:=.int .i64 i) hH ?_
      refine tq (i:=11) (oi:=⟨some 68,.indexAddr 60 (.tmp 66) (.tmp 67),0, "law.go:54",#[⟨9,.data⟩,⟨10,.data⟩],none⟩) (v:=.pointer (some ⟨w.heap.size,i,none⟩)) hH ?_
      refine tk (i:=12) (oi:=⟨some 69,.load 2 (.tmp 68),2, "law.go:54",#[⟨11,.data⟩],none⟩) (v:=.int .i64 ni) hH (fun w' hSw=>by exact exec_load_pt _ _ 2 _ rfl ⟨w.heap.size,i,none⟩ rfl (HL.out _ _ (fun _ e=>e.elim) (H12.out.mod.tr hSw)).1) ?_
      refine tk (i:=13) (oi:=⟨some 70,.build 48 #[(1,.const (.int .u64 5))],48, "law.go:54",#[],none⟩) (v:=wideV 5) hH (fun w' hSw=>by exact exec_buildL _ _ [(1,.const (.int .u64 5))] rfl [(1,.int .u64 5)] rfl _ (show Tryz.prog.built 48 [(1,.int .u64 5)]=some #[.int .i64 (hiW 5),.int .u64 (loW 5)] by kernel_rfl)) ?_
      refine tk (i:=14) (oi:=⟨some 71,.build 78 #[(1,.const (.string {data:=#[120]})),(2,.tmp 70)],78, "law.go:54",#[⟨13,.data⟩],none⟩) (v:=.agg (totCells (nmX 120,5)).toArray) hH (fun w' hSw=>by exact exec_buildL _ _ [(1,.const (.string ⟨#[120]⟩)),(2,.tmp 70)] rfl [(1,.string ⟨#[120]⟩),(2,wideV 5)] rfl _ (show Tryz.prog.built 78 [(1,.string ⟨#[120]⟩),(2,wideV 5)]=some (totCells (nmX 120,5)).toArray by kernel_rfl)) ?_
      have HQ0:=hh (show R11 w12 w12.drew ([(entCells (entA 1 ni [(nmX 120,nk),(nmX 120,ni)]) (some ⟨la,0,none⟩) 2),(entCells (entA 2 nk [(nmX 120,5),(nmX 97,ni)]) (some ⟨lb,0,none⟩) 2),(entCells (entE 1 9223372036854775807) none 0),(entCells (entE 1 9223372036854775807) none 0)].flatten) (totCells (nmX 120,5)) none none none from ⟨(Mod.refl _ w12).drew,(fun _ e=>by cases e),(fun _ e=>by cases e),(fun _ e=>by cases e)⟩)
      refine tr (rs:=[4,15,17]) ?_
      refine AllReadyH.cons (o:=⟨some 61,.buildSlice 28 4 #[(0,.tmp 57),(1,.tmp 58),(2,.tmp 59),(3,.tmp 60)],28, "law.go:54",#[⟨0,.data⟩,⟨1,.data⟩,⟨2,.data⟩,⟨3,.data⟩],none⟩) rfl (fun K hK=>?_) (AllReadyH.cons (o:=⟨some 72,.buildSlice 33 1 #[(0,.tmp 71)],33, "law.go:54",#[⟨14,.data⟩],none⟩) rfl (fun K hK=>?_) (AllReadyH.cons (o:=⟨some 7,.alloc 36,0, "law.go:54",#[],none⟩) rfl (fun K hK=>?_) AllReadyH.nil))
      ·skip
       have h3:=HQ0.out.ae
       refine step_execW rfl (exec_ents4 _ _ rfl _ _ _ _ (entCells_length _ _ _) (entCells_length _ _ _) (entCells_length _ _ _) (entCells_length _ _ _) rfl rfl rfl rfl) ?_
       refine hK.out _ _ h3.mod (fun hH=>?_)
       clear hK K
       (try simp only [Act.put,ja,jb,jc])
       clear hH
       have hH:(fun W=>Mod N0 w12 W) (w12.drew.alloc (.cells ([(entCells (entA 1 ni [(nmX 120,nk),(nmX 120,ni)]) (some ⟨la,0,none⟩) 2),(entCells (entA 2 nk [(nmX 120,5),(nmX 97,ni)]) (some ⟨lb,0,none⟩) 2),(entCells (entE 1 9223372036854775807) none 0),(entCells (entE 1 9223372036854775807) none 0)].flatten).toArray 73)):=h3.mod
       generalize w12.drew.alloc (.cells ([(entCells (entA 1 ni [(nmX 120,nk),(nmX 120,ni)]) (some ⟨la,0,none⟩) 2),(entCells (entA 2 nk [(nmX 120,5),(nmX 97,ni)]) (some ⟨lb,0,none⟩) 2),(entCells (entE 1 9223372036854775807) none 0),(entCells (entE 1 9223372036854775807) none 0)].flatten).toArray 73)=w1x at h3 hH ⊢
       generalize w12.drew.heap.size=g1 at h3 ⊢
       have HQ1:=hh h3
       clear h3
       refine tr (rs:=[15,17]) ?_
       refine AllReadyH.cons (o:=⟨some 72,.buildSlice 33 1 #[(0,.tmp 71)],33, "law.go:54",#[⟨14,.data⟩],none⟩) rfl (fun K hK=>?_) (AllReadyH.cons (o:=⟨some 7,.alloc 36,0, "law.go:54",#[],none⟩) rfl (fun K hK=>?_) AllReadyH.nil)
       ·skip
        have h3:=HQ1.out.am
        refine step_execW rfl (exec_slice1 _ _ rfl (nmX 120,5) rfl) ?_
        refine hK.out _ _ h3.mod (fun hH=>?_)
        clear hK K
        (try simp only [Act.put,ja,jb,jc])
        clear hH
        have hH:(fun W=>Mod N0 w12 W) (w1x.alloc (.cells (totCells (nmX 120,5)).toArray 78)):=h3.mod
        generalize w1x.alloc (.cells (totCells (nmX 120,5)).toArray 78)=w2x at h3 hH ⊢
        generalize w1x.heap.size=g2 at h3 ⊢
        have HQ2:=hh h3
        clear h3
        refine tk (i:=16) (oi:=⟨some 73,.build 36 #[(2,.tmp 61),(7,.tmp 65),(8,.tmp 69),(9,.tmp 72)],36, "law.go:54",#[⟨4,.data⟩,⟨8,.data⟩,⟨12,.data⟩,⟨15,.data⟩],none⟩) (v:=.agg (stL (.slice (some ⟨g1,0,none⟩) 4 4) (.int .i64 nk) (.int .i64 ni) (.slice (some ⟨g2,0,none⟩) 1 1)).toArray) hH (fun w' hSw=>by exact exec_buildL _ _ [(2,.tmp 61),(7,.tmp 65),(8,.tmp 69),(9,.tmp 72)] rfl [(2,.slice (some ⟨g1,0,none⟩) 4 4),(7,.int .i64 nk),(8,.int .i64 ni),(9,.slice (some ⟨g2,0,none⟩) 1 1)] rfl _ (st_built _ _ _ _ _ _ _ _)) ?_
        refine tr (rs:=[17]) ?_
        refine AllReadyH.cons (o:=⟨some 7,.alloc 36,0, "law.go:54",#[],none⟩) rfl (fun K hK=>?_) AllReadyH.nil
        have h3:=HQ2.out.a7 HZ.out.2
        refine step_execW rfl (exec_alloc _ _ 36 z6 rfl HZ.out.1) ?_
        refine hK.out _ _ h3.mod (fun hH=>?_)
        clear hK K
        (try simp only [Act.put,ja,jb,jc])
        clear hH
        have hH:(fun W=>Mod N0 w12 W) (w2x.alloc (.cells z6 36)):=h3.mod
        generalize w2x.alloc (.cells z6 36)=w3x at h3 hH ⊢
        generalize w2x.heap.size=g3 at h3 ⊢
        have HQ3:=hh h3
        clear h3
        obtain ⟨v9,hst,hm9,he9,hl9,h79⟩:=HQ3.out.put (stL_length _ _ _ _) (stL_one (a:=.slice (some ⟨g1,0,none⟩) 4 4) (b:=.int .i64 nk) (c:=.int .i64 ni) (d:=.slice (some ⟨g2,0,none⟩) 1 1) rfl rfl rfl rfl)
        refine tr (rs:=[18]) ?_
        refine AllReadyH.cons (o:=⟨none,.store 36 (.tmp 7) (.tmp 73),0, "law.go:54",#[⟨17,.data⟩,⟨16,.data⟩,⟨0,.phase⟩,⟨1,.phase⟩,⟨2,.phase⟩,⟨3,.phase⟩,⟨4,.phase⟩,⟨5,.phase⟩,⟨6,.phase⟩,⟨7,.phase⟩,⟨8,.phase⟩,⟨9,.phase⟩,⟨10,.phase⟩,⟨11,.phase⟩,⟨12,.phase⟩,⟨13,.phase⟩,⟨14,.phase⟩,⟨15,.phase⟩,⟨16,.phase⟩,⟨17,.phase⟩],none⟩) rfl (fun K hK=>?_) AllReadyH.nil
        refine step_execS rfl (exec_store_pt _ _ rfl rfl rfl hst) ?_
        refine hK.out _ _ hm9 (fun hH=>?_)
        clear hK K
        (try simp only [Act.put])
        refine wpAnyH_done (by kernel_rfl) ?_ _
        have HQ9:=hh (And.intro hm9 (And.intro he9 (And.intro hl9 h79)))
        clear hst hm9 he9 hl9 h79
        go_wp2_with fail
        go_meet
        case rel=>exact ⟨_,_,_,rfl,HQ9.out.1,⟨(HQ9.out.1.block _ (ltB HAA.out) (fun q=>q)).trans HAA.out,(HQ9.out.1.block _ (ltB HBB.out) (fun q=>q)).trans HBB.out,HQ9.out.2.1,HQ9.out.2.2.1⟩,HQ9.out.2.2.2⟩
       ·skip
        have h3:=HQ1.out.a7 HZ.out.2
        refine step_execW rfl (exec_alloc _ _ 36 z6 rfl HZ.out.1) ?_
        refine hK.out _ _ h3.mod (fun hH=>?_)
        clear hK K
        (try simp only [Act.put,ja,jb,jc])
        clear hH
        have hH:(fun W=>Mod N0 w12 W) (w1x.alloc (.cells z6 36)):=h3.mod
        generalize w1x.alloc (.cells z6 36)=w4x at h3 hH ⊢
        generalize w1x.heap.size=g4 at h3 ⊢
        have HQ4:=hh h3
        clear h3
        refine tr (rs:=[15]) ?_
        refine AllReadyH.cons (o:=⟨some 72,.buildSlice 33 1 #[(0,.tmp 71)],33, "law.go:54",#[⟨14,.data⟩],none⟩) rfl (fun K hK=>?_) AllReadyH.nil
        have h3:=HQ4.out.am
        refine step_execW rfl (exec_slice1 _ _ rfl (nmX 120,5) rfl) ?_
        refine hK.out _ _ h3.mod (fun hH=>?_)
        clear hK K
        (try simp only [Act.put,ja,jb,jc])
        clear hH
        have hH:(fun W=>Mod N0 w12 W) (w4x.alloc (.cells (totCells (nmX 120,5)).toArray 78)):=h3.mod
        generalize w4x.alloc (.cells (totCells (nmX 120,5)).toArray 78)=w5x at h3 hH ⊢
        generalize w4x.heap.size=g5 at h3 ⊢
        have HQ5:=hh h3
        clear h3
        refine tk (i:=16) (oi:=⟨some 73,.build 36 #[(2,.tmp 61),(7,.tmp 65),(8,.tmp 69),(9,.tmp 72)],36, "law.go:54",#[⟨4,.data⟩,⟨8,.data⟩,⟨12,.data⟩,⟨15,.data⟩],none⟩) (v:=.agg (stL (.slice (some ⟨g1,0,none⟩) 4 4) (.int .i64 nk) (.int .i64 ni) (.slice (some ⟨g5,0,none⟩) 1 1)).toArray) hH (fun w' hSw=>by exact exec_buildL _ _ [(2,.tmp 61),(7,.tmp 65),(8,.tmp 69),(9,.tmp 72)] rfl [(2,.slice (some ⟨g1,0,none⟩) 4 4),(7,.int .i64 nk),(8,.int .i64 ni),(9,.slice (some ⟨g5,0,none⟩) 1 1)] rfl _ (st_built _ _ _ _ _ _ _ _)) ?_
        obtain ⟨v9,hst,hm9,he9,hl9,h79⟩:=HQ5.out.put (stL_length _ _ _ _) (stL_one (a:=.slice (some ⟨g1,0,none⟩) 4 4) (b:=.int .i64 nk) (c:=.int .i64 ni) (d:=.slice (some ⟨g5,0,none⟩) 1 1) rfl rfl rfl rfl)
        refine tr (rs:=[18]) ?_
        refine AllReadyH.cons (o:=⟨none,.store 36 (.tmp 7) (.tmp 73),0, "law.go:54",#[⟨17,.data⟩,⟨16,.data⟩,⟨0,.phase⟩,⟨1,.phase⟩,⟨2,.phase⟩,⟨3,.phase⟩,⟨4,.phase⟩,⟨5,.phase⟩,⟨6,.phase⟩,⟨7,.phase⟩,⟨8,.phase⟩,⟨9,.phase⟩,⟨10,.phase⟩,⟨11,.phase⟩,⟨12,.phase⟩,⟨13,.phase⟩,⟨14,.phase⟩,⟨15,.phase⟩,⟨16,.phase⟩,⟨17,.phase⟩],none⟩) rfl (fun K hK=>?_) AllReadyH.nil
        refine step_execS rfl (exec_store_pt _ _ rfl rfl rfl hst) ?_
        refine hK.out _ _ hm9 (fun hH=>?_)
        clear hK K
        (try simp only [Act.put])
        refine wpAnyH_done (by kernel_rfl) ?_ _
        have HQ9:=hh (And.intro hm9 (And.intro he9 (And.intro hl9 h79)))
        clear hst hm9 he9 hl9 h79
        go_wp2_with fail
        go_meet
        case rel=>exact ⟨_,_,_,rfl,HQ9.out.1,⟨(HQ9.out.1.block _ (ltB HAA.out) (fun q=>q)).trans HAA.out,(HQ9.out.1.block _ (ltB HBB.out) (fun q=>q)).trans HBB.out,HQ9.out.2.1,HQ9.out.2.2.1⟩,HQ9.out.2.2.2⟩
      ·skip
       have h3:=HQ0.out.am
       refine step_execW rfl (exec_slice1 _ _ rfl (nmX 120,5) rfl) ?_
       refine hK.out _ _ h3.mod (fun hH=>?_)
       clear hK K
       (try simp only [Act.put,ja,jb,jc])
       clear hH
       have hH:(fun W=>Mod N0 w12 W) (w12.drew.alloc (.cells (totCells (nmX 120,5)).toArray 78)):=h3.mod
       generalize w12.drew.alloc (.cells (totCells (nmX 120,5)).toArray 78)=w6x at h3 hH ⊢
       generalize w12.drew.heap.size=g6 at h3 ⊢
       have HQ6:=hh h3
       clear h3
       refine tr (rs:=[4,17]) ?_
       refine AllReadyH.cons (o:=⟨some 61,.buildSlice 28 4 #[(0,.tmp 57),(1,.tmp 58),(2,.tmp 59),(3,.tmp 60)],28, "law.go:54",#[⟨0,.data⟩,⟨1,.data⟩,⟨2,.data⟩,⟨3,.data⟩],none⟩) rfl (fun K hK=>?_) (AllReadyH.cons (o:=⟨some 7,.alloc 36,0, "law.go:54",#[],none⟩) rfl (fun K hK=>?_) AllReadyH.nil)
       ·skip
        have h3:=HQ6.out.ae
        refine step_execW rfl (exec_ents4 _ _ rfl _ _ _ _ (entCells_length _ _ _) (entCells_length _ _ _) (entCells_length _ _ _) (entCells_length _ _ _) rfl rfl rfl rfl) ?_
        refine hK.out _ _ h3.mod (fun hH=>?_)
        clear hK K
        (try simp only [Act.put,ja,jb,jc])
        clear hH
        have hH:(fun W=>Mod N0 w12 W) (w6x.alloc (.cells ([(entCells (entA 1 ni [(nmX 120,nk),(nmX 120,ni)]) (some ⟨la,0,none⟩) 2),(entCells (entA 2 nk [(nmX 120,5),(nmX 97,ni)]) (some ⟨lb,0,none⟩) 2),(entCells (entE 1 9223372036854775807) none 0),(entCells (entE 1 9223372036854775807) none 0)].flatten).toArray 73)):=h3.mod
        generalize w6x.alloc (.cells ([(entCells (entA 1 ni [(nmX 120,nk),(nmX 120,ni)]) (some ⟨la,0,none⟩) 2),(entCells (entA 2 nk [(nmX 120,5),(nmX 97,ni)]) (some ⟨lb,0,none⟩) 2),(entCells (entE 1 9223372036854775807) none 0),(entCells (entE 1 9223372036854775807) none 0)].flatten).toArray 73)=w7x at h3 hH ⊢
        generalize w6x.heap.size=g7 at h3 ⊢
        have HQ7:=hh h3
        clear h3
        refine tk (i:=16) (oi:=⟨some 73,.build 36 #[(2,.tmp 61),(7,.tmp 65),(8,.tmp 69),(9,.tmp 72)],36, "law.go:54",#[⟨4,.data⟩,⟨8,.data⟩,⟨12,.data⟩,⟨15,.data⟩],none⟩) (v:=.agg (stL (.slice (some ⟨g7,0,none⟩) 4 4) (.int .i64 nk) (.int .i64 ni) (.slice (some ⟨g6,0,none⟩) 1 1)).toArray) hH (fun w' hSw=>by exact exec_buildL _ _ [(2,.tmp 61),(7,.tmp 65),(8,.tmp 69),(9,.tmp 72)] rfl [(2,.slice (some ⟨g7,0,none⟩) 4 4),(7,.int .i64 nk),(8,.int .i64 ni),(9,.slice (some ⟨g6,0,none⟩) 1 1)] rfl _ (st_built _ _ _ _ _ _ _ _)) ?_
        refine tr (rs:=[17]) ?_
        refine AllReadyH.cons (o:=⟨some 7,.alloc 36,0, "law.go:54",#[],none⟩) rfl (fun K hK=>?_) AllReadyH.nil
        have h3:=HQ7.out.a7 HZ.out.2
        refine step_execW rfl (exec_alloc _ _ 36 z6 rfl HZ.out.1) ?_
        refine hK.out _ _ h3.mod (fun hH=>?_)
        clear hK K
        (try simp only [Act.put,ja,jb,jc])
        clear hH
        have hH:(fun W=>Mod N0 w12 W) (w7x.alloc (.cells z6 36)):=h3.mod
        generalize w7x.alloc (.cells z6 36)=w8x at h3 hH ⊢
        generalize w7x.heap.size=g8 at h3 ⊢
        have HQ8:=hh h3
        clear h3
        obtain ⟨v9,hst,hm9,he9,hl9,h79⟩:=HQ8.out.put (stL_length _ _ _ _) (stL_one (a:=.slice (some ⟨g7,0,none⟩) 4 4) (b:=.int .i64 nk) (c:=.int .i64 ni) (d:=.slice (some ⟨g6,0,none⟩) 1 1) rfl rfl rfl rfl)
        refine tr (rs:=[18]) ?_
        refine AllReadyH.cons (o:=⟨none,.store 36 (.tmp 7) (.tmp 73),0, "law.go:54",#[⟨17,.data⟩,⟨16,.data⟩,⟨0,.phase⟩,⟨1,.phase⟩,⟨2,.phase⟩,⟨3,.phase⟩,⟨4,.phase⟩,⟨5,.phase⟩,⟨6,.phase⟩,⟨7,.phase⟩,⟨8,.phase⟩,⟨9,.phase⟩,⟨10,.phase⟩,⟨11,.phase⟩,⟨12,.phase⟩,⟨13,.phase⟩,⟨14,.phase⟩,⟨15,.phase⟩,⟨16,.phase⟩,⟨17,.phase⟩],none⟩) rfl (fun K hK=>?_) AllReadyH.nil
        refine step_execS rfl (exec_store_pt _ _ rfl rfl rfl hst) ?_
        refine hK.out _ _ hm9 (fun hH=>?_)
        clear hK K
        (try simp only [Act.put])
        refine wpAnyH_done (by kernel_rfl) ?_ _
        have HQ9:=hh (And.intro hm9 (And.intro he9 (And.intro hl9 h79)))
        clear hst hm9 he9 hl9 h79
        go_wp2_with fail
        go_meet
        case rel=>exact ⟨_,_,_,rfl,HQ9.out.1,⟨(HQ9.out.1.block _ (ltB HAA.out) (fun q=>q)).trans HAA.out,(HQ9.out.1.block _ (ltB HBB.out) (fun q=>q)).trans HBB.out,HQ9.out.2.1,HQ9.out.2.2.1⟩,HQ9.out.2.2.2⟩
       ·skip
        have h3:=HQ6.out.a7 HZ.out.2
        refine step_execW rfl (exec_alloc _ _ 36 z6 rfl HZ.out.1) ?_
        refine hK.out _ _ h3.mod (fun hH=>?_)
        clear hK K
        (try simp only [Act.put,ja,jb,jc])
        clear hH
        have hH:(fun W=>Mod N0 w12 W) (w6x.alloc (.cells z6 36)):=h3.mod
        generalize w6x.alloc (.cells z6 36)=w9x at h3 hH ⊢
        generalize w6x.heap.size=g9 at h3 ⊢
        have HQ9:=hh h3
        clear h3
        refine tr (rs:=[4]) ?_
        refine AllReadyH.cons (o:=⟨some 61,.buildSlice 28 4 #[(0,.tmp 57),(1,.tmp 58),(2,.tmp 59),(3,.tmp 60)],28, "law.go:54",#[⟨0,.data⟩,⟨1,.data⟩,⟨2,.data⟩,⟨3,.data⟩],none⟩) rfl (fun K hK=>?_) AllReadyH.nil
        have h3:=HQ9.out.ae
        refine step_execW rfl (exec_ents4 _ _ rfl _ _ _ _ (entCells_length _ _ _) (entCells_length _ _ _) (entCells_length _ _ _) (entCells_length _ _ _) rfl rfl rfl rfl) ?_
        refine hK.out _ _ h3.mod (fun hH=>?_)
        clear hK K
        (try simp only [Act.put,ja,jb,jc])
        clear hH
        have hH:(fun W=>Mod N0 w12 W) (w9x.alloc (.cells ([(entCells (entA 1 ni [(nmX 120,nk),(nmX 120,ni)]) (some ⟨la,0,none⟩) 2),(entCells (entA 2 nk [(nmX 120,5),(nmX 97,ni)]) (some ⟨lb,0,none⟩) 2),(entCells (entE 1 9223372036854775807) none 0),(entCells (entE 1 9223372036854775807) none 0)].flatten).toArray 73)):=h3.mod
        generalize w9x.alloc (.cells ([(entCells (entA 1 ni [(nmX 120,nk),(nmX 120,ni)]) (some ⟨la,0,none⟩) 2),(entCells (entA 2 nk [(nmX 120,5),(nmX 97,ni)]) (some ⟨lb,0,none⟩) 2),(entCells (entE 1 9223372036854775807) none 0),(entCells (entE 1 9223372036854775807) none 0)].flatten).toArray 73)=w10x at h3 hH ⊢
        generalize w9x.heap.size=g10 at h3 ⊢
        have HQ10:=hh h3
        clear h3
        refine tk (i:=16) (oi:=⟨some 73,.build 36 #[(2,.tmp 61),(7,.tmp 65),(8,.tmp 69),(9,.tmp 72)],36, "law.go:54",#[⟨4,.data⟩,⟨8,.data⟩,⟨12,.data⟩,⟨15,.data⟩],none⟩) (v:=.agg (stL (.slice (some ⟨g10,0,none⟩) 4 4) (.int .i64 nk) (.int .i64 ni) (.slice (some ⟨g6,0,none⟩) 1 1)).toArray) hH (fun w' hSw=>by exact exec_buildL _ _ [(2,.tmp 61),(7,.tmp 65),(8,.tmp 69),(9,.tmp 72)] rfl [(2,.slice (some ⟨g10,0,none⟩) 4 4),(7,.int .i64 nk),(8,.int .i64 ni),(9,.slice (some ⟨g6,0,none⟩) 1 1)] rfl _ (st_built _ _ _ _ _ _ _ _)) ?_
        obtain ⟨v9,hst,hm9,he9,hl9,h79⟩:=HQ10.out.put (stL_length _ _ _ _) (stL_one (a:=.slice (some ⟨g10,0,none⟩) 4 4) (b:=.int .i64 nk) (c:=.int .i64 ni) (d:=.slice (some ⟨g6,0,none⟩) 1 1) rfl rfl rfl rfl)
        refine tr (rs:=[18]) ?_
        refine AllReadyH.cons (o:=⟨none,.store 36 (.tmp 7) (.tmp 73),0, "law.go:54",#[⟨17,.data⟩,⟨16,.data⟩,⟨0,.phase⟩,⟨1,.phase⟩,⟨2,.phase⟩,⟨3,.phase⟩,⟨4,.phase⟩,⟨5,.phase⟩,⟨6,.phase⟩,⟨7,.phase⟩,⟨8,.phase⟩,⟨9,.phase⟩,⟨10,.phase⟩,⟨11,.phase⟩,⟨12,.phase⟩,⟨13,.phase⟩,⟨14,.phase⟩,⟨15,.phase⟩,⟨16,.phase⟩,⟨17,.phase⟩],none⟩) rfl (fun K hK=>?_) AllReadyH.nil
        refine step_execS rfl (exec_store_pt _ _ rfl rfl rfl hst) ?_
        refine hK.out _ _ hm9 (fun hH=>?_)
        clear hK K
        (try simp only [Act.put])
        refine wpAnyH_done (by kernel_rfl) ?_ _
        have HQ9:=hh (And.intro hm9 (And.intro he9 (And.intro hl9 h79)))
        clear hst hm9 he9 hl9 h79
        go_wp2_with fail
        go_meet
        case rel=>exact ⟨_,_,_,rfl,HQ9.out.1,⟨(HQ9.out.1.block _ (ltB HAA.out) (fun q=>q)).trans HAA.out,(HQ9.out.1.block _ (ltB HBB.out) (fun q=>q)).trans HBB.out,HQ9.out.2.1,HQ9.out.2.2.1⟩,HQ9.out.2.2.2⟩
      ·skip
       have h3:=HQ0.out.a7 HZ.out.2
       refine step_execW rfl (exec_alloc _ _ 36 z6 rfl HZ.out.1) ?_
       refine hK.out _ _ h3.mod (fun hH=>?_)
       clear hK K
       (try simp only [Act.put,ja,jb,jc])
       clear hH
       have hH:(fun W=>Mod N0 w12 W) (w12.drew.alloc (.cells z6 36)):=h3.mod
       generalize w12.drew.alloc (.cells z6 36)=w11x at h3 hH ⊢
       generalize w12.drew.heap.size=g11 at h3 ⊢
       have HQ11:=hh h3
       clear h3
       refine tr (rs:=[4,15]) ?_
       refine AllReadyH.cons (o:=⟨some 61,.buildSlice 28 4 #[(0,.tmp 57),(1,.tmp 58),(2,.tmp 59),(3,.tmp 60)],28, "law.go:54",#[⟨0,.data⟩,⟨1,.data⟩,⟨2,.data⟩,⟨3,.data⟩],none⟩) rfl (fun K hK=>?_) (AllReadyH.cons (o:=⟨some 72,.buildSlice 33 1 #[(0,.tmp 71)],33, "law.go:54",#[⟨14,.data⟩],none⟩) rfl (fun K hK=>?_) AllReadyH.nil)
       ·skip
        have h3:=HQ11.out.ae
        refine step_execW rfl (exec_ents4 _ _ rfl _ _ _ _ (entCells_length _ _ _) (entCells_length _ _ _) (entCells_length _ _ _) (entCells_length _ _ _) rfl rfl rfl rfl) ?_
        refine hK.out _ _ h3.mod (fun hH=>?_)
        clear hK K
        (try simp only [Act.put,ja,jb,jc])
        clear hH
        have hH:(fun W=>Mod N0 w12 W) (w11x.alloc (.cells ([(entCells (entA 1 ni [(nmX 120,nk),(nmX 120,ni)]) (some ⟨la,0,none⟩) 2),(entCells (entA 2 nk [(nmX 120,5),(nmX 97,ni)]) (some ⟨lb,0,none⟩) 2),(entCells (entE 1 9223372036854775807) none 0),(entCells (entE 1 9223372036854775807) none 0)].flatten).toArray 73)):=h3.mod
        generalize w11x.alloc (.cells ([(entCells (entA 1 ni [(nmX 120,nk),(nmX 120,ni)]) (some ⟨la,0,none⟩) 2),(entCells (entA 2 nk [(nmX 120,5),(nmX 97,ni)]) (some ⟨lb,0,none⟩) 2),(entCells (entE 1 9223372036854775807) none 0),(entCells (entE 1 9223372036854775807) none 0)].flatten).toArray 73)=w12x at h3 hH ⊢
        generalize w11x.heap.size=g12 at h3 ⊢
        have HQ12:=hh h3
        clear h3
        refine tr (rs:=[15]) ?_
        refine AllReadyH.cons (o:=⟨some 72,.buildSlice 33 1 #[(0,.tmp 71)],33, "law.go:54",#[⟨14,.data⟩],none⟩) rfl (fun K hK=>?_) AllReadyH.nil
        have h3:=HQ12.out.am
        refine step_execW rfl (exec_slice1 _ _ rfl (nmX 120,5) rfl) ?_
        refine hK.out _ _ h3.mod (fun hH=>?_)
        clear hK K
        (try simp only [Act.put,ja,jb,jc])
        clear hH
        have hH:(fun W=>Mod N0 w12 W) (w12x.alloc (.cells (totCells (nmX 120,5)).toArray 78)):=h3.mod
        generalize w12x.alloc (.cells (totCells (nmX 120,5)).toArray 78)=w13x at h3 hH ⊢
        generalize w12x.heap.size=g13 at h3 ⊢
        have HQ13:=hh h3
        clear h3
        refine tk (i:=16) (oi:=⟨some 73,.build 36 #[(2,.tmp 61),(7,.tmp 65),(8,.tmp 69),(9,.tmp 72)],36, "law.go:54",#[⟨4,.data⟩,⟨8,.data⟩,⟨12,.data⟩,⟨15,.data⟩],none⟩) (v:=.agg (stL (.slice (some ⟨g12,0,none⟩) 4 4) (.int .i64 nk) (.int .i64 ni) (.slice (some ⟨g13,0,none⟩) 1 1)).toArray) hH (fun w' hSw=>by exact exec_buildL _ _ [(2,.tmp 61),(7,.tmp 65),(8,.tmp 69),(9,.tmp 72)] rfl [(2,.slice (some ⟨g12,0,none⟩) 4 4),(7,.int .i64 nk),(8,.int .i64 ni),(9,.slice (some ⟨g13,0,none⟩) 1 1)] rfl _ (st_built _ _ _ _ _ _ _ _)) ?_
        obtain ⟨v9,hst,hm9,he9,hl9,h79⟩:=HQ13.out.put (stL_length _ _ _ _) (stL_one (a:=.slice (some ⟨g12,0,none⟩) 4 4) (b:=.int .i64 nk) (c:=.int .i64 ni) (d:=.slice (some ⟨g13,0,none⟩) 1 1) rfl rfl rfl rfl)
        refine tr (rs:=[18]) ?_
        refine AllReadyH.cons (o:=⟨none,.store 36 (.tmp 7) (.tmp 73),0, "law.go:54",#[⟨17,.data⟩,⟨16,.data⟩,⟨0,.phase⟩,⟨1,.phase⟩,⟨2,.phase⟩,⟨3,.phase⟩,⟨4,.phase⟩,⟨5,.phase⟩,⟨6,.phase⟩,⟨7,.phase⟩,⟨8,.phase⟩,⟨9,.phase⟩,⟨10,.phase⟩,⟨11,.phase⟩,⟨12,.phase⟩,⟨13,.phase⟩,⟨14,.phase⟩,⟨15,.phase⟩,⟨16,.phase⟩,⟨17,.phase⟩],none⟩) rfl (fun K hK=>?_) AllReadyH.nil
        refine step_execS rfl (exec_store_pt _ _ rfl rfl rfl hst) ?_
        refine hK.out _ _ hm9 (fun hH=>?_)
        clear hK K
        (try simp only [Act.put])
        refine wpAnyH_done (by kernel_rfl) ?_ _
        have HQ9:=hh (And.intro hm9 (And.intro he9 (And.intro hl9 h79)))
        clear hst hm9 he9 hl9 h79
        go_wp2_with fail
        go_meet
        case rel=>exact ⟨_,_,_,rfl,HQ9.out.1,⟨(HQ9.out.1.block _ (ltB HAA.out) (fun q=>q)).trans HAA.out,(HQ9.out.1.block _ (ltB HBB.out) (fun q=>q)).trans HBB.out,HQ9.out.2.1,HQ9.out.2.2.1⟩,HQ9.out.2.2.2⟩
       ·skip
        have h3:=HQ11.out.am
        refine step_execW rfl (exec_slice1 _ _ rfl (nmX 120,5) rfl) ?_
        refine hK.out _ _ h3.mod (fun hH=>?_)
        clear hK K
        (try simp only [Act.put,ja,jb,jc])
        clear hH
        have hH:(fun W=>Mod N0 w12 W) (w11x.alloc (.cells (totCells (nmX 120,5)).toArray 78)):=h3.mod
        generalize w11x.alloc (.cells (totCells (nmX 120,5)).toArray 78)=w14x at h3 hH ⊢
        generalize w11x.heap.size=g14 at h3 ⊢
        have HQ14:=hh h3
        clear h3
        refine tr (rs:=[4]) ?_
        refine AllReadyH.cons (o:=⟨some 61,.buildSlice 28 4 #[(0,.tmp 57),(1,.tmp 58),(2,.tmp 59),(3,.tmp 60)],28, "law.go:54",#[⟨0,.data⟩,⟨1,.data⟩,⟨2,.data⟩,⟨3,.data⟩],none⟩) rfl (fun K hK=>?_) AllReadyH.nil
        have h3:=HQ14.out.ae
        refine step_execW rfl (exec_ents4 _ _ rfl _ _ _ _ (entCells_length _ _ _) (entCells_length _ _ _) (entCells_length _ _ _) (entCells_length _ _ _) rfl rfl rfl rfl) ?_
        refine hK.out _ _ h3.mod (fun hH=>?_)
        clear hK K
        (try simp only [Act.put,ja,jb,jc])
        clear hH
        have hH:(fun W=>Mod N0 w12 W) (w14x.alloc (.cells ([(entCells (entA 1 ni [(nmX 120,nk),(nmX 120,ni)]) (some ⟨la,0,none⟩) 2),(entCells (entA 2 nk [(nmX 120,5),(nmX 97,ni)]) (some ⟨lb,0,none⟩) 2),(entCells (entE 1 9223372036854775807) none 0),(entCells (entE 1 9223372036854775807) none 0)].flatten).toArray 73)):=h3.mod
        generalize w14x.alloc (.cells ([(entCells (entA 1 ni [(nmX 120,nk),(nmX 120,ni)]) (some ⟨la,0,none⟩) 2),(entCells (entA 2 nk [(nmX 120,5),(nmX 97,ni)]) (some ⟨lb,0,none⟩) 2),(entCells (entE 1 9223372036854775807) none 0),(entCells (entE 1 9223372036854775807) none 0)].flatten).toArray 73)=w15x at h3 hH ⊢
        generalize w14x.heap.size=g15 at h3 ⊢
        have HQ15:=hh h3
        clear h3
        refine tk (i:=16) (oi:=⟨some 73,.build 36 #[(2,.tmp 61),(7,.tmp 65),(8,.tmp 69),(9,.tmp 72)],36, "law.go:54",#[⟨4,.data⟩,⟨8,.data⟩,⟨12,.data⟩,⟨15,.data⟩],none⟩) (v:=.agg (stL (.slice (some ⟨g15,0,none⟩) 4 4) (.int .i64 nk) (.int .i64 ni) (.slice (some ⟨g14,0,none⟩) 1 1)).toArray) hH (fun w' hSw=>by exact exec_buildL _ _ [(2,.tmp 61),(7,.tmp 65),(8,.tmp 69),(9,.tmp 72)] rfl [(2,.slice (some ⟨g15,0,none⟩) 4 4),(7,.int .i64 nk),(8,.int .i64 ni),(9,.slice (some ⟨g14,0,none⟩) 1 1)] rfl _ (st_built _ _ _ _ _ _ _ _)) ?_
        obtain ⟨v9,hst,hm9,he9,hl9,h79⟩:=HQ15.out.put (stL_length _ _ _ _) (stL_one (a:=.slice (some ⟨g15,0,none⟩) 4 4) (b:=.int .i64 nk) (c:=.int .i64 ni) (d:=.slice (some ⟨g14,0,none⟩) 1 1) rfl rfl rfl rfl)
        refine tr (rs:=[18]) ?_
        refine AllReadyH.cons (o:=⟨none,.store 36 (.tmp 7) (.tmp 73),0, "law.go:54",#[⟨17,.data⟩,⟨16,.data⟩,⟨0,.phase⟩,⟨1,.phase⟩,⟨2,.phase⟩,⟨3,.phase⟩,⟨4,.phase⟩,⟨5,.phase⟩,⟨6,.phase⟩,⟨7,.phase⟩,⟨8,.phase⟩,⟨9,.phase⟩,⟨10,.phase⟩,⟨11,.phase⟩,⟨12,.phase⟩,⟨13,.phase⟩,⟨14,.phase⟩,⟨15,.phase⟩,⟨16,.phase⟩,⟨17,.phase⟩],none⟩) rfl (fun K hK=>?_) AllReadyH.nil
        refine step_execS rfl (exec_store_pt _ _ rfl rfl rfl hst) ?_
        refine hK.out _ _ hm9 (fun hH=>?_)
        clear hK K
        (try simp only [Act.put])
        refine wpAnyH_done (by kernel_rfl) ?_ _
        have HQ9:=hh (And.intro hm9 (And.intro he9 (And.intro hl9 h79)))
        clear hst hm9 he9 hl9 h79
        go_wp2_with fail
        go_meet
        case rel=>exact ⟨_,_,_,rfl,HQ9.out.1,⟨(HQ9.out.1.block _ (ltB HAA.out) (fun q=>q)).trans HAA.out,(HQ9.out.1.block _ (ltB HBB.out) (fun q=>q)).trans HBB.out,HQ9.out.2.1,HQ9.out.2.2.1⟩,HQ9.out.2.2.2⟩
     case rest=>
      obtain ⟨b7,le,lm,rfl,hmc,hw4,hb7⟩:=hcut
      generalize wc=wd at hmc hw4 hb7 ⊢
      have HC:=hh (And.intro hmc (And.intro hw4 hb7))
      clear hmc hw4 hb7 HAA HBB
      go_upto_region 12 with fail
      go_cut [8] from 74 to 84 (fun p wx=>∃ b8 lo:Nat,p=.pointer (some ⟨b8,0,none⟩)/\Mod N0 wd wx/\wx.heap[lo]?=some (.cells ([(outCells (entA 1 ni [(nmX 120,nk),(nmX 120,ni)]) (some ⟨la,0,none⟩) 2),(outCells (entE 0 nk) none 0)].flatten).toArray 71 (0,0))/\wx.heap[b8]?=some (.cells (gnL (.slice (some ⟨lo,0,none⟩) 2 2)).toArray 39 (0,0)))
      case first=>
       obtain ⟨z9,hz9,hz9s⟩:=zi39
       have HZ:=hh (And.intro hz9 hz9s)
       clear hz9 hz9s
       have HC4:=hh ((HC.out.1.block _ (ltB H12.out.c4) (fun q=>q)).trans H12.out.c4)
       refine wp_region_held_drew (S:=fun W=>Mod N0 wd W) (by kernel_rfl) ((Mod.refl _ wd).drew) (fun hH=>?_)
       refine tq (i:=0) (oi:=⟨some 74,.fieldAddr 73 (.tmp 4) 1,0, "law.go:55",#[],none⟩) (v:=.pointer (some ⟨b4,33,none⟩)) hH ?_
       refine tk (i:=1) (oi:=⟨some 75,.load 71 (.tmp 74),71, "law.go:55",#[⟨0,.data⟩],none⟩) (v:=.agg (outCells (entA 1 ni [(nmX 120,nk),(nmX 120,ni)]) (some ⟨la,0,none⟩) 2).toArray) hH ?_ ?_
       ·intro w' hSw
        have hl:=load_box ((hSw.block _ (ltB HC4.out) (fun q=>q)).trans HC4.out) 71 33 69 _ Tryz.underlying71 rfl ss49 (by rw [entCells_length]; omega)
        rw [entF_out] at hl
        exact exec_load_pt _ _ 71 _ rfl ⟨b4,33,none⟩ rfl hl
       refine tq (i:=2) (oi:=⟨some 76,.move (.tmp 1),60, "law.go:55",#[],none⟩) (v:=.slice (some ⟨w.heap.size,0,none⟩) 6 6) hH ?_
       refine tq (i:=3) (oi:=⟨some 77,.move (.tmp 3),3, "law.go:55",#[],none⟩) (v:=.int .i64 k) hH ?_
       refine tq (i:=4) (oi:=⟨some 78,.indexAddr 60 (.tmp 76) (.tmp 77),0, "law.go:55",#[⟨2,.data⟩,⟨3,.data⟩],none⟩) (v:=.pointer (some ⟨w.heap.size,k,none⟩)) hH ?_
       refine tk (i:=5) (oi:=⟨some 79,.load 2 (.tmp 78),2, "law.go:55",#[⟨4,.data⟩],none⟩) (v:=.int .i64 nk) hH (fun w' hSw=>by exact exec_load_pt _ _ 2 _ rfl ⟨w.heap.size,k,none⟩ rfl (HL.out _ _ (fun _ e=>e.elim) (H12.out.mod.tr (HC.out.1.tr hSw))).2) ?_
       refine tk (i:=6) (oi:=⟨some 80,.build 65 #[(0,.tmp 79)],65, "law.go:55",#[⟨5,.data⟩],none⟩) (v:=.agg #[.int .i64 nk,.slice none 0 0]) hH (fun w' hSw=>by exact exec_buildL _ _ [(0,.tmp 79)] rfl [(0,.int .i64 nk)] rfl _ (by kernel_rfl)) ?_
       refine tk (i:=7) (oi:=⟨some 81,.build 71 #[(1,.tmp 80)],71, "law.go:55",#[⟨6,.data⟩],none⟩) (v:=.agg (outCells (entE 0 nk) none 0).toArray) hH (fun w' hSw=>by exact exec_buildL _ _ [(1,.tmp 80)] rfl [(1,.agg #[.int .i64 nk,.slice none 0 0])] rfl _ (by kernel_rfl)) ?_
       refine tr (rs:=[8,10]) ?_
       refine AllReadyH.cons (o:=⟨some 82,.buildSlice 37 2 #[(0,.tmp 75),(1,.tmp 81)],37, "law.go:55",#[⟨1,.data⟩,⟨7,.data⟩],none⟩) rfl (fun K hK=>?_) (AllReadyH.cons (o:=⟨some 8,.alloc 39,0, "law.go:55",#[],none⟩) rfl (fun K hK=>?_) AllReadyH.nil)
       ·skip
        refine step_execW rfl (exec_outs2 _ _ rfl _ _ (outCells_length _ _ _) (outCells_length _ _ _) rfl rfl) ?_
        have ha:=newB wd.drew (.cells ([(outCells (entA 1 ni [(nmX 120,nk),(nmX 120,ni)]) (some ⟨la,0,none⟩) 2),(outCells (entE 0 nk) none 0)].flatten).toArray 71)
        have hm:Mod N0 wd (wd.drew.alloc (.cells ([(outCells (entA 1 ni [(nmX 120,nk),(nmX 120,ni)]) (some ⟨la,0,none⟩) 2),(outCells (entE 0 nk) none 0)].flatten).toArray 71)):=((Mod.refl _ wd).drew).alloc _
        refine hK.out _ _ hm (fun hH=>?_)
        clear hK K
        (try simp only [Act.put,ja,jb,jc])
        clear hH
        have hH:(fun W=>Mod N0 wd W) (wd.drew.alloc (.cells ([(outCells (entA 1 ni [(nmX 120,nk),(nmX 120,ni)]) (some ⟨la,0,none⟩) 2),(outCells (entE 0 nk) none 0)].flatten).toArray 71)):=hm
        generalize wd.drew.alloc (.cells ([(outCells (entA 1 ni [(nmX 120,nk),(nmX 120,ni)]) (some ⟨la,0,none⟩) 2),(outCells (entE 0 nk) none 0)].flatten).toArray 71)=v1 at ha hm hH ⊢
        generalize wd.drew.heap.size=lo at ha ⊢
        refine tk (i:=9) (oi:=⟨some 83,.build 39 #[(2,.tmp 82)],39, "law.go:55",#[⟨8,.data⟩],none⟩) (v:=.agg (gnL (.slice (some ⟨lo,0,none⟩) 2 2)).toArray) hH (fun w' hSw=>by exact exec_buildL _ _ [(2,.tmp 82)] rfl [(2,.slice (some ⟨lo,0,none⟩) 2 2)] rfl _ (gn_built _ _ _)) ?_
        refine tr (rs:=[10]) ?_
        refine AllReadyH.cons (o:=⟨some 8,.alloc 39,0, "law.go:55",#[],none⟩) rfl (fun K hK=>?_) AllReadyH.nil
        have hb:=newB v1 (.cells z9 39)
        have ha2:=allocB ha (.cells z9 39)
        have hm2:Mod N0 wd (v1.alloc (.cells z9 39)):=hm.alloc _
        have HG:=hh (show wd.heap.size<=v1.heap.size from hm.size)
        refine step_execW rfl (exec_alloc _ _ 39 z9 rfl HZ.out.1) ?_
        refine hK.out _ _ hm2 (fun hH=>?_)
        clear hK K
        (try simp only [Act.put,ja,jb,jc])
        clear hH
        have hH:(fun W=>Mod N0 wd W) (v1.alloc (.cells z9 39)):=hm2
        generalize v1.alloc (.cells z9 39)=v2 at ha2 hb hm2 hH ⊢
        generalize v1.heap.size=b8 at hb HG ⊢
        have HX:=hh (And.intro ha2 (And.intro hb hm2))
        clear ha ha2 hb hm hm2
        have hst:=run_storeVar_row (P:=Tryz.prog) v2 b8 39 39 z9 (gnL (.slice (some ⟨lo,0,none⟩) 2 2)).toArray HX.out.2.1 (by rw [ss72]; simp [gnL_length]) (by simp [HZ.out.2,gnL_length]) (by rw [List.all_toArray,List.all_eq_true]; exact gnL_one (a:=.slice (some ⟨lo,0,none⟩) 2 2) rfl)
        have hc8:=setRow_same (cs:=(gnL (.slice (some ⟨lo,0,none⟩) 2 2)).toArray) (HX.out.2.1)
        have hmr:Mod (fun q=>q=b8) v2 (v2.setRow b8 (gnL (.slice (some ⟨lo,0,none⟩) 2 2)).toArray):=Mod_setRow (Mod.refl (fun q=>q=b8) v2) (b:=b8) (fun _=>rfl) _
        have hlo:=(hmr.block _ (ltB (HX.out.1)) (fun e=>by
         have h1:=HX.out.2.1
         rw [← e,HX.out.1] at h1
         simp at h1)).trans (HX.out.1)
        have hme:=(HX.out.2.2).trans hmr (fun q e hl=>by have:=HG.out; omega)
        generalize v2.setRow b8 (gnL (.slice (some ⟨lo,0,none⟩) 2 2)).toArray=ve at hst hc8 hlo hme
        clear hmr
        refine tr (rs:=[11]) ?_
        refine AllReadyH.cons (o:=⟨none,.store 39 (.tmp 8) (.tmp 83),0, "law.go:55",#[⟨10,.data⟩,⟨9,.data⟩,⟨0,.phase⟩,⟨1,.phase⟩,⟨2,.phase⟩,⟨3,.phase⟩,⟨4,.phase⟩,⟨5,.phase⟩,⟨6,.phase⟩,⟨7,.phase⟩,⟨8,.phase⟩,⟨9,.phase⟩,⟨10,.phase⟩],none⟩) rfl (fun K hK=>?_) AllReadyH.nil
        refine step_execS rfl (exec_store_pt _ _ rfl rfl rfl hst) ?_
        refine hK.out _ _ hme (fun hH=>?_)
        clear hK K
        (try simp only [Act.put])
        refine wpAnyH_done (by kernel_rfl) ?_ _
        have HQ9:=hh (And.intro hme (And.intro hlo hc8))
        clear hst hme hlo hc8
        go_wp2_with fail
        go_meet
        case rel=>exact ⟨_,_,rfl,HQ9.out.1,HQ9.out.2.1,HQ9.out.2.2⟩
       ·skip
        have hb:=newB wd.drew (.cells z9 39)
        have hm:Mod N0 wd (wd.drew.alloc (.cells z9 39)):=((Mod.refl _ wd).drew).alloc _
        have HG:=hh (show wd.heap.size<=wd.drew.heap.size from Nat.le_refl _)
        refine step_execW rfl (exec_alloc _ _ 39 z9 rfl HZ.out.1) ?_
        refine hK.out _ _ hm (fun hH=>?_)
        clear hK K
        (try simp only [Act.put,ja,jb,jc])
        clear hH
        have hH:(fun W=>Mod N0 wd W) (wd.drew.alloc (.cells z9 39)):=hm
        generalize wd.drew.alloc (.cells z9 39)=v1 at hb hm hH ⊢
        generalize wd.drew.heap.size=b8 at hb HG ⊢
        refine tr (rs:=[8]) ?_
        refine AllReadyH.cons (o:=⟨some 82,.buildSlice 37 2 #[(0,.tmp 75),(1,.tmp 81)],37, "law.go:55",#[⟨1,.data⟩,⟨7,.data⟩],none⟩) rfl (fun K hK=>?_) AllReadyH.nil
        refine step_execW rfl (exec_outs2 _ _ rfl _ _ (outCells_length _ _ _) (outCells_length _ _ _) rfl rfl) ?_
        have ha:=newB v1 (.cells ([(outCells (entA 1 ni [(nmX 120,nk),(nmX 120,ni)]) (some ⟨la,0,none⟩) 2),(outCells (entE 0 nk) none 0)].flatten).toArray 71)
        have hb2:=allocB hb (.cells ([(outCells (entA 1 ni [(nmX 120,nk),(nmX 120,ni)]) (some ⟨la,0,none⟩) 2),(outCells (entE 0 nk) none 0)].flatten).toArray 71)
        have hm2:Mod N0 wd (v1.alloc (.cells ([(outCells (entA 1 ni [(nmX 120,nk),(nmX 120,ni)]) (some ⟨la,0,none⟩) 2),(outCells (entE 0 nk) none 0)].flatten).toArray 71)):=hm.alloc _
        refine hK.out _ _ hm2 (fun hH=>?_)
        clear hK K
        (try simp only [Act.put,ja,jb,jc])
        clear hH
        have hH:(fun W=>Mod N0 wd W) (v1.alloc (.cells ([(outCells (entA 1 ni [(nmX 120,nk),(nmX 120,ni)]) (some ⟨la,0,none⟩) 2),(outCells (entE 0 nk) none 0)].flatten).toArray 71)):=hm2
        generalize v1.alloc (.cells ([(outCells (entA 1 ni [(nmX 120,nk),(nmX 120,ni)]) (some ⟨la,0,none⟩) 2),(outCells (entE 0 nk) none 0)].flatten).toArray 71)=v2 at ha hb2 hm2 hH ⊢
        generalize v1.heap.size=lo at ha ⊢
        have HX:=hh (And.intro ha (And.intro hb2 hm2))
        clear ha hb hb2 hm hm2
        refine tk (i:=9) (oi:=⟨some 83,.build 39 #[(2,.tmp 82)],39, "law.go:55",#[⟨8,.data⟩],none⟩) (v:=.agg (gnL (.slice (some ⟨lo,0,none⟩) 2 2)).toArray) hH (fun w' hSw=>by exact exec_buildL _ _ [(2,.tmp 82)] rfl [(2,.slice (some ⟨lo,0,none⟩) 2 2)] rfl _ (gn_built _ _ _)) ?_
        have hst:=run_storeVar_row (P:=Tryz.prog) v2 b8 39 39 z9 (gnL (.slice (some ⟨lo,0,none⟩) 2 2)).toArray HX.out.2.1 (by rw [ss72]; simp [gnL_length]) (by simp [HZ.out.2,gnL_length]) (by rw [List.all_toArray,List.all_eq_true]; exact gnL_one (a:=.slice (some ⟨lo,0,none⟩) 2 2) rfl)
        have hc8:=setRow_same (cs:=(gnL (.slice (some ⟨lo,0,none⟩) 2 2)).toArray) (HX.out.2.1)
        have hmr:Mod (fun q=>q=b8) v2 (v2.setRow b8 (gnL (.slice (some ⟨lo,0,none⟩) 2 2)).toArray):=Mod_setRow (Mod.refl (fun q=>q=b8) v2) (b:=b8) (fun _=>rfl) _
        have hlo:=(hmr.block _ (ltB (HX.out.1)) (fun e=>by
         have h1:=HX.out.2.1
         rw [← e,HX.out.1] at h1
         simp at h1)).trans (HX.out.1)
        have hme:=(HX.out.2.2).trans hmr (fun q e hl=>by have:=HG.out; omega)
        generalize v2.setRow b8 (gnL (.slice (some ⟨lo,0,none⟩) 2 2)).toArray=ve at hst hc8 hlo hme
        clear hmr
        refine tr (rs:=[11]) ?_
        refine AllReadyH.cons (o:=⟨none,.store 39 (.tmp 8) (.tmp 83),0, "law.go:55",#[⟨10,.data⟩,⟨9,.data⟩,⟨0,.phase⟩,⟨1,.phase⟩,⟨2,.phase⟩,⟨3,.phase⟩,⟨4,.phase⟩,⟨5,.phase⟩,⟨6,.phase⟩,⟨7,.phase⟩,⟨8,.phase⟩,⟨9,.phase⟩,⟨10,.phase⟩],none⟩) rfl (fun K hK=>?_) AllReadyH.nil
        refine step_execS rfl (exec_store_pt _ _ rfl rfl rfl hst) ?_
        refine hK.out _ _ hme (fun hH=>?_)
        clear hK K
        (try simp only [Act.put])
        refine wpAnyH_done (by kernel_rfl) ?_ _
        have HQ9:=hh (And.intro hme (And.intro hlo hc8))
        clear hst hme hlo hc8
        go_wp2_with fail
        go_meet
        case rel=>exact ⟨_,_,rfl,HQ9.out.1,HQ9.out.2.1,HQ9.out.2.2⟩
      case rest=>
       obtain ⟨b8,lo,rfl,hmd,hlo,hb8⟩:=hcut
       have HD:=hh (And.intro hmd (And.intro hlo hb8))
       clear hmd hlo hb8
       go_upto_region 13 with fail
       have HC4:=hh (((HC.out.1.tr HD.out.1).block _ (ltB H12.out.c4) (fun q=>q)).trans H12.out.c4)
       have HC5:=hh (((HC.out.1.tr HD.out.1).block _ (ltB H12.out.c5) (fun q=>q)).trans H12.out.c5)
       have HC7:=hh ((HD.out.1.block _ (ltB HC.out.2.2) (fun q=>q)).trans HC.out.2.2)
       have HW4:=hh (fun (W:World) (hW:Mod N0 wc W)=>HC.out.2.1.tr (HD.out.1.tr hW))
       have HG4:=hh (fun (W:World) (hW:Mod N0 wc W)=>(HW4.out W hW).gen H64.out.1 H64.out.2 ((hW.block _ (ltB HD.out.2.1) (fun q=>q)).trans HD.out.2.1))
       have HP:=hh (fun (W:World) (hW:Mod N0 wc W)=>(show (loadVar 36 ⟨b7,0,none⟩).run Tryz.prog W=.ok (.agg (stL (.slice (some ⟨le,0,none⟩) 4 4) (.int .i64 nk) (.int .i64 ni) (.slice (some ⟨lm,0,none⟩) 1 1)).toArray) W/\(loadVar 39 ⟨b8,0,none⟩).run Tryz.prog W=.ok (.agg (gnL (.slice (some ⟨lo,0,none⟩) 2 2)).toArray) W/\(loadVar 41 ⟨b4,33,none⟩).run Tryz.prog W=.ok (.agg (adrCells (entE 1 0).addr).toArray) W/\(loadVar 41 ⟨b5,33,none⟩).run Tryz.prog W=.ok (.agg (adrCells (entE 2 0).addr).toArray) W/\(loadVar 28 ⟨b7,44,none⟩).run Tryz.prog W=.ok (.slice (some ⟨le,0,none⟩) 4 4) W from by
        have k4:=(hW.block _ (ltB HC4.out) (fun q=>q)).trans HC4.out
        have k5:=(hW.block _ (ltB HC5.out) (fun q=>q)).trans HC5.out
        have k7:=(hW.block _ (ltB HC7.out) (fun q=>q)).trans HC7.out
        have k8:=(hW.block _ (ltB HD.out.2.2) (fun q=>q)).trans HD.out.2.2
        have e4:=load_box k4 41 33 33 _ Tryz.underlying41 rfl (by kernel_rfl) (by rw [entCells_length]; omega)
        have e5:=load_box k5 41 33 33 _ Tryz.underlying41 rfl (by kernel_rfl) (by rw [entCells_length]; omega)
        rw [entF_addr] at e4 e5
        exact ⟨load36_box (stL_length _ _ _ _) k7,run_loadVar_mid W b8 0 39 (gnL (.slice (some ⟨lo,0,none⟩) 2 2)) _ (fun j v hv=>by rw [Nat.zero_add,cellB k8,List.getElem?_toArray]; exact hv) Tryz.underlying39 rfl (by rw [ss72,gnL_length]),e4,e5,load_sl28 ((cellB k7 44).trans rfl)⟩))
       refine wp_region_held_drew (S:=fun W=>Mod N0 wc W) (by kernel_rfl) ((Mod.refl _ wc).drew) (fun hH=>?_)
       refine tk (i:=0) (oi:=⟨some 84,.load 36 (.tmp 7),36, "law.go:56",#[],none⟩) (v:=.agg (stL (.slice (some ⟨le,0,none⟩) 4 4) (.int .i64 nk) (.int .i64 ni) (.slice (some ⟨lm,0,none⟩) 1 1)).toArray) hH (fun w' hSw=>by exact exec_load_pt _ _ 36 _ rfl ⟨b7,0,none⟩ rfl (HP.out _ hSw).1) ?_
       refine tk (i:=1) (oi:=⟨some 85,.load 39 (.tmp 8),39, "law.go:56",#[],none⟩) (v:=.agg (gnL (.slice (some ⟨lo,0,none⟩) 2 2)).toArray) hH (fun w' hSw=>by exact exec_load_pt _ _ 39 _ rfl ⟨b8,0,none⟩ rfl (HP.out _ hSw).2.1) ?_
       refine tq (i:=2) (oi:=⟨some 86,.fieldAddr 73 (.tmp 4) 1,0, "law.go:56",#[],none⟩) (v:=.pointer (some ⟨b4,33,none⟩)) hH ?_
       refine tq (i:=3) (oi:=⟨some 87,.fieldAddr 71 (.tmp 86) 0,0, "law.go:56",#[⟨2,.data⟩],none⟩) (v:=.pointer (some ⟨b4,33,none⟩)) hH ?_
       refine tk (i:=4) (oi:=⟨some 88,.load 41 (.tmp 87),41, "law.go:56",#[⟨3,.data⟩],none⟩) (v:=.agg (adrCells (entE 1 0).addr).toArray) hH (fun w' hSw=>by exact exec_load_pt _ _ 41 _ rfl ⟨b4,33,none⟩ rfl (HP.out _ hSw).2.2.1) ?_
       refine tr (rs:=[5]) ?_
       refine AllReadyH.cons (o:=⟨some 89,.call {callee:=.value (.func 3),args:=#[.tmp 84,.tmp 85,.tmp 88],argTypes:=#[36,39,41]},4, "law.go:56",#[⟨0,.data⟩,⟨1,.data⟩,⟨4,.data⟩],none⟩) rfl (fun K hK=>?_) AllReadyH.nil
       go_simp
       refine (tell_calls wc.drew _ (gnL (.slice (some ⟨lo,0,none⟩) 2 2)) (entE 1 0).addr ((HW4.out _ ((Mod.refl N0 wc).drew)).state1 H64.out.1 H64.out.2 max64) (HG4.out _ ((Mod.refl N0 wc).drew)) (gnL_one (a:=.slice (some ⟨lo,0,none⟩) 2 2) rfl)).mono ?_
       rintro e y1 ⟨rfl,hm⟩
       have HY1:=hh ((((Mod.refl N0 wc).drew)).tr hm)
       clear hm
       refine hK.out _ _ HY1.out (fun hH=>?_)
       clear hK K
       (try simp only [Act.put,ja,jb,jc])
       refine tq (i:=6) (oi:=⟨some 90,.unOp .not 4 (.tmp 89),4, "law.go:56",#[⟨5,.data⟩],none⟩) (v:=.bool false) hH ?_
       refine tq (i:=7) (oi:=⟨some 91,.move (.tmp 90),4, "law.go:56",#[⟨6,.data⟩,⟨5,.chain⟩],none⟩) (v:=.bool false) hH ?_
       refine tk (i:=8) (oi:=⟨some 92,.load 36 (.tmp 7),36, "law.go:56",#[⟨7,.guard⟩],some (7,false)⟩) (v:=.agg (stL (.slice (some ⟨le,0,none⟩) 4 4) (.int .i64 nk) (.int .i64 ni) (.slice (some ⟨lm,0,none⟩) 1 1)).toArray) hH (fun w' hSw=>by exact exec_load_pt _ _ 36 _ rfl ⟨b7,0,none⟩ rfl (HP.out _ hSw).1) ?_
       refine tk (i:=9) (oi:=⟨some 93,.load 39 (.tmp 8),39, "law.go:56",#[⟨7,.guard⟩],some (7,false)⟩) (v:=.agg (gnL (.slice (some ⟨lo,0,none⟩) 2 2)).toArray) hH (fun w' hSw=>by exact exec_load_pt _ _ 39 _ rfl ⟨b8,0,none⟩ rfl (HP.out _ hSw).2.1) ?_
       refine tq (i:=10) (oi:=⟨some 94,.fieldAddr 73 (.tmp 5) 1,0, "law.go:56",#[⟨7,.guard⟩],some (7,false)⟩) (v:=.pointer (some ⟨b5,33,none⟩)) hH ?_
       refine tq (i:=11) (oi:=⟨some 95,.fieldAddr 71 (.tmp 94) 0,0, "law.go:56",#[⟨10,.data⟩,⟨7,.guard⟩],some (7,false)⟩) (v:=.pointer (some ⟨b5,33,none⟩)) hH ?_
       refine tk (i:=12) (oi:=⟨some 96,.load 41 (.tmp 95),41, "law.go:56",#[⟨11,.data⟩,⟨7,.guard⟩],some (7,false)⟩) (v:=.agg (adrCells (entE 2 0).addr).toArray) hH (fun w' hSw=>by exact exec_load_pt _ _ 41 _ rfl ⟨b5,33,none⟩ rfl (HP.out _ hSw).2.2.2.1) ?_
       refine tr (rs:=[13]) ?_
       refine AllReadyH.cons (o:=⟨some 97,.call {callee:=.value (.func 3),args:=#[.tmp 92,.tmp 93,.tmp 96],argTypes:=#[36,39,41]},4, "law.go:56",#[⟨8,.data⟩,⟨9,.data⟩,⟨12,.data⟩,⟨7,.chain⟩,⟨7,.guard⟩],some (7,false)⟩) rfl (fun K hK=>?_) AllReadyH.nil
       go_simp
       refine (tell_calls y1 _ (gnL (.slice (some ⟨lo,0,none⟩) 2 2)) (entE 2 0).addr ((HW4.out _ HY1.out).state1 H64.out.1 H64.out.2 max64) (HG4.out _ HY1.out) (gnL_one (a:=.slice (some ⟨lo,0,none⟩) 2 2) rfl)).mono ?_
       rintro e y2 ⟨rfl,hm⟩
       have HY2:=hh ((HY1.out).tr hm)
       clear hm
       refine hK.out _ _ HY2.out (fun hH=>?_)
       clear hK K
       (try simp only [Act.put,ja,jb,jc])
       refine tq (i:=14) (oi:=⟨some 98,.unOp .not 4 (.tmp 97),4, "law.go:56",#[⟨13,.data⟩,⟨7,.guard⟩],some (7,false)⟩) (v:=.bool false) hH ?_
       refine tq (i:=15) (oi:=⟨some 99,.pick (.tmp 91) (.const (.bool true)) (.tmp 98),4, "law.go:56",#[⟨7,.data⟩,⟨14,.data⟩],none⟩) (v:=.bool false) hH ?_
       refine tq (i:=16) (oi:=⟨some 100,.move (.tmp 99),4, "law.go:56",#[⟨15,.data⟩,⟨13,.chain⟩],none⟩) (v:=.bool false) hH ?_
       refine tq (i:=17) (oi:=⟨some 101,.fieldAddr 36 (.tmp 7) 2,0, "law.go:56",#[⟨16,.guard⟩],some (16,false)⟩) (v:=.pointer (some ⟨b7,44,none⟩)) hH ?_
       refine tk (i:=18) (oi:=⟨some 102,.load 28 (.tmp 101),28, "law.go:56",#[⟨17,.data⟩,⟨16,.guard⟩],some (16,false)⟩) (v:=.slice (some ⟨le,0,none⟩) 4 4) hH (fun w' hSw=>by exact exec_load_pt _ _ 28 _ rfl ⟨b7,44,none⟩ rfl (HP.out _ hSw).2.2.2.2) ?_
       refine tq (i:=19) (oi:=⟨some 103,.slice 28 (.tmp 102) none (some (.const (.int .i64 1))) none,28, "law.go:56",#[⟨18,.data⟩,⟨16,.guard⟩],some (16,false)⟩) (v:=.slice (some ⟨le,0,none⟩) 1 4) hH ?_
       refine tq (i:=20) (oi:=⟨some 104,.move (.tmp 1),60, "law.go:56",#[⟨16,.guard⟩],some (16,false)⟩) (v:=.slice (some ⟨w.heap.size,0,none⟩) 6 6) hH ?_
       refine tq (i:=21) (oi:=⟨some 105,.move (.tmp 3),3, "law.go:56",#[⟨16,.guard⟩],some (16,false)⟩) (v:=.int .i64 k) hH ?_
       refine tq (i:=22) (oi:=⟨some 106,.indexAddr 60 (.tmp 104) (.tmp 105),0, "law.go:56",#[⟨20,.data⟩,⟨21,.data⟩,⟨16,.guard⟩],some (16,false)⟩) (v:=.pointer (some ⟨w.heap.size,k,none⟩)) hH ?_
       refine tk (i:=23) (oi:=⟨some 107,.load 2 (.tmp 106),2, "law.go:56",#[⟨22,.data⟩,⟨16,.guard⟩],some (16,false)⟩) (v:=.int .i64 nk) hH (fun w' hSw=>by exact exec_load_pt _ _ 2 _ rfl ⟨w.heap.size,k,none⟩ rfl (HL.out _ _ (fun _ e=>e.elim) (H12.out.mod.tr (HC.out.1.tr (HD.out.1.tr hSw)))).2) ?_
       refine tk (i:=24) (oi:=⟨some 108,.build 36 #[(2,.tmp 103),(7,.tmp 107)],36, "law.go:56",#[⟨19,.data⟩,⟨23,.data⟩,⟨16,.guard⟩],some (16,false)⟩) (v:=.agg (stL (.slice (some ⟨le,0,none⟩) 1 4) (.int .i64 nk) (.int .i64 0) (.slice none 0 0)).toArray) hH (fun w' hSw=>by exact exec_buildL _ _ [(2,.tmp 103),(7,.tmp 107)] rfl [(2,.slice (some ⟨le,0,none⟩) 1 4),(7,.int .i64 nk)] rfl _ (st_built3 _ _ _ _)) ?_
       refine tk (i:=25) (oi:=⟨some 109,.load 39 (.tmp 8),39, "law.go:56",#[⟨16,.guard⟩],some (16,false)⟩) (v:=.agg (gnL (.slice (some ⟨lo,0,none⟩) 2 2)).toArray) hH (fun w' hSw=>by exact exec_load_pt _ _ 39 _ rfl ⟨b8,0,none⟩ rfl (HP.out _ hSw).2.1) ?_
       refine tk (i:=26) (oi:=⟨some 110,.build 41 #[],41, "law.go:56",#[⟨16,.guard⟩],some (16,false)⟩) (v:=.agg (adrCells zAdr).toArray) hH (fun w' hSw=>by exact exec_buildL _ _ [] rfl [] rfl _ built41) ?_
       refine tr (rs:=[27]) ?_
       refine AllReadyH.cons (o:=⟨some 111,.call {callee:=.value (.func 3),args:=#[.tmp 108,.tmp 109,.tmp 110],argTypes:=#[36,39,41]},4, "law.go:56",#[⟨24,.data⟩,⟨25,.data⟩,⟨26,.data⟩,⟨16,.chain⟩,⟨16,.guard⟩],some (16,false)⟩) rfl (fun K hK=>?_) AllReadyH.nil
       go_simp
       refine (tell_calls y2 _ (gnL (.slice (some ⟨lo,0,none⟩) 2 2)) zAdr ((HW4.out _ HY2.out).state3 H64.out.1 H64.out.2 max64) (HG4.out _ HY2.out) (gnL_one (a:=.slice (some ⟨lo,0,none⟩) 2 2) rfl)).mono ?_
       rintro e y3 ⟨rfl,hm⟩
       have HY3:=hh ((HY2.out).tr hm)
       clear hm
       refine hK.out _ _ HY3.out (fun hH=>?_)
       clear hK K
       (try simp only [Act.put,ja,jb,jc])
       refine tq (i:=28) (oi:=⟨some 112,.unOp .not 4 (.tmp 111),4, "law.go:56",#[⟨27,.data⟩,⟨16,.guard⟩],some (16,false)⟩) (v:=.bool false) hH ?_
       refine tq (i:=29) (oi:=⟨some 113,.pick (.tmp 100) (.const (.bool true)) (.tmp 112),4, "law.go:56",#[⟨16,.data⟩,⟨28,.data⟩],none⟩) (v:=.bool false) hH ?_
       refine wpAnyH_done (by kernel_rfl) ?_ _
       have HZ9:=hh (HM2.out.tr (H12.out.mod.tr (HC.out.1.tr (HD.out.1.tr HY3.out))))
       go_wp2_with fail
       go_roundw
       case rel=>exact ⟨k+1,by omega,rfl,HZ9.out⟩
       case measure=>simp [intOf]; omega
    ·have e:k=6:=by omega
     subst e
     go_wp2_with fail
     exact ⟨⟨i+1,by omega,by simp,HM2.out⟩,by simp [intOf]; omega⟩
  ·have e:i=6:=by omega
   subst e
   go_upto_region 15 with fail
   refine wp_region_lit ?_
   refine wx (exec_buildL _ _ [(7,.const (.int .i64 9223372036854775807)),(8,.const (.int .i64 9223372036854775807))] rfl [(7,.int .i64 9223372036854775807),(8,.int .i64 9223372036854775807)] rfl _ (show Tryz.prog.built 36 [(7,.int .i64 9223372036854775807),(8,.int .i64 9223372036854775807)]=some (stL (.slice none 0 0) (.int .i64 9223372036854775807) (.int .i64 9223372036854775807) (.slice none 0 0)).toArray by kernel_rfl)) ?_
   go_wp2_with fail
   refine (c15 wr 9223372036854775807 9223372036854775807 max64 max64).mono ?_
   rintro e y1 ⟨rfl,hm⟩
   have HY1:=hh (HM.out.tr hm)
   clear hm
   rename_i hK
   refine hK _ _ ?_
   clear hK
   (try simp only [Act.put,ja,jb,jc])
   refine wx (exec_buildL _ _ [(1,.const (.int .u64 18446744073709551614))] rfl [(1,.int .u64 18446744073709551614)] rfl _ (show Tryz.prog.built 48 [(1,.int .u64 18446744073709551614)]=some #[.int .i64 (hiW 18446744073709551614),.int .u64 (loW 18446744073709551614)] by kernel_rfl)) ?_
   refine wx (exec_eqlW _ _ rfl (9223372036854775807+9223372036854775807) 18446744073709551614 rfl rfl (c:=true) (by kernel_rfl)) ?_
   refine ex (v:=.bool true) ?_
   refine gx (exec_buildL _ _ [(7,.const (.int .i64 (-1)))] rfl [(7,.int .i64 (-1))] rfl _ (show Tryz.prog.built 36 [(7,.int .i64 (-1))]=some (stL (.slice none 0 0) (.int .i64 (-1)) (.int .i64 0) (.slice none 0 0)).toArray by kernel_rfl)) ?_
   go_wp2_with fail
   refine (c15 y1 (-1) 0 m164 zero64).mono ?_
   rintro e y2 ⟨rfl,hm⟩
   have HY2:=hh (HY1.out.tr hm)
   clear hm
   rename_i hK
   refine hK _ _ ?_
   clear hK
   (try simp only [Act.put,ja,jb,jc])
   refine gx (exec_buildL _ _ [(0,.const (.int .i64 (-1))),(1,.const (.int .u64 18446744073709551615))] rfl [(0,.int .i64 (-1)),(1,.int .u64 18446744073709551615)] rfl _ (show Tryz.prog.built 48 [(0,.int .i64 (-1)),(1,.int .u64 18446744073709551615)]=some #[.int .i64 (hiW (-1)),.int .u64 (loW (-1))] by kernel_rfl)) ?_
   refine gx (exec_eqlW _ _ rfl (-1+0) (-1) rfl rfl (c:=true) (by kernel_rfl)) ?_
   go_wp2_with fail
   refine (awake_calls y2).mono ?_
   rintro e y3 ⟨rfl,hm⟩
   have HY3:=hh (HM1.out.tr (HY2.out.tr hm))
   clear hm
   rename_i hK
   refine hK _ _ ?_
   clear hK
   (try simp only [Act.put,ja,jb,jc])
   go_wp2_with fail
   go_ret
   exact ⟨rfl,HY3.out⟩
end Go.Proofs.YtckcamlicgdklaaGreat
