/- Copies of rows whose elements are copied one by one. -/
import Derived.Test.YtckcamlicgdklaaGreatN25
namespace Go.Proofs.YtckcamlicgdklaaGreat
open Go.RowKit Go.Mo
/-- The rows copied so far: v' is the new row, rows what lies in it. -/
structure CL (w0 w:World) (n:Nat) (e:TypeId) (s:Nat) (a:Option Addr) (v':Value) (rows:List (List Value)) (wr:World):Prop where
 own:wr.ownsRow 0 e s v' rows.length rows.flatten
 lens:∀ ds∈rows,ds.length=s
 new:∀ q,v'.ownBlock=some q->w.heap.size<=q
 eqs:∀ (i:Nat) (ds':List Value),rows[i]?=some ds'->∃ L off ds,a=some ⟨L,off,none⟩/\Rd w0 e ds/\L<w0.heap.size/\ds.length=s/\(∀ j u,ds[j]?=some u->w0.cell? ⟨L,off+i * s+j,none⟩=some u)/\EqX w0.heap.size w0 (fun q=>w.heap.size<=q/\v'.ownBlock≠some q) wr n e ds ds'
 old:w0.heap.size<=w.heap.size
 mod:Mod N0 w wr
theorem CL.nil {w0 w:World} {n:Nat} {e:TypeId} {s:Nat} {a:Option Addr} (hm:Mod N0 w0 w):CL w0 w n e s a (.slice none 0 0) [] w:=
 ⟨⟨by simp,.inl ⟨rfl,rfl⟩⟩,(fun ds h=>by simp at h),(fun q h=>by cases h),(fun i ds' h=>by simp at h),hm.size,Mod.refl _ w⟩
theorem CL.more {w0 w:World} {n:Nat} {e:TypeId} {s:Nat} {a:Option Addr} {v':Value} {rows:List (List Value)} {wr w4 w6:World} {k:Nat} (h:CL w0 w n e s a v' rows wr) (hk:rows.length=k) {L off:Nat} {ds cs':List Value} (ha:a=some ⟨L,off,none⟩) (hL:L<w0.heap.size) (hl:ds.length=s) (hrd:Rd w0 e ds)
  (hc:∀ j u,ds[j]?=some u->w0.cell? ⟨L,off+k * s+j,none⟩=some u) (hm:Mod N0 wr w4) (hcl:cs'.length=s) (heq:EqX w0.heap.size w0 (fun q=>wr.heap.size<=q) w4 n e ds cs')
  {v6:Value} (ho:w6.ownsRow 0 e s v6 (rows.length+1) (rows.flatten ++ cs')) (hg:w4.grownBy w6 v'.ownBlock) (hat:∀ q,v6.ownBlock=some q->v'.ownBlock=some q∨w4.heap.size<=q):CL w0 w n e s a v6 (rows ++ [cs']) w6:=by
 have hmg:Mod (fun q=>v'.ownBlock=some q) w4 w6:=(Mod.refl (fun q=>v'.ownBlock=some q) w4).grown hg (fun q hq _=>hq)
 have hsz:wr.heap.size<=w4.heap.size:=hm.size
 have hsw:w.heap.size<=wr.heap.size:=h.mod.size
 have hown:∀ q,v'.ownBlock=some q->q<wr.heap.size:=fun q hq=>ownsRow_lt h.own hq
 refine ⟨by simpa using ho,fun d hd=>?_,fun q hq=>?_,fun i d hi=>?_,h.old,?_⟩
 ·rcases List.mem_append.1 hd with q|q
  ·exact h.lens d q
  ·simp at q; subst q; exact hcl
 ·rcases hat q hq with q1|q1
  ·exact h.new q q1
  ·omega
 ·rw [List.getElem?_append] at hi
  split at hi
  ·obtain ⟨L2,off2,ds2,g1,g2,g3,g4,g5,g6⟩:=h.eqs i d hi
   refine ⟨L2,off2,ds2,g1,g2,g3,g4,g5,?_⟩
   have k1:=EqX.keep (Q':=fun q=>w.heap.size<=q/\v'.ownBlock≠some q/\q<w4.heap.size) g6 hm (fun q e=>e.elim) (fun q hq hh=>⟨hh.1,hh.2,by omega⟩) (Nat.le_refl _)
   exact EqX.keep k1 hmg (fun q e=>⟨Nat.le_trans h.old (h.new q e),fun hh=>hh.2.1 e⟩) (fun q hq hh=>⟨hh.1,fun e=>by
    rcases hat q e with e2|e2
    ·exact hh.2.1 e2
    ·have:=hh.2.2; omega⟩) (Nat.le_refl _)
  ·rename_i hlt
   rw [List.getElem?_singleton] at hi
   split at hi
   ·rename_i h0
    cases hi
    have hik:i=k:=by omega
    subst hik
    refine ⟨L,off,ds,ha,hrd,hL,hl,hc,?_⟩
    have k1:=EqX.keep (Q':=fun q=>wr.heap.size<=q/\q<w4.heap.size) heq (Mod.refl N0 w4) (fun q e=>e.elim) (fun q hq hh=>⟨hh,hq⟩) (Nat.le_refl _)
    exact EqX.keep k1 hmg (fun q e=>⟨Nat.le_trans h.old (h.new q e),fun hh=>by have:=hown q e; have:=hh.1; omega⟩) (fun q hq hh=>⟨by have:=hh.1; omega,fun e=>by
     rcases hat q e with e2|e2
     ·have:=hown q e2; have:=hh.1; omega
     ·have:=hh.2; omega⟩) (Nat.le_refl _)
   ·cases hi
 ·exact (h.mod.tr hm).trans hmg (fun q e hl=>by have:=h.new q e; omega)
theorem CL.fin {w0 w:World} {n:Nat} {e t:TypeId} {s cap:Nat} {a:Option Addr} {v':Value} {rows:List (List Value)} {wr:World} (h:CL w0 w n e s a v' rows wr) (hd:deepT t=true) (ht:Tryz.prog.underlying t=some (.slice e)) (hs:Tryz.prog.cellsOf e=s) (h0:0<s) (hm0:Mod N0 w0 w) :
  v'.oneCell'=true/\EqX w0.heap.size w0 (fun q=>w.heap.size<=q) wr (n+1) t [.slice a rows.length cap] [v']:=by
 obtain ⟨_,⟨rfl,h00⟩|⟨g,cap',cur,rfl,_,hg,hc',_,hcs',htk⟩⟩:=id h.own
 ·rw [h00]
  exact ⟨rfl,Eqv.sliceI hd ht hs h0 (fun _=>rfl) (fun i hi=>by omega)⟩
 ·refine ⟨rfl,Eqv.sliceI hd ht hs h0 (fun e=>by cases e) (fun k hk=>?_)⟩
  obtain ⟨ds',hds⟩:∃ ds,rows[k]?=some ds:=⟨_,List.getElem?_eq_getElem hk⟩
  obtain ⟨L,off,ds,rfl,hrd,hL,hl,hc,he⟩:=h.eqs k ds' hds
  have hmw:=hm0.tr h.mod
  refine ⟨L,off,ds,g,0,ds',rfl,rfl,hrd,hL,Nat.lt_of_lt_of_le hL hmw.size,ltB hg,h.new g rfl,hl,h.lens ds' (List.mem_of_getElem? hds),fun j u hu=>(hmw.cell (p:=⟨L,_,none⟩) hL (fun q=>q)).trans (hc j u hu),fun j u hu=>?_,EqX.keep he (Mod.refl N0 wr) (fun q e=>e.elim) (fun q _ hh=>hh.1) (Nat.le_refl _)⟩
  have hj:j<s:=by have h1:=(List.getElem?_eq_some_iff.1 hu).1; have h2:=h.lens ds' (List.mem_of_getElem? hds); omega
  have g1:=flat_get' rows h.lens k ds' hds j u hu
  have hks:k * s+j<rows.length * s:=by
   have:(k+1) * s<=rows.length * s:=Nat.mul_le_mul_right s hk
   rw [Nat.succ_mul] at this
   omega
  rw [← htk,List.getElem?_take,if_pos hks] at g1
  rw [Nat.zero_add,cellB hg,← Array.getElem?_toList]
  exact g1
set_option maxRecDepth 100000 in
set_option maxHeartbeats 1000000 in
theorem copyTerms {w0:World} (v:Value) (hr:Rd w0 155 [v]) (w:World) (hm:Mod N0 w0 w):Calls Tryz.prog 109 #[v] w fun e w'=>CpS w0 4 155 w v e w':=by
 obtain ⟨a,len,cap,rfl,hb,_,hel⟩:=hr.slice Tryz.underlying155 zc69 (by omega)
 rw [zbo69] at hb
 obtain ⟨z,hzv,hinf,hzs⟩:=zi69
 have HE:=hh hel
 have HM:=hh hm
 have HZ:=hh (And.intro hzv (And.intro hinf hzs))
 have hb2:len * 24<=140737488351232:=hb
 clear hel hm hzv hinf hzs hr hb
 go_enter Tryz.func109,Tryz.ntmps109
 go_wp2_with fail
 go_loopw [3,4] (fun v3 i wr=>∃ (k:Nat) (v':Value) (rows:List (List Value)),k<=len/\v'=v3/\i=.int .i64 k/\rows.length=k/\CL w0 w 3 69 1 a v' rows wr) (fun _ i _=>len - (intOf i).toNat)
 case atStart=>exact ⟨0,_,[],by omega,rfl,rfl,rfl,CL.nil HM.out⟩
 case round=>
  obtain ⟨k,v3,rows,hk,rfl,rfl,hrl,hcl⟩:=hrel
  have HCL:=hh hcl
  have HRL:=hh hrl
  clear hcl hrl
  by_cases hlt:k<len
  ·obtain ⟨L,off,ds,rfl,hL,hl,hrd,hc⟩:=HE.out k hlt
   have hld:(loadVar 69 ⟨L,off+k,none⟩).run Tryz.prog wr=.ok (.agg ds.toArray) wr:=by
    have:=load_mid (w:=wr) (p:=off+k * 1) (fun j u hu=>((HM.out.tr HCL.out.mod).cell (p:=⟨L,_,none⟩) hL (fun q=>q)).trans (hc j u hu)) 69 0 1 _ Tryz.underlying69 rfl zs69 (by omega)
    rw [List.drop_zero,List.take_of_length_le (by omega),Nat.add_zero] at this; simp only [Nat.mul_one] at this
    exact this
   have HLD:=hh hld
   have HCC:=hh (copyTerm ds hrd wr (HM.out.tr HCL.out.mod))
   have HS:=hh (And.intro hL (And.intro hl (And.intro hrd hc)))
   clear hld hL hl hrd hc
   go_wp2_with (refine wpList_exec rfl (exec_load_pt _ _ 69 _ rfl ⟨L,off+k,none⟩ rfl HLD.out) ?_)
   refine HCC.out.mono ?_
   rintro e w2 ⟨cs',rfl,one,heq,hm2⟩
   rename_i hK
   refine hK _ _ ?_
   clear hK
   (try simp only [Act.put,ja,jb,jc])
   have hcl':cs'.length=1:=by
    obtain ⟨_,_,_,h,_⟩:=heq.struct rfl Tryz.underlying69
    rw [h,zc69]
   have hst:=run_storeVar_row (P:=Tryz.prog) (w2.alloc (.cells z 69)) w2.heap.size 69 69 z cs'.toArray (newB w2 _) (by rw [zs69]; simp [hcl']) (by rw [HZ.out.2.2]; simp [hcl']) (by rw [List.all_toArray,List.all_eq_true]; exact one)
   have hR:=setRow_same (cs:=cs'.toArray) (newB w2 (.cells z 69))
   have hmr:Mod N0 w2 ((w2.alloc (.cells z 69)).setRow w2.heap.size cs'.toArray):=Mod_setRow ((Mod.refl _ w2).alloc (.cells z 69)) (b:=w2.heap.size) (fun q=>by omega) _
   generalize (w2.alloc (.cells z 69)).setRow w2.heap.size cs'.toArray=w3 at hst hR hmr
   have hld3:=load_box hR 69 0 1 _ Tryz.underlying69 rfl zs69 (by omega)
   rw [List.drop_zero,List.take_of_length_le (by omega)] at hld3
   have HST:=hh (And.intro hst hld3)
   have HQ:=hh (And.intro heq (And.intro one (And.intro hcl' (And.intro hm2 hmr))))
   clear hst hR hmr hld3 heq one hcl' hm2
   refine ww (exec_alloc _ _ 69 z rfl HZ.out.1) ?_
   refine wpList_execS rfl (exec_store_pt _ _ rfl rfl rfl HST.out.1) ?_
   (try simp only [Act.put])
   go_upto_region 6 with fail
   refine wp_region_lit ?_
   refine ex (v:=v3) ?_
   refine wx (exec_load_pt _ _ 69 _ rfl ⟨w2.heap.size,0,none⟩ rfl HST.out.2) ?_
   obtain ⟨i,hi,hz0,hz1,hz2⟩:=info_parts HZ.out.2.1
   have hsl:∀ (act:Act) (o:Oper) (x:Operand),o.op=.buildSlice 155 1 #[(0,x)]->act.eval x=.agg cs'.toArray->(execOp act.eval o).run Tryz.prog w3=.ok (.value (.slice (some ⟨w3.heap.size,0,none⟩) 1 1)) (w3.alloc (.cells cs'.toArray 69)):=by
    intro act o x ho hx
    have:=exec_slicesL act o (w:=w3) [(0,x)] ho [.agg cs'.toArray] (by simp [hx]) (E:=69) (s:=1) Tryz.underlying155 hi hz0 hz1 (by omega) rfl (by omega) (by omega) (by intro y hy; simp at hy; subst hy; simpa [Value.cells] using HQ.out.2.2.1)
    simpa [Value.cells] using this
   refine ww (hsl _ _ _ rfl rfl) ?_
   clear hsl
   have hN:=row_cells (newB w3 (.cells cs'.toArray 69))
   have hmA:Mod N0 wr (w3.alloc (.cells cs'.toArray 69)):=((HQ.out.2.2.2.1.tr HQ.out.2.2.2.2)).alloc _
   have hqA:=EqX.keep (Q':=fun q=>wr.heap.size<=q) HQ.out.1 (HQ.out.2.2.2.2.alloc (.cells cs'.toArray 69)) (fun q e=>e.elim) (fun q _ h=>h) (Nat.le_refl _)
   generalize w3.alloc (.cells cs'.toArray 69)=w4 at hN hmA hqA ⊢
   generalize w3.heap.size=g3 at hN ⊢
   have HN:=hh hN
   have HA:=hh (And.intro hmA hqA)
   have HO:=hh (ownsRow_block HCL.out.own (fun q hq=>hmA.block q (ownsRow_lt HCL.out.own hq) (fun e=>e)))
   clear hN hmA hqA
   refine wpList_append_at _ rfl _ _ 155 rfl 69 i _ 1 24 Tryz.underlying155 hi hz0 hz1 hz2 (by simpa [Value.cells] using HZ.out.2.2) (by decide) v3 rows.length rows.flatten rfl HO.out ⟨g3,0,none⟩ 1 1 cs' rfl (by rw [HQ.out.2.2.1]) HN.out HQ.out.2.1 (by have:=HRL.out; simp only [maxLen]; omega) (by have:=HRL.out; omega) ?_
   intro v6 w6 ho6 hg6 hat6
   have HF:=hh (HCL.out.more (k:=k) HRL.out rfl HS.out.1 HS.out.2.1 HS.out.2.2.1 HS.out.2.2.2 HA.out.1 HQ.out.2.2.1 HA.out.2 ho6 hg6 hat6)
   clear ho6 hg6 hat6 hi hz0 hz1 hz2
   (try simp only [Act.put,ja,jb,jc])
   go_wp2_with fail
   go_roundw
   case rel=>exact ⟨k+1,_,_,by omega,rfl,by simp,by rw [List.length_append,HRL.out]; rfl,HF.out⟩
   case measure=>simp [intOf]; omega
  ·have e:k=len:=by omega
   subst e
   have HF:=hh (HCL.out.fin (t:=155) (cap:=cap) rfl Tryz.underlying155 zc69 (by omega) HM.out)
   rw [HRL.out] at HF
   go_wp2_with fail
   go_ret
   exact ⟨_,rfl,HF.out.1,HF.out.2,HCL.out.mod⟩
set_option maxRecDepth 100000 in
set_option maxHeartbeats 1000000 in
theorem copyOutputs {w0:World} (v:Value) (hr:Rd w0 37 [v]) (w:World) (hm:Mod N0 w0 w):Calls Tryz.prog 9 #[v] w fun e w'=>CpS w0 5 37 w v e w':=by
 obtain ⟨a,len,cap,rfl,hb,_,hel⟩:=hr.slice Tryz.underlying37 zc71 (by omega)
 rw [zbo71] at hb
 obtain ⟨z,hzv,hinf,hzs⟩:=zi71
 have HE:=hh hel
 have HM:=hh hm
 have HZ:=hh (And.intro hzv (And.intro hinf hzs))
 have hb2:len * 136<=140737488351232:=hb
 clear hel hm hzv hinf hzs hr hb
 go_enter Tryz.func9,Tryz.ntmps9
 go_wp2_with fail
 go_loopw [3,4] (fun v3 i wr=>∃ (k:Nat) (v':Value) (rows:List (List Value)),k<=len/\v'=v3/\i=.int .i64 k/\rows.length=k/\CL w0 w 4 71 69 a v' rows wr) (fun _ i _=>len - (intOf i).toNat)
 case atStart=>exact ⟨0,_,[],by omega,rfl,rfl,rfl,CL.nil HM.out⟩
 case round=>
  obtain ⟨k,v3,rows,hk,rfl,rfl,hrl,hcl⟩:=hrel
  have HCL:=hh hcl
  have HRL:=hh hrl
  clear hcl hrl
  by_cases hlt:k<len
  ·obtain ⟨L,off,ds,rfl,hL,hl,hrd,hc⟩:=HE.out k hlt
   have hld:(loadVar 71 ⟨L,off+k * 69,none⟩).run Tryz.prog wr=.ok (.agg ds.toArray) wr:=by
    have:=load_mid (w:=wr) (p:=off+k * 69) (fun j u hu=>((HM.out.tr HCL.out.mod).cell (p:=⟨L,_,none⟩) hL (fun q=>q)).trans (hc j u hu)) 71 0 69 _ Tryz.underlying71 rfl zs71 (by omega)
    rw [List.drop_zero,List.take_of_length_le (by omega),Nat.add_zero] at this
    exact this
   have HLD:=hh hld
   have HCC:=hh (copyOutput ds hrd wr (HM.out.tr HCL.out.mod))
   have HS:=hh (And.intro hL (And.intro hl (And.intro hrd hc)))
   clear hld hL hl hrd hc
   go_wp2_with (refine wpList_exec rfl (exec_load_pt _ _ 71 _ rfl ⟨L,off+k * 69,none⟩ rfl HLD.out) ?_)
   refine HCC.out.mono ?_
   rintro e w2 ⟨cs',rfl,one,heq,hm2⟩
   rename_i hK
   refine hK _ _ ?_
   clear hK
   (try simp only [Act.put,ja,jb,jc])
   have hcl':cs'.length=69:=by
    obtain ⟨_,_,_,h,_⟩:=heq.struct rfl Tryz.underlying71
    rw [h,zc71]
   have hst:=run_storeVar_row (P:=Tryz.prog) (w2.alloc (.cells z 71)) w2.heap.size 71 71 z cs'.toArray (newB w2 _) (by rw [zs71]; simp [hcl']) (by rw [HZ.out.2.2]; simp [hcl']) (by rw [List.all_toArray,List.all_eq_true]; exact one)
   have hR:=setRow_same (cs:=cs'.toArray) (newB w2 (.cells z 71))
   have hmr:Mod N0 w2 ((w2.alloc (.cells z 71)).setRow w2.heap.size cs'.toArray):=Mod_setRow ((Mod.refl _ w2).alloc (.cells z 71)) (b:=w2.heap.size) (fun q=>by omega) _
   generalize (w2.alloc (.cells z 71)).setRow w2.heap.size cs'.toArray=w3 at hst hR hmr
   have hld3:=load_box hR 71 0 69 _ Tryz.underlying71 rfl zs71 (by omega)
   rw [List.drop_zero,List.take_of_length_le (by omega)] at hld3
   have HST:=hh (And.intro hst hld3)
   have HQ:=hh (And.intro heq (And.intro one (And.intro hcl' (And.intro hm2 hmr))))
   clear hst hR hmr hld3 heq one hcl' hm2
   refine ww (exec_alloc _ _ 71 z rfl HZ.out.1) ?_
   refine wpList_execS rfl (exec_store_pt _ _ rfl rfl rfl HST.out.1) ?_
   (try simp only [Act.put])
   go_upto_region 6 with fail
   refine wp_region_lit ?_
   refine ex (v:=v3) ?_
   refine wx (exec_load_pt _ _ 71 _ rfl ⟨w2.heap.size,0,none⟩ rfl HST.out.2) ?_
   obtain ⟨i,hi,hz0,hz1,hz2⟩:=info_parts HZ.out.2.1
   have hsl:∀ (act:Act) (o:Oper) (x:Operand),o.op=.buildSlice 37 1 #[(0,x)]->act.eval x=.agg cs'.toArray->(execOp act.eval o).run Tryz.prog w3=.ok (.value (.slice (some ⟨w3.heap.size,0,none⟩) 1 1)) (w3.alloc (.cells cs'.toArray 71)):=by
    intro act o x ho hx
    have:=exec_slicesL act o (w:=w3) [(0,x)] ho [.agg cs'.toArray] (by simp [hx]) (E:=71) (s:=69) Tryz.underlying37 hi hz0 hz1 (by omega) rfl (by omega) (by omega) (by intro y hy; simp at hy; subst hy; simpa [Value.cells] using HQ.out.2.2.1)
    simpa [Value.cells] using this
   refine ww (hsl _ _ _ rfl rfl) ?_
   clear hsl
   have hN:=row_cells (newB w3 (.cells cs'.toArray 71))
   have hmA:Mod N0 wr (w3.alloc (.cells cs'.toArray 71)):=((HQ.out.2.2.2.1.tr HQ.out.2.2.2.2)).alloc _
   have hqA:=EqX.keep (Q':=fun q=>wr.heap.size<=q) HQ.out.1 (HQ.out.2.2.2.2.alloc (.cells cs'.toArray 71)) (fun q e=>e.elim) (fun q _ h=>h) (Nat.le_refl _)
   generalize w3.alloc (.cells cs'.toArray 71)=w4 at hN hmA hqA ⊢
   generalize w3.heap.size=g3 at hN ⊢
   have HN:=hh hN
   have HA:=hh (And.intro hmA hqA)
   have HO:=hh (ownsRow_block HCL.out.own (fun q hq=>hmA.block q (ownsRow_lt HCL.out.own hq) (fun e=>e)))
   clear hN hmA hqA
   refine wpList_append_at _ rfl _ _ 37 rfl 71 i _ 69 136 Tryz.underlying37 hi hz0 hz1 hz2 (by simpa [Value.cells] using HZ.out.2.2) (by decide) v3 rows.length rows.flatten rfl HO.out ⟨g3,0,none⟩ 1 1 cs' rfl (by rw [HQ.out.2.2.1]) HN.out HQ.out.2.1 (by have:=HRL.out; simp only [maxLen]; omega) (by have:=HRL.out; omega) ?_
   intro v6 w6 ho6 hg6 hat6
   have HF:=hh (HCL.out.more (k:=k) HRL.out rfl HS.out.1 HS.out.2.1 HS.out.2.2.1 HS.out.2.2.2 HA.out.1 HQ.out.2.2.1 HA.out.2 ho6 hg6 hat6)
   clear ho6 hg6 hat6 hi hz0 hz1 hz2
   (try simp only [Act.put,ja,jb,jc])
   go_wp2_with fail
   go_roundw
   case rel=>exact ⟨k+1,_,_,by omega,rfl,by simp,by rw [List.length_append,HRL.out]; rfl,HF.out⟩
   case measure=>simp [intOf]; omega
  ·have e:k=len:=by omega
   subst e
   have HF:=hh (HCL.out.fin (t:=37) (cap:=cap) rfl Tryz.underlying37 zc71 (by omega) HM.out)
   rw [HRL.out] at HF
   go_wp2_with fail
   go_ret
   exact ⟨_,rfl,HF.out.1,HF.out.2,HCL.out.mod⟩
end Go.Proofs.YtckcamlicgdklaaGreat
