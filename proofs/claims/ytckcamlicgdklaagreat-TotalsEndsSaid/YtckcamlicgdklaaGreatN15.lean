/- slices.Grow of nothing. append of a slice of totals to a row of one's own. slices.Concat at totals. value.Merge. -/
import Derived.Test.YtckcamlicgdklaaGreatN13
import Derived.Test.YtckcamlicgdklaaGreatN14
namespace Go.Proofs.YtckcamlicgdklaaGreat
open Go.RowKit Go.Mo Go.Sort
theorem grow_calls (n:Nat) (hn:n<=1000000) (w:World):Calls Tryz.prog 115 #[.slice none 0 0,.int .i64 n] w fun e w'=>∃ v,e=.returned v/\w'.ownsRow 0 78 35 v 0 []/\(∀ k,v.ownBlock=some k->w.heap.size<=k)/\Mod N0 w w':=by
 by_cases h0:n=0
 ·subst h0
  have h:=Proofs.Any8.slices_Grow_room Tryz.growTot none 0 0 0 w (Nat.le_refl _) (by omega) (by omega) (Nat.le_refl _)
  change Calls Tryz.prog 115 _ _ _ at h
  refine h.mono ?_
  rintro e w' ⟨rfl,rfl⟩
  exact ⟨_,rfl,⟨rfl,.inl ⟨rfl,rfl⟩⟩,(fun k hk=>by cases hk),Mod.refl _ _⟩
 ·obtain ⟨i88,hi,hz0,hz1,hz2⟩:=info_parts info88
  have h:=Proofs.Any8.slices_Grow_grow Tryz.growTot i88 (.agg zero88) hi hz0 (by rw [hz1]; omega) none 0 0 n [] w (Nat.le_refl _) (by omega) (by rw [hz2]; omega) (by omega) (by simp) (fun _=>rfl) (fun a ha=>by cases ha)
  change Calls Tryz.prog 115 _ _ _ at h
  refine h.mono ?_
  rintro e w' ⟨rfl,rfl⟩
  have hge:=grownCap_ge w (0+n) 0 78
  have hle:=grownCap_le_maxLen w (0+n) 0 78 (by simp only [maxLen]; omega)
  refine ⟨_,rfl,⟨rfl,.inr ⟨_,_,_,rfl,Nat.zero_le _,newB w.drew _,Nat.zero_le _,hle,?_,by simp⟩⟩,fun k hk=>?_,(Mod.refl _ w).drew.alloc _⟩
  ·have hzs:zero88.size=35:=by simp [zero88]
   simp only [List.toArray,Array.size_append,size_zeroCells,Value.cells,hzs]
   change 0+(0+n - 0) * 35+(grownCap w (0+n) 0 78 - (0+n)) * 35=grownCap w (0+n) 0 78 * 35
   omega
  ·cases hk; exact Nat.le_refl _
end Go.Proofs.YtckcamlicgdklaaGreat
namespace Go.Proofs.YtckcamlicgdklaaGreat
open Go.RowKit Go.Mo Go.Sort
theorem tots_cells {w:World} {L off:Nat} {r:List (Nm×Int)} (h:∀ i x,r[i]?=some x->∀ j u,(totCells x)[j]?=some u->w.cell? ⟨L,off+i * 35+j,none⟩=some u) (j:Nat) (u:Value) (hj:(totsCells r)[j]?=some u):w.cell? ((⟨L,off,none⟩:Addr).add j)=some u:=by
 have e:(⟨L,off,none⟩:Addr).add j=⟨L,off+j,none⟩:=by unfold Addr.add; split <;> simp_all
 rw [e]
 have hlt:j<r.length * 35:=by have:=(List.getElem?_eq_some_iff.1 hj).1; rwa [totsCells_length] at this
 rw [tots_get r j hlt] at hj
 have hi:j / 35<r.length:=by omega
 have hm:j % 35<(totCells r[j / 35]!).length:=by rw [totCells_length]; omega
 have:=h (j / 35) (r[j / 35]!) (by rw [getElem!_pos r _ hi]; exact List.getElem?_eq_getElem hi) (j % 35) u (by rw [← hj,getElem!_pos (totCells r[j / 35]!) (j % 35) hm]; exact List.getElem?_eq_getElem hm)
 rwa [show off+j / 35 * 35+j % 35=off+j by omega] at this
theorem append_tots {w:World} {v rv:Value} {n:Nat} {xs:List Value} {r:List (Nm×Int)} (ty:TypeId) (hown:w.ownsRow 0 78 35 v n xs) (hr:TotsAt w rv r) (hn:n<=1000000) :
  ∃ v' w',(Builtin.append_ #[33,33] ty #[v,rv]).run Tryz.prog w=.ok v' w'/\w'.ownsRow 0 78 35 v' (n+r.length) (xs ++ totsCells r)/\w.grownBy w' v.ownBlock/\(∀ k,v'.ownBlock=some k->v.ownBlock=some k∨w.heap.size<=k):=by
 obtain ⟨i88,hi,hz0,hz1,hz2⟩:=info_parts info88
 obtain ⟨a,c,rfl,hac,hl,h⟩:=hr
 cases a with
|none=>
  have hr0:r=[]:=by
   cases r with
  |nil=>rfl
  |cons x r=>obtain ⟨_,_,h0,_⟩:=h 0 x rfl; cases h0
  subst hr0
  rw [hac rfl]
  exact ⟨v,w,run_append_owned_none (P:=Tryz.prog) (w:=w) 0 33 ty 78 i88 35 Tryz.underlying33 hi v n xs hown,by simpa [totsCells] using hown,⟨rfl,rfl,rfl,Nat.le_refl _,fun _ _ _=>rfl⟩,fun k hk=>.inl hk⟩
|some ad=>
  have hcs:∀ j u,(totsCells r)[j]?=some u->w.cell? (ad.add j)=some u:=by
   intro j u hj
   have hne:r≠[]:=by rintro rfl; simp [totsCells] at hj
   obtain ⟨x0,hx0⟩:∃ x,r[0]?=some x:=by cases r with
   |nil=>exact absurd rfl hne
   |cons x r=>exact ⟨x,rfl⟩
   obtain ⟨L,off,hLo,_⟩:=h 0 x0 hx0
   cases hLo
   refine tots_cells (fun i x hx=>?_) j u hj
   obtain ⟨L',off',e,_,h2⟩:=h i x hx
   cases e
   exact h2
  obtain ⟨v',w',hrun,h1,h2,_,h3⟩:=run_append_at (P:=Tryz.prog) w 33 ty 78 i88 (.agg zero88) 35 64 Tryz.underlying33 hi hz0 hz1 hz2 (by simp [Value.cells,zero88]) (by decide) v n xs hown ad r.length c (totsCells r) (totsCells_length r) hcs (fun u hu=>by
   obtain ⟨x,_,hx⟩:=List.mem_flatMap.1 hu
   exact totCells_one x u hx) (by simp only [maxLen]; omega) (by omega)
  exact ⟨v',w',hrun,h1,h2,h3⟩
/-- v is a slice of slices of totals. -/
def RowsAt (w:World) (v:Value) (rows:List (List (Nm×Int))):Prop:=
 ∃ a c,v=.slice a rows.length c/\rows.length<=1000000/\∀ i r,rows[i]?=some r->∃ L off rv,a=some ⟨L,off,none⟩/\L<w.heap.size/\w.cell? ⟨L,off+i,none⟩=some rv/\TotsAt w rv r
end Go.Proofs.YtckcamlicgdklaaGreat
namespace Go.Proofs.YtckcamlicgdklaaGreat
open Go.RowKit Go.Mo Go.Sort
theorem wpList_append_tots {ops:Array Oper} {rest:List Oper} {o:Oper} {a:Act} {w:World} {Q:Exit->Act->World->Prop} (hgd:o.guard=none) (s x:Operand)
  (ho:o.op=.call {callee:=.builtin .append,args:=#[s,x],argTypes:=#[33,33]}) {v rv:Value} {n:Nat} {xs:List Value} {r:List (Nm×Int)} (hs:a.eval s=v) (hx:a.eval x=rv)
  (hown:w.ownsRow 0 78 35 v n xs) (hr:TotsAt w rv r) (hn:n<=1000000)
  (h:∀ v' w',w'.ownsRow 0 78 35 v' (n+r.length) (xs ++ totsCells r)->w.grownBy w' v.ownBlock->(∀ k,v'.ownBlock=some k->v.ownBlock=some k∨w.heap.size<=k)->wpList Tryz.prog ops Q rest (a.put o.dst v') w'):wpList Tryz.prog ops Q (o :: rest) a w:=by
 refine wpList_plain hgd fun K hK=>?_
 obtain ⟨v',w',hrun,h2,h3,h4⟩:=append_tots o.type hown hr hn
 unfold Oper.wp execOp
 simp only [ho,resolve,invoke,builtin,Sem.run_bind,Sem.run_pure,Result.andThen_ok,List.map_toArray,List.map_cons,List.map_nil,hs,hx,hrun]
 exact hK _ _ (h v' w' h2 h3 h4)
theorem flat_le (rows:List (List (Nm×Int))) (k:Nat):(rows.take k).flatten.length<=rows.flatten.length:=by
 conv=>rhs; rw [← List.take_append_drop k rows,List.flatten_append,List.length_append]
 omega
theorem flat_snoc {rows:List (List (Nm×Int))} {k:Nat} {r:List (Nm×Int)} (h:rows[k]?=some r):(rows.take (k+1)).flatten=(rows.take k).flatten ++ r:=by
 rw [List.take_add_one,h]
 simp
def tlen (rows:List (List (Nm×Int))):Nat:=rows.flatten.length
def ConcatPost (w:World) (ds:List (Nm×Int)) (e:Ending) (w':World):Prop:=
 ∃ v,e=.returned v/\w'.ownsRow 0 78 35 v ds.length (totsCells ds)/\(∀ k,v.ownBlock=some k->w.heap.size<=k)/\Mod N0 w w'
set_option maxRecDepth 100000 in
set_option maxHeartbeats 2000000 in
theorem concat_calls (w:World) (v:Value) (rows:List (List (Nm×Int))) (h:RowsAt w v rows) (hn:rows.flatten.length<=1000000):Calls Tryz.prog 63 #[v] w fun e w'=>ConcatPost w rows.flatten e w':=by
 obtain ⟨a,c,rfl,hl,h⟩:=h
 have HE:=hh h
 clear h
 go_enter Tryz.func63,Tryz.ntmps63
 go_wp2_with fail
 go_loopw [3,11] (fun z i wr=>∃ k:Nat,k<=rows.length/\i=.int .i64 k/\z=.int .i64 (tlen (rows.take k))/\w=wr) (fun _ i _=>rows.length - (intOf i).toNat)
 case atStart=>exact ⟨0,by omega,rfl,rfl,rfl⟩
 case round=>
  obtain ⟨k,hk,rfl,rfl,rfl⟩:=hrel
  by_cases hlt:k<rows.length
  ·obtain ⟨r,hr⟩:∃ r,rows[k]?=some r:=⟨_,List.getElem?_eq_getElem hlt⟩
   obtain ⟨L,off,rv,rfl,hL,hc,ra,rc,rfl,_,hrl,_⟩:=HE.out k r hr
   have hs:=flat_snoc hr
   have h1:tlen (rows.take (k+1))<=rows.flatten.length:=flat_le rows (k+1)
   have hB:tlen (rows.take (k+1))=tlen (rows.take k)+r.length:=by unfold tlen; rw [hs]; simp
   rw [hB] at h1
   have HB:=hh hB
   clear hB hs hr
   generalize tlen (rows.take k)=A at h1 HB ⊢
   have hneg:decide ((A:Int)+(r.length:Int)<0)=false:=by simp; omega
   go_wp2_with fail
   go_roundw
   case rel=>exact ⟨k+1,by omega,by simp,by rw [HB.out]; simp,trivial⟩
   case measure=>simp [intOf]; omega
  ·have e:k=rows.length:=by omega
   subst e
   rw [List.take_length]
   have HG:=hh (grow_calls (tlen rows) hn w)
   go_wp2_with fail
   refine HG.out.mono ?_
   rintro e w2 ⟨v2,rfl,ho2,hb2,hm2⟩
   obtain ⟨va,vn,vc,rfl⟩:=ownsRow_slice ho2
   have H2:=hh (And.intro ho2 (And.intro hb2 hm2))
   clear ho2 hb2 hm2
   go_wp2_with fail
   go_loopw [6,27] (fun v6 i wi=>∃ (k:Nat) (v':Value),k<=rows.length/\v'=v6/\i=.int .i64 k/\wi.ownsRow 0 78 35 v' (tlen (rows.take k)) (totsCells (rows.take k).flatten)/\(∀ q,v'.ownBlock=some q->w.heap.size<=q)/\Mod N0 w wi) (fun _ i _=>rows.length - (intOf i).toNat)
   case atStart=>exact ⟨0,_,by omega,rfl,rfl,H2.out.1,H2.out.2.1,H2.out.2.2⟩
   case round=>
    obtain ⟨k,v6,hk,rfl,rfl,ho,hb,hm⟩:=hrel
    by_cases hlt:k<rows.length
    ·obtain ⟨r,hr⟩:∃ r,rows[k]?=some r:=⟨_,List.getElem?_eq_getElem hlt⟩
     obtain ⟨L,off,rv,rfl,hL,hc,hT⟩:=HE.out k r hr
     have e0:wr.cell? ⟨L,off+k,none⟩=some rv:=(hm.cell (p:=⟨L,_,none⟩) hL (fun q=>q)).trans hc
     have hTT:=hT
     obtain ⟨ra,rc,rfl,_⟩:=hTT
     have h1:tlen (rows.take k)<=rows.flatten.length:=flat_le rows k
     have hs:=flat_snoc hr
     have hB:tlen (rows.take (k+1))=tlen (rows.take k)+r.length:=by unfold tlen; rw [hs]; simp
     have HO:=hh (And.intro ho (And.intro (hT.tr hm) (Nat.le_trans h1 hn)))
     have HS:=hh (And.intro hs (And.intro hB (And.intro hb hm)))
     clear ho hT hs hB hb hm hr h1
     go_wp2_with (refine wpList_append_tots rfl _ _ rfl rfl rfl HO.out.1 HO.out.2.1 HO.out.2.2 ?_; intro v7 w7 ho7 hg7 hat7; have H7:=hh (And.intro ho7 (And.intro hg7 hat7)); clear ho7 hg7 hat7)
     have hm7:Mod N0 w w7:=HS.out.2.2.2.grown H7.out.2.1 (fun q hq hl=>by have:=HS.out.2.2.1 q hq; omega)
     have hb7:∀ q,v7.ownBlock=some q->w.heap.size<=q:=fun q hq=>by
      rcases H7.out.2.2 q hq with h|h
      ·exact HS.out.2.2.1 q h
      ·exact Nat.le_trans HS.out.2.2.2.size h
     have ho7:w7.ownsRow 0 78 35 v7 (tlen (rows.take (k+1))) (totsCells (rows.take (k+1)).flatten):=by
      rw [HS.out.1,HS.out.2.1]
      have:=H7.out.1
      simpa [totsCells] using this
     have H8:=hh (And.intro ho7 (And.intro hb7 hm7))
     clear ho7 hb7 hm7
     go_roundw
     case rel=>exact ⟨k+1,_,by omega,rfl,by simp,H8.out.1,H8.out.2.1,H8.out.2.2⟩
     case measure=>simp [intOf]; omega
    ·have e:k=rows.length:=by omega
     subst e
     rw [List.take_length] at ho
     have H8:=hh (And.intro ho (And.intro hb hm))
     clear ho hb hm
     go_wp2_with fail
     go_ret
     exact ⟨_,rfl,H8.out.1,H8.out.2.1,H8.out.2.2⟩
end Go.Proofs.YtckcamlicgdklaaGreat
namespace Go.Proofs.YtckcamlicgdklaaGreat
open Go.RowKit Go.Mo Go.Sort
theorem zv88:∃ z:Array Value,(∀ w,(zeroValue 78).run Tryz.prog w=.ok (.agg z) w)/\z.size=35:=⟨_,Tryz.zeroValue78,rfl⟩
theorem size88:(Tryz.prog.info? 78).map (·.size)=some 35:=by kernel_rfl
theorem totCells_all (x:Nm×Int):(totCells x).toArray.all (·.oneCell')=true:=by
 rw [List.all_toArray,List.all_eq_true]
 exact totCells_one x
theorem tot_wide {w:World} {g:Nat} {x:Nm×Int} {T:TypeId} (h:w.heap[g]?=some (.cells (totCells x).toArray T (0,0))):(loadVar 48 ⟨g,33,none⟩).run Tryz.prog w=.ok (.agg #[.int .i64 (hiW x.2),.int .u64 (loW x.2)]) w:=
 run_loadVar_mid w g 33 48 [.int .i64 (hiW x.2),.int .u64 (loW x.2)] _ (fun j v hv=>by
  rw [cellB h,List.getElem?_toArray]
  have hl:=x.1.len
  simp only [totCells]
  rw [List.getElem?_append_right (by simp [nmCells,hl]),show 33+j - (nmCells x.1).length=j by simp [nmCells,hl]]
  exact hv) Tryz.underlying48 rfl (by rw [size57]; rfl)
set_option maxRecDepth 100000 in
set_option maxHeartbeats 4000000 in
theorem merge_calls (w:World) (v:Value) (rows:List (List (Nm×Int))) (h:RowsAt w v rows) (hn:rows.flatten.length<=1000000) (hbk:(bookA [] rows.flatten).length<=1000000):Calls Tryz.prog 39 #[v] w fun e w'=>TotsPost w (bookA [] rows.flatten) e w':=by
 have hm1:Mod N0 w (w.alloc (.map #[] 0)):=(Mod.refl _ w).alloc _
 have hb1:=newB w (.map #[] 0)
 have hr1:RowsAt (w.alloc (.map #[] 0)) v rows:=by
  obtain ⟨a,c,rfl,hl,h⟩:=h
  refine ⟨a,c,rfl,hl,fun i r hr=>?_⟩
  obtain ⟨L,off,rv,rfl,hL,hc,hT⟩:=h i r hr
  exact ⟨L,off,rv,rfl,Nat.lt_of_lt_of_le hL hm1.size,(hm1.cell (p:=⟨L,_,none⟩) hL (fun q=>q)).trans hc,hT.tr hm1⟩
 have HCC:=hh (concat_calls _ v rows hr1 hn)
 have H1:=hh (And.intro hm1 hb1)
 have HB:=hh hbk
 obtain ⟨z88,hz88,hs88⟩:=zv88
 have HZ:=hh (And.intro hz88 hs88)
 obtain ⟨va,vc,rfl,_⟩:=h
 have hmk:∀ W:World,(Instr.makeMap 168 none).run Tryz.prog W=.ok (.map (some W.heap.size)) (W.alloc (.map #[] 0)):=fun W=>by kernel_rfl
 clear hm1 hb1 hr1 hbk hz88 hs88
 generalize rows.flatten=ds at hn HCC HB ⊢
 go_enter Tryz.func39,Tryz.ntmps39
 go_wp2_with fail
 refine HCC.out.mono ?_
 rintro e w2 ⟨u,rfl,ho,hub,hm2⟩
 have hT:=tots_at ho hn
 obtain ⟨ua,uc,rfl,_,_,hel⟩:=hT
 have HE:=hh hel
 have H2:=hh (And.intro ((hm2.block _ (ltB H1.out.2) (fun q=>q)).trans H1.out.2) (H1.out.1.tr hm2))
 have HUB:=hh hub
 clear ho hub hm2 hel
 go_wp2_with fail
 go_loopw [10] (fun i wr=>∃ k:Nat,k<=ds.length/\i=.int .i64 k/\wr.heap[w.heap.size]?=some (nmap (wv (bookA [] (ds.take k))))/\Mod N0 w wr/\Mod (fun q=>q=w.heap.size) w2 wr) (fun i _=>ds.length - (intOf i).toNat)
 case atStart=>exact ⟨0,by omega,rfl,by simpa [bookA,wv,nmap,entsN] using H2.out.1,H2.out.2,Mod.refl _ w2⟩
 case round=>
  obtain ⟨k,hk,rfl,hB,hm,hm2⟩:=hrel
  by_cases hlt:k<ds.length
  ·obtain ⟨x,hx⟩:∃ x,ds[k]?=some x:=⟨_,List.getElem?_eq_getElem hlt⟩
   obtain ⟨L,off,rfl,hL,hcs⟩:=HE.out k x hx
   have hLne:L≠w.heap.size:=by have:=HUB.out L rfl; simp at this; omega
   have hl88:(loadVar 78 ⟨L,off+k * 35,none⟩).run Tryz.prog wr=.ok (.agg (totCells x).toArray) wr:=
    load88_at (fun j u hu=>(hm2.cell (p:=⟨L,_,none⟩) hL hLne).trans (hcs j u hu))
   have hZ:=newB wr (.cells z88 78)
   have hst:(storeVar 78 ⟨wr.heap.size,0,none⟩ (.agg (totCells x).toArray)).run Tryz.prog (wr.alloc (.cells z88 78))=.ok () ((wr.alloc (.cells z88 78)).setRow wr.heap.size (totCells x).toArray):=
    run_storeVar_row (P:=Tryz.prog) _ wr.heap.size 78 78 z88 (totCells x).toArray hZ (by rw [size88]; simp [totCells_length]) (by rw [HZ.out.2]; simp [totCells_length]) (totCells_all x)
   have hR:=setRow_same (cs:=(totCells x).toArray) hZ
   have hmr:Mod N0 wr ((wr.alloc (.cells z88 78)).setRow wr.heap.size (totCells x).toArray):=Mod_setRow ((Mod.refl _ wr).alloc (.cells z88 78)) (b:=wr.heap.size) (fun q=>by omega) _
   generalize (wr.alloc (.cells z88 78)).setRow wr.heap.size (totCells x).toArray=w3 at hst hR hmr
   have hB3:=(hmr.block _ (ltB hB) (fun q=>q)).trans hB
   have HLD:=hh (And.intro hl88 (And.intro (tot_policy hR) (tot_wide hR)))
   have HST:=hh hst
   have s32:=tot_name hR
   have HAD:=hh (add_calls w3 w.heap.size _ hB3 x.1 x.2)
   have HM:=hh (And.intro (hm.tr hmr) (hm2.tr (hmr.any (S:=fun q=>q=w.heap.size))))
   have HX:=hh hx
   have hsz:=hm.size
   clear hl88 hst hR hmr hB3 hcs hZ hB hm hm2 hx
   unfold wideV at HAD
   go_upto_region 4 with fail
   refine wp_region_lit ?_
   refine ex (v:=.pointer (some ⟨L,off+k * 35,none⟩)) ?_
   refine wx (exec_load_at _ _ 78 _ rfl ⟨L,off+k * 35,none⟩ rfl HLD.out.1) ?_
   refine ww (exec_alloc _ _ 78 z88 rfl HZ.out.1) ?_
   refine wpList_execS rfl (exec_store _ _ rfl rfl rfl HST.out) ?_
   (try simp only [Act.put])
   go_upto_region 5 with fail
   refine wp_region_lit ?_
   refine ex (v:=.map (some w.heap.size)) ?_
   refine ex (v:=.pointer (some ⟨wr.heap.size,0,none⟩)) ?_
   refine wx (exec_load_row _ _ 27 _ rfl wr.heap.size rfl _ HLD.out.2.1) ?_
   refine ex (v:=.pointer (some ⟨wr.heap.size,32,none⟩)) ?_
   refine ex (v:=.string ⟨x.1.name.toArray⟩) ?_
   refine wx (exec_build93 _ _ rfl x.1 rfl rfl) ?_
   refine ex (v:=.pointer (some ⟨wr.heap.size,33,none⟩)) ?_
   refine wx (exec_load_at _ _ 48 _ rfl ⟨wr.heap.size,33,none⟩ rfl HLD.out.2.2) ?_
   go_wp2_with fail
   refine HAD.out.mono ?_
   rintro e w5 ⟨rfl,hB5,hm5⟩
   rw [← bookA_snoc HX.out] at hB5
   have H5:=hh (And.intro hB5 (And.intro (HM.out.1.trans hm5 (fun q e hl=>by omega)) (HM.out.2.trans hm5 (fun q e hl=>e))))
   clear hB5 hm5
   go_wp2_with fail
   go_roundw
   case rel=>exact ⟨k+1,by omega,by simp,H5.out.1,H5.out.2.1,H5.out.2.2⟩
   case measure=>simp [intOf]; omega
  ·have e:k=ds.length:=by omega
   subst e
   rw [List.take_length] at hB
   have HT:=hh (totals_ok wr w.heap.size _ hB HB.out)
   have HM:=hh hm
   clear hB hm hm2
   go_wp2_with fail
   refine HT.out.mono ?_
   rintro e w6 ⟨u,d,rfl,h1,h2,h3,h4,h5⟩
   have H6:=hh (And.intro h1 (And.intro h2 (And.intro h3 (And.intro h4 h5))))
   clear h1 h2 h3 h4 h5
   go_wp2_with fail
   go_ret
   exact ⟨u,d,rfl,H6.out.1,H6.out.2.1,H6.out.2.2.1,fun k hk=>Nat.lt_of_le_of_lt HM.out.size (H6.out.2.2.2.1 k hk),HM.out.tr H6.out.2.2.2.2⟩
end Go.Proofs.YtckcamlicgdklaaGreat
