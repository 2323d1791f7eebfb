/- The references of chapter 5: Merge. The references of chapter 27: values. -/
import Derived.Test.YtckcamlicgdklaaGreatN38
namespace Go.Proofs.YtckcamlicgdklaaGreat
open Go.RowKit Go.Mo Go.Sort
def putAll (l:Tl):Tl:=l.foldl putL []
theorem putAll_snoc (l:Tl) (x:Nm×Int):putAll (l ++ [x])=putL (putAll l) x:=by unfold putAll; rw [List.foldl_append]; rfl
theorem putAll_len:∀ (l r:Tl),(l.foldl putL r).length<=r.length+l.length
|[],r=>by simp
|x :: l,r=>by
  have h:=putAll_len l (putL r x)
  have h2:=putL_len r x
  rw [List.foldl_cons,List.length_cons]
  omega
theorem putAll_le (l:Tl):(putAll l).length<=l.length:=by have:=putAll_len l []; unfold putAll; simpa using this
theorem OutAt.lift {w wr w':World} {v:Value} {ds:Tl} (h:OutAt wr w' v ds) (hs:w.heap.size<=wr.heap.size):OutAt w w' v ds:=⟨h.1,fun k hk=>by have:=h.2 k hk; omega⟩
set_option maxRecDepth 100000 in
theorem refMerge_calls (w:World) (v:Value) (rows:List Tl) (h:RowsAt w v rows) (hn:rows.flatten.length<=900000):Calls Tryz.prog 40 #[v] w fun e w'=>∃ v',e=.returned v'/\OutAt w w' v' ((putAll rows.flatten).filter (nzW ·.2))/\Mod N0 w w':=by
 obtain ⟨a,c,rfl,hl,hel⟩:=h
 have HE:=hh hel
 have HN0:=hh hn
 clear hel hn
 go_enter Tryz.func40,Tryz.ntmps40
 go_wp2_with fail
 go_loopw [3,4] (fun v3 i wr=>∃ (k:Nat) (v':Value) (ts:Tl),k<=rows.length/\v'=v3/\i=.int .i64 k/\putAll (rows.take k).flatten=ts/\OutAt w wr v' ts/\Mod N0 w wr) (fun _ i _=>rows.length - (intOf i).toNat)
 case atStart=>exact ⟨0,_,[],by omega,rfl,rfl,rfl,OutAt.nil w w,Mod.refl _ w⟩
 case round=>
  obtain ⟨k,v3,ts,hk,rfl,rfl,hts,ho,hm⟩:=hrel
  have HO3:=hh ho
  have HM:=hh hm
  have HTS:=hh hts
  clear ho hm hts
  by_cases hlt:k<rows.length
  ·obtain ⟨r,hr⟩:∃ r,rows[k]?=some r:=⟨_,List.getElem?_eq_getElem hlt⟩
   obtain ⟨L,off,rv,rfl,hL,hcell,hrt⟩:=HE.out k r hr
   obtain ⟨a2,c2,rfl,_,hl2,hel2⟩:=id hrt
   have HC:=hh (And.intro hL hcell)
   have HE2:=hh hel2
   have HFS:=hh (flat_snoc hr)
   have hfl:(rows.take (k+1)).flatten.length<=900000:=Nat.le_trans (flat_le rows (k+1)) HN0.out
   rw [HFS.out,List.length_append] at hfl
   have HFL:=hh hfl
   clear hcell hrt hel2 hr hfl
   go_wp2_with fail
   go_loopw [3,5] (fun v3 i wi=>∃ (m:Nat) (v':Value) (ts:Tl),m<=r.length/\v'=v3/\i=.int .i64 m/\putAll ((rows.take k).flatten ++ r.take m)=ts/\OutAt w wi v' ts/\Mod N0 w wi) (fun _ i _=>r.length - (intOf i).toNat)
   case atStart=>exact ⟨0,_,_,by omega,rfl,rfl,by rw [List.take_zero,List.append_nil],by rw [HTS.out]; exact HO3.out,HM.out⟩
   case round=>
    obtain ⟨m,v4,us,hm2,rfl,rfl,hus,ho,hmi⟩:=hrel
    have HO4:=hh ho
    have HMI:=hh hmi
    have HUS:=hh hus
    have HUL:=hh (show us.length<=900000 by have h1:=putAll_le ((rows.take k).flatten ++ r.take m); rw [hus,List.length_append] at h1; have:=HFL.out; simp at h1 this; omega)
    clear ho hmi hus
    have s0:=(HMI.out.cell (p:=⟨L,_,none⟩) HC.out.1 (fun q=>q)).trans HC.out.2
    by_cases hlt2:m<r.length
    ·obtain ⟨x,hx⟩:∃ x,r[m]?=some x:=⟨_,List.getElem?_eq_getElem hlt2⟩
     obtain ⟨L2,off2,rfl,hL2,hc2⟩:=HE2.out m x hx
     have HLD:=hh (tot_loads (w:=wr) (fun j u hu=>(HMI.out.cell (p:=⟨L2,_,none⟩) hL2 (fun q=>q)).trans (hc2 j u hu)))
     have HCL:=hh (put_calls wr v4 us x (tots_at HO4.out.1 (by have:=HUL.out; omega)) HUL.out)
     have HX:=hh hx
     clear hc2 hx
     go_wp2_with (refine wpList_exec rfl (exec_load_pt _ _ 78 _ rfl ⟨L2,off2+m * 35,none⟩ rfl HLD.out.2.2.2) ?_)
     refine HCL.out.mono ?_
     rintro e w5 ⟨v5,rfl,ho5,hm5⟩
     have HF:=hh (And.intro (ho5.lift HMI.out.size) (HMI.out.tr hm5))
     clear ho5 hm5
     go_wp2_with fail
     go_roundw
     case rel=>exact ⟨m+1,_,_,by omega,rfl,by simp,by rw [List.take_add_one,HX.out,← List.append_assoc]; simp only [Option.toList]; rw [putAll_snoc,HUS.out],HF.out.1,HF.out.2⟩
     case measure=>simp [intOf]; omega
    ·have e:m=r.length:=by omega
     subst e
     have h1:=HUS.out
     rw [List.take_length] at h1
     have HU1:=hh h1
     clear h1
     go_wp2_with fail
     exact ⟨⟨k+1,_,_,by omega,rfl,by simp,by rw [HFS.out,HU1.out],HO4.out,HMI.out⟩,by simp [intOf]; omega⟩
  ·have e:k=rows.length:=by omega
   subst e
   have h1:=HTS.out
   rw [List.take_length] at h1
   have h2:=putAll_le rows.flatten
   rw [h1] at h2
   have HT1:=hh h1
   have HCL:=hh (some_calls wr v3 ts (tots_at HO3.out.1 (by have:=HN0.out; omega)) (by have:=HN0.out; omega))
   clear h1 h2
   go_wp2_with fail
   refine HCL.out.mono ?_
   rintro e w5 ⟨v5,rfl,ho5,hm5⟩
   have HF:=hh (And.intro (ho5.lift HM.out.size) (HM.out.tr hm5))
   clear ho5 hm5
   go_wp2_with fail
   go_ret
   exact ⟨_,rfl,by rw [HT1.out]; exact HF.out.1,HF.out.2⟩
end Go.Proofs.YtckcamlicgdklaaGreat
namespace Go.Proofs.YtckcamlicgdklaaGreat
open Go.RowKit Go.Mo Go.Sort
theorem RowV.nil (w wr:World):RowV w wr (.slice none 0 0) []:=⟨fun x hx=>by simp at hx,⟨rfl,.inl ⟨rfl,rfl⟩⟩,fun k hk=>by cases hk⟩
theorem RowV.more {w wr wa w6:World} {v v6:Value} {l:List (Val×Value)} {x:Val} {av:Value} (h:RowV w wr v l) (hw:Mod N0 w wr) (hm:Mod N0 wr wa) (hx:In64 x.coin/\AssetsAt w av x.assets)
  (ho:w6.ownsRow 0 65 2 v6 (l.length+1) (valsCells l ++ [.int .i64 x.coin,av])) (hg:wa.grownBy w6 v.ownBlock) (hat:∀ q,v6.ownBlock=some q->v.ownBlock=some q∨wa.heap.size<=q):RowV w w6 v6 (l ++ [(x,av)])/\Mod N0 w w6:=by
 refine ⟨⟨fun y hy=>?_,?_,fun q hq=>?_⟩,?_⟩
 ·rcases List.mem_append.1 hy with h1|h1
  ·exact h.1 y h1
  ·simp at h1; subst h1
   exact hx
 ·simpa [valsCells] using ho
 ·rcases hat q hq with h1|h1
  ·exact h.2.2 q h1
  ·have:=hw.size
   have:=hm.size
   omega
 ·exact (hw.tr hm).trans ((Mod.refl (fun q=>v.ownBlock=some q) wa).grown hg (fun q hq _=>hq)) (fun q e hl=>by have:=h.2.2 q e; omega)
theorem zs65':(Tryz.prog.info? 65).map (·.size)=some 2:=by kernel_rfl
set_option maxRecDepth 100000 in
/-- An entry in cells at L, o: its address, its bundle are read. -/
theorem ent_loads {w:World} {L o:Nat} {x:Ent} {a:Option Addr} {c:Nat} (h:∀ j u,(entCells x a c)[j]?=some u->w.cell? ⟨L,o+j,none⟩=some u) :
  (loadVar 41 ⟨L,o+33,none⟩).run Tryz.prog w=.ok (.agg (adrCells x.addr).toArray) w/\(loadVar 65 ⟨L,o+66,none⟩).run Tryz.prog w=.ok (.agg #[.int .i64 x.val.coin,.slice a x.val.assets.length c]) w:=by
 have h1:=x.hpre
 have h2:x.adr.length=33:=x.hadr
 have h3:=entCells_length x a c
 constructor
 ·have:=load_mid h 41 33 33 _ Tryz.underlying41 rfl zs41 (by omega)
  have e:((entCells x a c).drop 33).take 33=adrCells x.addr:=by
   have h4:(adrCells x.addr).length=33:=adrCells_length x.addr
   simp [entCells,outCells,Ent.adr,h1,h4]
  rwa [e] at this
 ·have:=load_mid h 65 66 2 _ Tryz.underlying65 rfl zs65' (by omega)
  have e:((entCells x a c).drop 66).take 2=[.int .i64 x.val.coin,.slice a x.val.assets.length c]:=by
   have e1:List.drop 66 x.pre=[]:=List.drop_of_length_le (by omega)
   simp [entCells,outCells,List.drop_append,h1,h2,e1]
  rwa [e] at this
set_option maxRecDepth 100000 in
set_option maxHeartbeats 1000000 in
theorem values_all (w:World) (v:Value) (es:List Ent) (h:EntsAt w v es) (t:Adr):Calls Tryz.prog 33 #[v,.bool false,.agg (adrCells t).toArray] w fun e w'=>∃ v' l,e=.returned v'/\l.map (·.1)=((es.filter fun _=>true).map (·.val))/\RowV w w' v' l/\Mod N0 w w':=by
 obtain ⟨a,c,rfl,hlen,hel⟩:=h
 obtain ⟨p,hp⟩:∃ p:Ent->Bool,p=fun _=>true:=⟨_,rfl⟩
 rw [← hp]
 have hpx:∀ x,p x=true:=fun x=>by rw [hp]
 have hbx:=newB w (.cells (adrCells t).toArray 41)
 have hmx:=(Mod.refl N0 w).alloc (.cells (adrCells t).toArray 41)
 have HE:=hh hel
 have HPX:=hh hpx
 clear hel hp hpx
 go_enter Tryz.func33,Tryz.ntmps33
 go_upto_region 0 with fail
 refine wp_region_lit ?_
 refine ww (exec_box _ _ 41 (adrCells t) rfl rfl) ?_
 generalize w.alloc (.cells (adrCells t).toArray 41)=w1 at hbx hmx ⊢
 have HB:=hh (And.intro hbx hmx)
 clear hbx hmx
 go_wp2_with fail
 go_loopw [7,8] (fun v7 i wr=>∃ (k:Nat) (v':Value) (l:List (Val×Value)),k<=es.length/\v'=v7/\i=.int .i64 k/\l.map (·.1)=((es.take k).filter p).map (·.val)/\RowV w wr v' l/\wr.heap[w.heap.size]?=some (.cells (adrCells t).toArray 41 (0,0))/\(∀ q,v'.ownBlock=some q->q≠w.heap.size)/\Mod N0 w wr) (fun _ i _=>es.length - (intOf i).toNat)
 case atStart=>exact ⟨0,_,[],by omega,rfl,rfl,rfl,RowV.nil w w1,HB.out.1,(fun q h=>by cases h),HB.out.2⟩
 case round=>
  obtain ⟨k,v7,l,hk,rfl,rfl,hl,hr,hbt,hne,hm⟩:=hrel
  have HL:=hh hl
  have HR:=hh (And.intro hr (And.intro hbt (And.intro hne hm)))
  have HLK:=hh (show l.length<=k by
   have h1:=congrArg List.length hl
   simp only [List.length_map] at h1
   have h2:=List.length_filter_le p (es.take k)
   rw [List.length_take] at h2
   omega)
  clear hl hr hbt hne hm
  by_cases hlt:k<es.length
  ·obtain ⟨x,hx⟩:∃ x,es[k]?=some x:=⟨_,List.getElem?_eq_getElem hlt⟩
   obtain ⟨hco,L,off,a2,c2,rfl,hL,hAs,hcs⟩:=HE.out k x hx
   have HLD:=hh (fun (W:World) (hW:Mod N0 wr W)=>ent_loads (w:=W) (fun j u hu=>((HR.out.2.2.2.tr hW).cell (p:=⟨L,_,none⟩) hL (fun q=>q)).trans (hcs j u hu)))
   have HTF:=hh (take_filter (p:=p) hx)
   have HX:=hh (And.intro hco hAs)
   clear hcs hx hco hAs hL
   go_upto_region 5 with fail
   refine wp_region_held_drew (S:=fun W=>Mod N0 wr W) (by kernel_rfl) (Mod.refl _ wr).drew (fun hH=>?_)
   refine tq (i:=0) (oi:=⟨some 15,.move (.tmp 1),4, "ref.go:14",#[],none⟩) (v:=.bool false) hH ?_
   refine tq (i:=1) (oi:=⟨some 16,.unOp .not 4 (.tmp 15),4, "ref.go:14",#[⟨0,.data⟩],none⟩) (v:=.bool true) hH ?_
   refine tq (i:=2) (oi:=⟨some 17,.move (.tmp 16),4, "ref.go:14",#[⟨1,.data⟩],none⟩) (v:=.bool true) hH ?_
   refine tn (i:=3) (oi:=⟨some 18,.move (.tmp 0),28, "ref.go:14",#[⟨2,.guard⟩],some (2,false)⟩) (v:=undef) hH ?_
   refine tn (i:=4) (oi:=⟨some 19,.move (.tmp 8),3, "ref.go:14",#[⟨2,.guard⟩],some (2,false)⟩) (v:=undef) hH ?_
   refine tn (i:=5) (oi:=⟨some 20,.indexAddr 28 (.tmp 18) (.tmp 19),0, "ref.go:14",#[⟨3,.data⟩,⟨4,.data⟩,⟨2,.guard⟩],some (2,false)⟩) (v:=undef) hH ?_
   refine tn (i:=6) (oi:=⟨some 21,.fieldAddr 73 (.tmp 20) 1,0, "ref.go:14",#[⟨5,.data⟩,⟨2,.guard⟩],some (2,false)⟩) (v:=undef) hH ?_
   refine tn (i:=7) (oi:=⟨some 22,.fieldAddr 71 (.tmp 21) 0,0, "ref.go:14",#[⟨6,.data⟩,⟨2,.guard⟩],some (2,false)⟩) (v:=undef) hH ?_
   refine tn (i:=8) (oi:=⟨some 23,.load 41 (.tmp 22),41, "ref.go:14",#[⟨7,.data⟩,⟨2,.guard⟩],some (2,false)⟩) (v:=undef) hH ?_
   refine tn (i:=9) (oi:=⟨some 24,.load 41 (.tmp 5),41, "ref.go:14",#[⟨2,.guard⟩],some (2,false)⟩) (v:=undef) hH ?_
   refine tn (i:=10) (oi:=⟨some 25,.binOp .eql 41 (.tmp 23) (.tmp 24) 41,4, "ref.go:14",#[⟨8,.data⟩,⟨9,.data⟩,⟨2,.guard⟩],some (2,false)⟩) (v:=undef) hH ?_
   refine tq (i:=11) (oi:=⟨some 26,.pick (.tmp 17) (.const (.bool true)) (.tmp 25),4, "ref.go:14",#[⟨2,.data⟩,⟨10,.data⟩],none⟩) (v:=.bool true) hH ?_
   refine wpAnyH_done (by kernel_rfl) ?_ _
   have HR2:=hh (And.intro (HR.out.1.tr ((Mod.refl N0 wr).drew)) (And.intro ((((Mod.refl N0 wr).drew).block _ (ltB HR.out.2.1) (fun q=>q)).trans HR.out.2.1) (And.intro HR.out.2.2.1 (HR.out.2.2.2.drew))))
   have HLD2:=hh (HLD.out wr.drew ((Mod.refl _ wr).drew))
   clear HR HLD
   have HP:=hh (HPX.out x)
   obtain ⟨i43,hi,hz0,hz1,hz2⟩:=info_parts info43
   have HII:=hh (And.intro hi (And.intro hz0 (And.intro hz1 hz2)))
   clear hi hz0 hz1 hz2
   go_upto_region 6 with fail
   refine wp_region_lit ?_
   refine ex (v:=v7) ?_
   refine ex (v:=.slice (some ⟨L,off,none⟩) es.length c) ?_
   refine ex (v:=.int .i64 k) ?_
   refine ex (v:=.pointer (some ⟨L,off+k * 102,none⟩)) ?_
   refine ex (v:=.pointer (some ⟨L,off+k * 102+33,none⟩)) ?_
   refine ex (v:=.pointer (some ⟨L,off+k * 102+66,none⟩)) ?_
   refine wx (exec_load_pt _ _ 65 _ rfl ⟨L,off+k * 102+66,none⟩ rfl HLD2.out.2) ?_
   refine ww (exec_val1 _ _ rfl _ _ rfl) ?_
   have hN:=row_cells (cs:=[.int .i64 x.val.coin,.slice a2 x.val.assets.length c2]) (newB wr.drew (.cells #[.int .i64 x.val.coin,.slice a2 x.val.assets.length c2] 65))
   have hmA:=(Mod.refl N0 wr.drew).alloc (.cells #[.int .i64 x.val.coin,.slice a2 x.val.assets.length c2] 65)
   generalize wr.drew.alloc (.cells #[.int .i64 x.val.coin,.slice a2 x.val.assets.length c2] 65)=wa at hN hmA ⊢
   generalize wr.drew.heap.size=ga at hN ⊢
   have HN:=hh (And.intro hN hmA)
   have HO:=hh (HR2.out.1.tr hmA)
   clear hN hmA
   refine wpList_append_at _ rfl _ _ 92 rfl 65 i43 _ 2 32 Tryz.underlying92 HII.out.1 HII.out.2.1 HII.out.2.2.1 HII.out.2.2.2 rfl (by decide) v7 l.length (valsCells l) rfl HO.out.2.1 ⟨ga,0,none⟩ 1 1 [.int .i64 x.val.coin,.slice a2 x.val.assets.length c2] rfl rfl HN.out.1 (by intro u hu; simp only [List.mem_cons,List.not_mem_nil,or_false] at hu; rcases hu with rfl|rfl <;> rfl) (by have:=HLK.out; simp only [maxLen]; omega) (by have:=HLK.out; omega) ?_
   intro v6 w6 ho6 hg6 hat6
   have hF:=RowV.more HO.out (HR2.out.2.2.2.tr HN.out.2) (Mod.refl _ _) HX.out ho6 hg6 hat6
   have hmg:=(HN.out.2.any (S:=fun q=>v7.ownBlock=some q)).trans ((Mod.refl (fun q=>v7.ownBlock=some q) wa).grown hg6 (fun q hq _=>hq)) (fun q e _=>e)
   have HF:=hh (And.intro hF.1 (And.intro ((hmg.block _ (ltB HR2.out.2.1) (fun e=>HR2.out.2.2.1 _ e rfl)).trans HR2.out.2.1) (And.intro (show ∀ q,v6.ownBlock=some q->q≠w.heap.size from fun q hq=>by
    rcases hat6 q hq with e|e
    ·exact HR2.out.2.2.1 q e
    ·have h1:=ltB HR2.out.2.1
     have h2:=HN.out.2.size
     omega) hF.2)))
   clear ho6 hg6 hat6 hF hmg
   (try simp only [Act.put,ja,jb,jc])
   go_wp2_with fail
   go_roundw
   case rel=>exact ⟨k+1,_,_,by omega,rfl,by simp,by rw [HTF.out,HP.out]; simpa using HL.out,HF.out.1,HF.out.2.1,HF.out.2.2.1,HF.out.2.2.2⟩
   case measure=>simp [intOf]; omega
  ·have e:k=es.length:=by omega
   subst e
   have hl:=HL.out
   rw [List.take_length] at hl
   have HL1:=hh hl
   clear hl
   go_wp2_with fail
   go_ret
   exact ⟨_,l,rfl,HL1.out,HR.out.1,HR.out.2.2.2⟩
set_option maxRecDepth 100000 in
set_option maxHeartbeats 1000000 in
theorem values_one (w:World) (v:Value) (es:List Ent) (h:EntsAt w v es) (t:Adr):Calls Tryz.prog 33 #[v,.bool true,.agg (adrCells t).toArray] w fun e w'=>∃ v' l,e=.returned v'/\l.map (·.1)=((es.filter fun x=>decide (x.addr=t)).map (·.val))/\RowV w w' v' l/\Mod N0 w w':=by
 obtain ⟨a,c,rfl,hlen,hel⟩:=h
 obtain ⟨p,hp⟩:∃ p:Ent->Bool,p=fun x=>decide (x.addr=t):=⟨_,rfl⟩
 rw [← hp]
 have hpx:∀ x,p x=decide (x.addr=t):=fun x=>by rw [hp]
 have hbx:=newB w (.cells (adrCells t).toArray 41)
 have hmx:=(Mod.refl N0 w).alloc (.cells (adrCells t).toArray 41)
 have HE:=hh hel
 have HPX:=hh hpx
 clear hel hp hpx
 go_enter Tryz.func33,Tryz.ntmps33
 go_upto_region 0 with fail
 refine wp_region_lit ?_
 refine ww (exec_box _ _ 41 (adrCells t) rfl rfl) ?_
 generalize w.alloc (.cells (adrCells t).toArray 41)=w1 at hbx hmx ⊢
 have HB:=hh (And.intro hbx hmx)
 clear hbx hmx
 go_wp2_with fail
 go_loopw [7,8] (fun v7 i wr=>∃ (k:Nat) (v':Value) (l:List (Val×Value)),k<=es.length/\v'=v7/\i=.int .i64 k/\l.map (·.1)=((es.take k).filter p).map (·.val)/\RowV w wr v' l/\wr.heap[w.heap.size]?=some (.cells (adrCells t).toArray 41 (0,0))/\(∀ q,v'.ownBlock=some q->q≠w.heap.size)/\Mod N0 w wr) (fun _ i _=>es.length - (intOf i).toNat)
 case atStart=>exact ⟨0,_,[],by omega,rfl,rfl,rfl,RowV.nil w w1,HB.out.1,(fun q h=>by cases h),HB.out.2⟩
 case round=>
  obtain ⟨k,v7,l,hk,rfl,rfl,hl,hr,hbt,hne,hm⟩:=hrel
  have HL:=hh hl
  have HR:=hh (And.intro hr (And.intro hbt (And.intro hne hm)))
  have HLK:=hh (show l.length<=k by
   have h1:=congrArg List.length hl
   simp only [List.length_map] at h1
   have h2:=List.length_filter_le p (es.take k)
   rw [List.length_take] at h2
   omega)
  clear hl hr hbt hne hm
  by_cases hlt:k<es.length
  ·obtain ⟨x,hx⟩:∃ x,es[k]?=some x:=⟨_,List.getElem?_eq_getElem hlt⟩
   obtain ⟨hco,L,off,a2,c2,rfl,hL,hAs,hcs⟩:=HE.out k x hx
   have HLD:=hh (fun (W:World) (hW:Mod N0 wr W)=>ent_loads (w:=W) (fun j u hu=>((HR.out.2.2.2.tr hW).cell (p:=⟨L,_,none⟩) hL (fun q=>q)).trans (hcs j u hu)))
   have HTF:=hh (take_filter (p:=p) hx)
   have HX:=hh (And.intro hco hAs)
   clear hcs hx hco hAs hL
   go_upto_region 5 with fail
   refine wp_region_held_drew (S:=fun W=>Mod N0 wr W) (by kernel_rfl) (Mod.refl _ wr).drew (fun hH=>?_)
   refine tq (i:=0) (oi:=⟨some 15,.move (.tmp 1),4, "ref.go:14",#[],none⟩) (v:=.bool true) hH ?_
   refine tq (i:=1) (oi:=⟨some 16,.unOp .not 4 (.tmp 15),4, "ref.go:14",#[⟨0,.data⟩],none⟩) (v:=.bool false) hH ?_
   refine tq (i:=2) (oi:=⟨some 17,.move (.tmp 16),4, "ref.go:14",#[⟨1,.data⟩],none⟩) (v:=.bool false) hH ?_
   refine tq (i:=3) (oi:=⟨some 18,.move (.tmp 0),28, "ref.go:14",#[⟨2,.guard⟩],some (2,false)⟩) (v:=.slice (some ⟨L,off,none⟩) es.length c) hH ?_
   refine tq (i:=4) (oi:=⟨some 19,.move (.tmp 8),3, "ref.go:14",#[⟨2,.guard⟩],some (2,false)⟩) (v:=.int .i64 k) hH ?_
   refine tq (i:=5) (oi:=⟨some 20,.indexAddr 28 (.tmp 18) (.tmp 19),0, "ref.go:14",#[⟨3,.data⟩,⟨4,.data⟩,⟨2,.guard⟩],some (2,false)⟩) (v:=.pointer (some ⟨L,off+k * 102,none⟩)) hH ?_
   refine tq (i:=6) (oi:=⟨some 21,.fieldAddr 73 (.tmp 20) 1,0, "ref.go:14",#[⟨5,.data⟩,⟨2,.guard⟩],some (2,false)⟩) (v:=.pointer (some ⟨L,off+k * 102+33,none⟩)) hH ?_
   refine tq (i:=7) (oi:=⟨some 22,.fieldAddr 71 (.tmp 21) 0,0, "ref.go:14",#[⟨6,.data⟩,⟨2,.guard⟩],some (2,false)⟩) (v:=.pointer (some ⟨L,off+k * 102+33,none⟩)) hH ?_
   refine tk (i:=8) (oi:=⟨some 23,.load 41 (.tmp 22),41, "ref.go:14",#[⟨7,.data⟩,⟨2,.guard⟩],some (2,false)⟩) (v:=.agg (adrCells x.addr).toArray) hH (fun w' hSw=>by exact exec_load_pt _ _ 41 _ rfl ⟨L,off+k * 102+33,none⟩ rfl (HLD.out _ hSw).1) ?_
   refine tk (i:=9) (oi:=⟨some 24,.load 41 (.tmp 5),41, "ref.go:14",#[⟨2,.guard⟩],some (2,false)⟩) (v:=.agg (adrCells t).toArray) hH (fun w' hSw=>by exact exec_load_pt _ _ 41 _ rfl ⟨w.heap.size,0,none⟩ rfl (load40 ((hSw.block _ (ltB HR.out.2.1) (fun q=>q)).trans HR.out.2.1))) ?_
   refine tk (i:=10) (oi:=⟨some 25,.binOp .eql 41 (.tmp 23) (.tmp 24) 41,4, "ref.go:14",#[⟨8,.data⟩,⟨9,.data⟩,⟨2,.guard⟩],some (2,false)⟩) (v:=.bool (decide (x.addr=t))) hH (fun w' hSw=>by exact exec_eql40 _ _ rfl x.addr t rfl rfl) ?_
   refine tq (i:=11) (oi:=⟨some 26,.pick (.tmp 17) (.const (.bool true)) (.tmp 25),4, "ref.go:14",#[⟨2,.data⟩,⟨10,.data⟩],none⟩) (v:=.bool (decide (x.addr=t))) hH ?_
   refine wpAnyH_done (by kernel_rfl) ?_ _
   have HR2:=hh (And.intro (HR.out.1.tr ((Mod.refl N0 wr).drew)) (And.intro ((((Mod.refl N0 wr).drew).block _ (ltB HR.out.2.1) (fun q=>q)).trans HR.out.2.1) (And.intro HR.out.2.2.1 (HR.out.2.2.2.drew))))
   have HLD2:=hh (HLD.out wr.drew ((Mod.refl _ wr).drew))
   clear HR HLD
   have hpx:=HPX.out x
   generalize decide (x.addr=t)=bp at hpx ⊢
   cases bp with
  |false=>
    have HP:=hh hpx
    clear hpx
    go_wp2_with fail
    go_roundw
    case rel=>exact ⟨k+1,_,l,by omega,rfl,by simp,by rw [HTF.out,HP.out]; simpa using HL.out,HR2.out.1,HR2.out.2.1,HR2.out.2.2.1,HR2.out.2.2.2⟩
    case measure=>simp [intOf]; omega
  |true=>
    have HP:=hh hpx
    clear hpx
    obtain ⟨i43,hi,hz0,hz1,hz2⟩:=info_parts info43
    have HII:=hh (And.intro hi (And.intro hz0 (And.intro hz1 hz2)))
    clear hi hz0 hz1 hz2
    go_upto_region 6 with fail
    refine wp_region_lit ?_
    refine ex (v:=v7) ?_
    refine ex (v:=.slice (some ⟨L,off,none⟩) es.length c) ?_
    refine ex (v:=.int .i64 k) ?_
    refine ex (v:=.pointer (some ⟨L,off+k * 102,none⟩)) ?_
    refine ex (v:=.pointer (some ⟨L,off+k * 102+33,none⟩)) ?_
    refine ex (v:=.pointer (some ⟨L,off+k * 102+66,none⟩)) ?_
    refine wx (exec_load_pt _ _ 65 _ rfl ⟨L,off+k * 102+66,none⟩ rfl HLD2.out.2) ?_
    refine ww (exec_val1 _ _ rfl _ _ rfl) ?_
    have hN:=row_cells (cs:=[.int .i64 x.val.coin,.slice a2 x.val.assets.length c2]) (newB wr.drew (.cells #[.int .i64 x.val.coin,.slice a2 x.val.assets.length c2] 65))
    have hmA:=(Mod.refl N0 wr.drew).alloc (.cells #[.int .i64 x.val.coin,.slice a2 x.val.assets.length c2] 65)
    generalize wr.drew.alloc (.cells #[.int .i64 x.val.coin,.slice a2 x.val.assets.length c2] 65)=wa at hN hmA ⊢
    generalize wr.drew.heap.size=ga at hN ⊢
    have HN:=hh (And.intro hN hmA)
    have HO:=hh (HR2.out.1.tr hmA)
    clear hN hmA
    refine wpList_append_at _ rfl _ _ 92 rfl 65 i43 _ 2 32 Tryz.underlying92 HII.out.1 HII.out.2.1 HII.out.2.2.1 HII.out.2.2.2 rfl (by decide) v7 l.length (valsCells l) rfl HO.out.2.1 ⟨ga,0,none⟩ 1 1 [.int .i64 x.val.coin,.slice a2 x.val.assets.length c2] rfl rfl HN.out.1 (by intro u hu; simp only [List.mem_cons,List.not_mem_nil,or_false] at hu; rcases hu with rfl|rfl <;> rfl) (by have:=HLK.out; simp only [maxLen]; omega) (by have:=HLK.out; omega) ?_
    intro v6 w6 ho6 hg6 hat6
    have hF:=RowV.more HO.out (HR2.out.2.2.2.tr HN.out.2) (Mod.refl _ _) HX.out ho6 hg6 hat6
    have hmg:=(HN.out.2.any (S:=fun q=>v7.ownBlock=some q)).trans ((Mod.refl (fun q=>v7.ownBlock=some q) wa).grown hg6 (fun q hq _=>hq)) (fun q e _=>e)
    have HF:=hh (And.intro hF.1 (And.intro ((hmg.block _ (ltB HR2.out.2.1) (fun e=>HR2.out.2.2.1 _ e rfl)).trans HR2.out.2.1) (And.intro (show ∀ q,v6.ownBlock=some q->q≠w.heap.size from fun q hq=>by
     rcases hat6 q hq with e|e
     ·exact HR2.out.2.2.1 q e
     ·have h1:=ltB HR2.out.2.1
      have h2:=HN.out.2.size
      omega) hF.2)))
    clear ho6 hg6 hat6 hF hmg
    (try simp only [Act.put,ja,jb,jc])
    go_wp2_with fail
    go_roundw
    case rel=>exact ⟨k+1,_,_,by omega,rfl,by simp,by rw [HTF.out,HP.out]; simpa using HL.out,HF.out.1,HF.out.2.1,HF.out.2.2.1,HF.out.2.2.2⟩
    case measure=>simp [intOf]; omega
  ·have e:k=es.length:=by omega
   subst e
   have hl:=HL.out
   rw [List.take_length] at hl
   have HL1:=hh hl
   clear hl
   go_wp2_with fail
   go_ret
   exact ⟨_,l,rfl,HL1.out,HR.out.1,HR.out.2.2.2⟩
end Go.Proofs.YtckcamlicgdklaaGreat
