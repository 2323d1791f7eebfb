/- A copy's entries, outputs, totals: they read as the original's do. -/
import Derived.Test.YtckcamlicgdklaaGreatN21
import Derived.Test.YtckcamlicgdklaaGreatN33
import Derived.Test.YtckcamlicgdklaaGreatN13
namespace Go.Proofs.YtckcamlicgdklaaGreat
open Go.RowKit Go.Mo Go.Sort
theorem blk_get {cs cs':List Value} {o m j:Nat} (h:(cs'.drop o).take m=(cs.drop o).take m) (h1:o<=j) (h2:j<o+m):cs'[j]?=cs[j]?:=by
 have:=congrArg (fun l=>l[j - o]?) h
 simp only [List.getElem?_take,List.getElem?_drop] at this
 rw [if_pos (by omega),show o+(j - o)=j by omega,if_pos (by omega)] at this
 exact this
theorem out_get (x:Ent) (a:Option Addr) (c i:Nat):(outCells x a c)[i]?=if i<33 then x.adr[i]? else if i=33 then some (.int .i64 x.val.coin) else if i=34 then some (.slice a x.val.assets.length c) else x.post[i - 35]?:=by
 unfold outCells
 by_cases h:i<33
 ·rw [if_pos h,List.getElem?_append_left (by rw [x.hadr]; exact h)]
 ·rw [if_neg h,List.getElem?_append_right (by rw [x.hadr]; omega),x.hadr]
  obtain ⟨k,rfl⟩:∃ k,i=33+k:=⟨i - 33,by omega⟩
  rw [Nat.add_sub_cancel_left]
  match k with
 |0=>simp
 |1=>simp
 |k+2=>
   rw [if_neg (by omega),if_neg (by omega),show 33+(k+2) - 35=k by omega]
   simp
section
variable {N n:Nat} {w0 w:World} {Q:Nat->Prop}
theorem assets_copy {v v':Value} (h:EqX N w0 Q w n 63 [v] [v']) (hm:Mod N0 w0 w) {xs:List (Nm×Int)} (hA:AssetsAt w0 v xs):∃ a' c',v'=.slice a' xs.length c'/\AssetsAt w v' xs:=by
 obtain ⟨m,rfl,a,a',len,cap,cap',rfl,rfl,hel⟩:=h.slice rfl Tryz.underlying63 Tryz.c97
 obtain ⟨a2,c2,e,hl,hx⟩:=hA
 cases e
 refine ⟨a',cap',rfl,a',cap',rfl,hl,fun i x hi=>?_⟩
 have hlt:i<xs.length:=(List.getElem?_eq_some_iff.1 hi).1
 obtain ⟨h64,L,off,e1,hL,hc⟩:=hx i x hi
 obtain ⟨L1,off1,ds,L',off',ds',e2,e3,hrd,_,_,hL',_,hdl,hdl',hc1,hc',he⟩:=hel i hlt
 rw [e1] at e2
 cases e2
 have hds:=he.flat rfl
 subst hds
 refine ⟨h64,L',off',e3,hL',fun j u hu=>?_⟩
 have hj:j<34:=by have:=(List.getElem?_eq_some_iff.1 hu).1; rwa [asCells_length] at this
 obtain ⟨d,hd⟩:∃ d,ds'[j]?=some d:=⟨_,List.getElem?_eq_getElem (by omega)⟩
 have h1:=hc1 j _ hd
 have h2:=(hm.cell (p:=⟨L,off+i * 34+j,none⟩) hL (fun q=>q)).trans (hc j u hu)
 rw [h1] at h2
 cases h2
 exact hc' j _ hd
theorem tots_copy {v v':Value} (h:EqX N w0 Q w n 33 [v] [v']) (hm:Mod N0 w0 w) {xs:List (Nm×Int)} (hA:TotsAt w0 v xs):TotsAt w v' xs:=by
 have h':=h
 obtain ⟨m,rfl,a,a',len,cap,cap',rfl,rfl,hel⟩:=h.slice rfl Tryz.underlying33 cc88
 obtain ⟨a2,c2,e,hn,hl,hx⟩:=hA
 cases e
 refine ⟨a',cap',rfl,fun e=>by subst e; exact h'.sliceN rfl Tryz.underlying33,hl,fun i x hi=>?_⟩
 have hlt:i<xs.length:=(List.getElem?_eq_some_iff.1 hi).1
 obtain ⟨L,off,e1,hL,hc⟩:=hx i x hi
 obtain ⟨L1,off1,ds,L',off',ds',e2,e3,hrd,_,_,hL',_,hdl,hdl',hc1,hc',he⟩:=hel i hlt
 rw [e1] at e2
 cases e2
 have hds:=he.flat rfl
 subst hds
 refine ⟨L',off',e3,hL',fun j u hu=>?_⟩
 have hj:j<35:=by have:=(List.getElem?_eq_some_iff.1 hu).1; rwa [totCells_length] at this
 obtain ⟨d,hd⟩:∃ d,ds'[j]?=some d:=⟨_,List.getElem?_eq_getElem (by omega)⟩
 have h1:=hc1 j _ hd
 have h2:=(hm.cell (p:=⟨L,off+i * 35+j,none⟩) hL (fun q=>q)).trans (hc j u hu)
 rw [h1] at h2
 cases h2
 exact hc' j _ hd
theorem out_copy {os os':List Value} (h:EqX N w0 Q w n 71 os os') (hm:Mod N0 w0 w) {x:Ent} {a2:Option Addr} {c2:Nat} (hos:os=outCells x a2 c2) (hA:AssetsAt w0 (.slice a2 x.val.assets.length c2) x.val.assets) :
  ∃ (x':Ent) (a':Option Addr) (c':Nat),os'=outCells x' a' c'/\x'.pre=x.pre/\x'.addr=x.addr/\x'.val=x.val/\AssetsAt w (.slice a' x.val.assets.length c') x.val.assets:=by
 obtain ⟨m,rfl,hl,hl',hfs⟩:=h.struct rfl Tryz.underlying71
 rw [cc49] at hl hl'
 have f0:=(eqx_field hfs 0 rfl 41 0 33 rfl rfl Tryz.c40).flat rfl
 have f1:=eqx_field hfs 1 rfl 65 33 2 rfl rfl cc43
 have f2:=(eqx_field hfs 2 rfl 66 35 1 rfl rfl (by kernel_rfl)).flat rfl
 have f3:=(eqx_field hfs 3 rfl 27 36 32 rfl rfl Tryz.c27).flat rfl
 have f4:=eqx_field hfs 4 rfl 69 68 1 rfl rfl cc47
 obtain ⟨m1,rfl,_,_,hfs1⟩:=f1.struct rfl Tryz.underlying65
 have g0:=(eqx_field hfs1 0 rfl 2 0 1 rfl rfl (by kernel_rfl)).flat rfl
 have g1:=eqx_field hfs1 1 rfl 63 1 1 rfl rfl cc41
 obtain ⟨m2,_,_,_,hfs4⟩:=f4.struct rfl Tryz.underlying69
 have k0:=eqx_field hfs4 0 rfl 67 0 1 rfl rfl cc45
 have hg:∀ i,os[i]?=if i<33 then x.adr[i]? else if i=33 then some (.int .i64 x.val.coin) else if i=34 then some (.slice a2 x.val.assets.length c2) else x.post[i - 35]?:=fun i=>by rw [hos]; exact out_get x a2 c2 i
 have sub:∀ (l:List Value) (o m j:Nat),j<m->((l.drop o).take m)[j]?=l[o+j]?:=fun l o m j hj=>by rw [List.getElem?_take,if_pos hj,List.getElem?_drop]
 have a1:((os.drop 33).take 2)[1]?=some (.slice a2 x.val.assets.length c2):=by rw [sub _ _ _ _ (by omega),hg]; simp
 obtain ⟨u',hu'⟩:∃ u',((os'.drop 33).take 2)[1]?=some u':=⟨_,List.getElem?_eq_getElem (by simp; omega)⟩
 rw [take_one a1,take_one hu'] at g1
 obtain ⟨a',c',rfl,hA'⟩:=assets_copy g1 hm hA
 rw [sub _ _ _ _ (by omega)] at hu'
 obtain ⟨t,ht⟩:∃ t,((os.drop 68).take 1)[0]?=some t:=⟨_,List.getElem?_eq_getElem (by simp; omega)⟩
 obtain ⟨t',ht'⟩:∃ t,((os'.drop 68).take 1)[0]?=some t:=⟨_,List.getElem?_eq_getElem (by simp; omega)⟩
 rw [take_one ht,take_one ht'] at k0
 obtain ⟨_,_,b,b',len,cp,cp',rfl,rfl,_⟩:=k0.slice rfl Tryz.underlying67 cc112
 rw [sub _ _ _ _ (by omega)] at ht'
 have g0':=blk_get g0 (j:=0) (by omega) (by omega)
 rw [sub _ _ _ _ (by omega),sub _ _ _ _ (by omega)] at g0'
 refine ⟨{x with post:=x.post.take 33 ++ [.slice b' len cp'],hpost:=by simp [x.hpost],ones:=fun u hu=>?_},a',c',?_,rfl,rfl,rfl,hA'⟩
 ·simp only [List.mem_append,List.mem_singleton] at hu
  rcases hu with hu|hu|rfl
  ·exact x.ones u (by simp [hu])
  ·exact x.ones u (by simp [List.mem_of_mem_take hu])
  ·rfl
 ·refine List.ext_getElem? fun i=>?_
  rw [out_get]
  simp only [Ent.adr]
  by_cases h0:i<33
  ·rw [if_pos h0,blk_get f0 (by omega) (by omega),hg,if_pos h0]
   rfl
  ·rw [if_neg h0]
   by_cases h1:i=33
   ·subst h1
    rw [if_pos rfl,g0',hg]
    simp
   ·rw [if_neg h1]
    by_cases h2:i=34
    ·subst h2
     rw [if_pos rfl]
     exact hu'
    ·rw [if_neg h2]
     by_cases h3:i<68
     ·have e:os'[i]?=os[i]?:=by
       by_cases h5:i=35
       ·exact blk_get f2 (by omega) (by omega)
       ·exact blk_get f3 (by omega) (by omega)
      rw [e,hg,if_neg h0,if_neg h1,if_neg h2,List.getElem?_append_left (by simp [x.hpost]; omega),List.getElem?_take,if_pos (by omega)]
     ·by_cases h4:i=68
      ·subst h4
       rw [List.getElem?_append_right (by simp [x.hpost])]
       simpa [x.hpost] using ht'
      ·rw [List.getElem?_eq_none (by omega),List.getElem?_eq_none (by simp [x.hpost]; omega)]
theorem ent_copy {ds ds':List Value} (h:EqX N w0 Q w n 73 ds ds') (hm:Mod N0 w0 w) {x:Ent} {a2:Option Addr} {c2:Nat} (hds:ds=entCells x a2 c2) (hA:AssetsAt w0 (.slice a2 x.val.assets.length c2) x.val.assets) :
  ∃ (x':Ent) (a':Option Addr) (c':Nat),ds'=entCells x' a' c'/\x'.addr=x.addr/\x'.val=x.val/\AssetsAt w (.slice a' x.val.assets.length c') x.val.assets:=by
 obtain ⟨m,rfl,hl,hl',hfs⟩:=h.struct rfl Tryz.underlying73
 rw [cc51] at hl hl'
 have f0:=(eqx_field hfs 0 rfl 62 0 33 rfl rfl (by kernel_rfl)).flat rfl
 have f1:=eqx_field hfs 1 rfl 71 33 69 rfl rfl cc49
 have e1:(ds.drop 33).take 69=outCells x a2 c2:=by
  rw [hds,entCells,List.drop_append_of_le_length (by rw [x.hpre]; omega),List.drop_of_length_le (by rw [x.hpre]; omega),List.nil_append,List.take_of_length_le (by rw [outCells_length]; omega)]
 obtain ⟨x',a',c',h1,h2,h3,h4,h5⟩:=out_copy f1 hm e1 hA
 refine ⟨x',a',c',?_,h3,h4,h5⟩
 have e2:ds.take 33=x.pre:=by rw [hds,entCells,List.take_append_of_le_length (by rw [x.hpre]; omega),List.take_of_length_le (by rw [x.hpre]; omega)]
 rw [List.drop_zero,List.drop_zero,e2] at f0
 have e3:ds'=ds'.take 33 ++ (ds'.drop 33).take 69:=parts3 (by omega)
 rw [e3,f0,h1,entCells,h2]
/-- What is looked at of an entry. -/
def keyE (x:Ent):Adr×Val:=(x.addr,x.val)
theorem key_vals {es es':List Ent} (h:es'.map keyE=es.map keyE):es'.map (·.val)=es.map (·.val):=by
 have:=congrArg (List.map Prod.snd) h
 simpa [keyE,Function.comp_def] using this
theorem key_filter {es es':List Ent} (h:es'.map keyE=es.map keyE) (t:Adr):(es'.filter fun x=>decide (x.addr=t)).map (·.val)=(es.filter fun x=>decide (x.addr=t)).map (·.val):=by
 have e:∀ l:List Ent,(l.filter fun x=>decide (x.addr=t)).map (·.val)=((l.map keyE).filter fun p=>decide (p.1=t)).map Prod.snd:=fun l=>by
  rw [List.filter_map,List.map_map]
  rfl
 rw [e,e,h]
theorem ents_copy {v v':Value} (h:EqX N w0 Q w n 28 [v] [v']) (hm:Mod N0 w0 w) {es:List Ent} (hE:EntsAt w0 v es):∃ es',es'.map keyE=es.map keyE/\EntsAt w v' es':=by
 obtain ⟨m,rfl,a,a',len,cap,cap',rfl,rfl,hel⟩:=h.slice rfl Tryz.underlying28 cc51
 obtain ⟨a2,c2,e,hl,hx⟩:=hE
 cases e
 obtain ⟨es',hel',hp⟩:=list_ofR (P:=fun i (y:Ent)=>∃ x,es[i]?=some x/\y.addr=x.addr/\y.val=x.val/\In64 x.val.coin/\∃ L off a2 c2,a'=some ⟨L,off,none⟩/\L<w.heap.size/\AssetsAt w (.slice a2 y.val.assets.length c2) y.val.assets/\∀ j u,(entCells y a2 c2)[j]?=some u->w.cell? ⟨L,off+i * 102+j,none⟩=some u) es.length (fun i hi=>by
  have hxi:es[i]?=some es[i]:=List.getElem?_eq_getElem hi
  obtain ⟨h64,L,off,a3,c3,e1,hL,hA,hc⟩:=hx i _ hxi
  obtain ⟨L1,off1,ds,L',off',ds',e2,e3,hrd,_,_,hL',_,hdl,hdl',hc1,hc',he⟩:=hel i hi
  rw [e1] at e2
  cases e2
  have hds:ds=entCells es[i] a3 c3:=by
   refine List.ext_getElem? fun j=>?_
   by_cases hj:j<102
   ·obtain ⟨d,hd⟩:∃ d,ds[j]?=some d:=⟨_,List.getElem?_eq_getElem (by omega)⟩
    obtain ⟨d2,hd2⟩:∃ d2,(entCells es[i] a3 c3)[j]?=some d2:=⟨_,List.getElem?_eq_getElem (l:=entCells es[i] a3 c3) (i:=j) (by rw [entCells_length]; omega)⟩
    have h1:=hc1 j _ hd
    have h2:=(hm.cell (p:=⟨L,off+i * 102+j,none⟩) hL (fun q=>q)).trans (hc j _ hd2)
    rw [h1] at h2
    rw [hd,hd2,h2]
   ·rw [List.getElem?_eq_none (by omega),List.getElem?_eq_none (by rw [entCells_length]; omega)]
  obtain ⟨x',a4,c4,k1,k2,k3,k4⟩:=ent_copy he hm hds hA
  subst k1
  exact ⟨x',es[i],hxi,k2,k3,h64,L',off',a4,c4,e3,hL',by rw [k3]; exact k4,hc'⟩)
 refine ⟨es',?_,a',cap',by rw [hel'],by omega,fun i y hy=>?_⟩
 ·refine List.ext_getElem? fun i=>?_
  rw [List.getElem?_map,List.getElem?_map]
  by_cases hi:i<es'.length
  ·obtain ⟨x,hx1,h1,h2,_⟩:=hp i es'[i] (List.getElem?_eq_getElem hi)
   rw [List.getElem?_eq_getElem hi,hx1]
   simp [keyE,h1,h2]
  ·rw [List.getElem?_eq_none (by omega),List.getElem?_eq_none (by omega)]
 ·obtain ⟨x,_,_,h2,h64,L,off,a3,c3,k⟩:=hp i y hy
  exact ⟨by rw [h2]; exact h64,L,off,a3,c3,k⟩
theorem outs_copy {v v':Value} (h:EqX N w0 Q w n 37 [v] [v']) (hm:Mod N0 w0 w) {es:List Ent} (hE:OutsAt w0 v es):∃ es',es'.map keyE=es.map keyE/\OutsAt w v' es':=by
 obtain ⟨m,rfl,a,a',len,cap,cap',rfl,rfl,hel⟩:=h.slice rfl Tryz.underlying37 cc49
 obtain ⟨a2,c2,e,hx⟩:=hE
 cases e
 obtain ⟨es',hel',hp⟩:=list_ofR (P:=fun i (y:Ent)=>∃ x,es[i]?=some x/\y.addr=x.addr/\y.val=x.val/\In64 x.val.coin/\∃ L off a2 c2,a'=some ⟨L,off,none⟩/\L<w.heap.size/\AssetsAt w (.slice a2 y.val.assets.length c2) y.val.assets/\∀ j u,(outCells y a2 c2)[j]?=some u->w.cell? ⟨L,off+i * 69+j,none⟩=some u) es.length (fun i hi=>by
  have hxi:es[i]?=some es[i]:=List.getElem?_eq_getElem hi
  obtain ⟨h64,L,off,a3,c3,e1,hL,hA,hc⟩:=hx i _ hxi
  obtain ⟨L1,off1,ds,L',off',ds',e2,e3,hrd,_,_,hL',_,hdl,hdl',hc1,hc',he⟩:=hel i hi
  rw [e1] at e2
  cases e2
  have hds:ds=outCells es[i] a3 c3:=by
   refine List.ext_getElem? fun j=>?_
   by_cases hj:j<69
   ·obtain ⟨d,hd⟩:∃ d,ds[j]?=some d:=⟨_,List.getElem?_eq_getElem (by omega)⟩
    obtain ⟨d2,hd2⟩:∃ d2,(outCells es[i] a3 c3)[j]?=some d2:=⟨_,List.getElem?_eq_getElem (l:=outCells es[i] a3 c3) (i:=j) (by rw [outCells_length]; omega)⟩
    have h1:=hc1 j _ hd
    have h2:=(hm.cell (p:=⟨L,off+i * 69+j,none⟩) hL (fun q=>q)).trans (hc j _ hd2)
    rw [h1] at h2
    rw [hd,hd2,h2]
   ·rw [List.getElem?_eq_none (by omega),List.getElem?_eq_none (by rw [outCells_length]; omega)]
  obtain ⟨x',a4,c4,k1,_,k2,k3,k4⟩:=out_copy he hm hds hA
  subst k1
  exact ⟨x',es[i],hxi,k2,k3,h64,L',off',a4,c4,e3,hL',by rw [k3]; exact k4,hc'⟩)
 refine ⟨es',?_,a',cap',by rw [hel'],fun i y hy=>?_⟩
 ·refine List.ext_getElem? fun i=>?_
  rw [List.getElem?_map,List.getElem?_map]
  by_cases hi:i<es'.length
  ·obtain ⟨x,hx1,h1,h2,_⟩:=hp i es'[i] (List.getElem?_eq_getElem hi)
   rw [List.getElem?_eq_getElem hi,hx1]
   simp [keyE,h1,h2]
  ·rw [List.getElem?_eq_none (by omega),List.getElem?_eq_none (by omega)]
 ·obtain ⟨x,_,_,h2,h64,L,off,a3,c3,k⟩:=hp i y hy
  exact ⟨by rw [h2]; exact h64,L,off,a3,c3,k⟩
end
end Go.Proofs.YtckcamlicgdklaaGreat
