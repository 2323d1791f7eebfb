/- What holds between the steps of TotalsParts. Entries out of their readings. -/
import Derived.Test.YtckcamlicgdklaaGreatN18
import Derived.Test.YtckcamlicgdklaaGreatN32
namespace Go.Proofs.YtckcamlicgdklaaGreat
open Go.RowKit Go.Mo Go.Sort
/-- The two boxes of the arguments stand. -/
structure PB (w wx:World) (cs xs:List Value):Prop where
 hs:wx.heap[w.heap.size]?=some (.cells cs.toArray 36 (0,0))
 hx:wx.heap[w.heap.size+1]?=some (.cells xs.toArray 73 (0,0))
 mod:Mod N0 w wx
theorem PB.tr {S:Nat->Prop} {w wx wy:World} {cs xs:List Value} (h:PB w wx cs xs) (hm:Mod S wx wy) (hS:∀ q,S q->w.heap.size+2<=q):PB w wy cs xs:=
 ⟨(hm.block _ (ltB h.hs) (fun q=>by have:=hS _ q; omega)).trans h.hs,(hm.block _ (ltB h.hx) (fun q=>by have:=hS _ q; omega)).trans h.hx,h.mod.trans hm (fun q e hl=>by have:=hS _ e; omega)⟩
def Nw (w:World) (q:Nat):Prop:=w.heap.size+2<=q
/-- The first loop's state: the coins' block, the addresses seen, the rows. -/
structure L1 (w wx:World) (cs xs:List Value) (b6:Nat) (z:Int) (S:List Adr) (v5:Value) (rvs:List Value) (rows:List (List (Nm×Int))) (v7:Value):Prop where
 pb:PB w wx cs xs
 b6n:Nw w b6
 coin:wx.heap[b6]?=some (.cells #[.int .i64 (hiW z),.int .u64 (loW z)] 48 (0,0))
 seen:wx.ownsRow 0 41 33 v5 S.length (S.flatMap adrCells)
 seenB:∀ q,v5.ownBlock=some q->Nw w q/\q≠b6
 rlen:rvs.length=rows.length
 rown:wx.ownsRow 0 33 1 v7 rvs.length rvs
 rownB:∀ q,v7.ownBlock=some q->Nw w q/\q≠b6/\v5.ownBlock≠some q
 row:∀ (i:Nat) (rv:Value) (d:List (Nm×Int)),rvs[i]?=some rv->rows[i]?=some d->wx.ownsRow 0 78 35 rv d.length (totsCells d)/\∀ q,rv.ownBlock=some q->Nw w q/\q≠b6/\v5.ownBlock≠some q/\v7.ownBlock≠some q
section
variable {w wx wy:World} {cs xs:List Value} {b6:Nat} {z:Int} {S:List Adr} {v5:Value} {rvs:List Value} {rows:List (List (Nm×Int))} {v7:Value}
theorem L1.tr (h:L1 w wx cs xs b6 z S v5 rvs rows v7) (hm:Mod N0 wx wy):L1 w wy cs xs b6 z S v5 rvs rows v7 where
 pb:=h.pb.tr hm (fun q e=>e.elim)
 b6n:=h.b6n
 coin:=(hm.block _ (ltB h.coin) (fun q=>q)).trans h.coin
 seen:=ownsRow_block h.seen (fun k hk=>hm.block k (ownsRow_lt h.seen hk) (fun q=>q))
 seenB:=h.seenB
 rlen:=h.rlen
 rown:=ownsRow_block h.rown (fun k hk=>hm.block k (ownsRow_lt h.rown hk) (fun q=>q))
 rownB:=h.rownB
 row:=fun i rv d h1 h2=>by
  obtain ⟨h3,h4⟩:=h.row i rv d h1 h2
  exact ⟨ownsRow_block h3 (fun k hk=>hm.block k (ownsRow_lt h3 hk) (fun q=>q)),h4⟩
/-- One address more is seen. -/
theorem L1.more (h:L1 w wx cs xs b6 z S v5 rvs rows v7) {v5':Value} {S':List Adr} (ho:wy.ownsRow 0 41 33 v5' S'.length (S'.flatMap adrCells)) (hg:wx.grownBy wy v5.ownBlock) (hat:∀ k,v5'.ownBlock=some k->v5.ownBlock=some k∨wx.heap.size<=k):L1 w wy cs xs b6 z S' v5' rvs rows v7:=by
 have hm:Mod (fun q=>v5.ownBlock=some q) wx wy:=(Mod.refl (fun q=>v5.ownBlock=some q) wx).grown hg (fun q hq _=>hq)
 have hsz:w.heap.size+2<=wx.heap.size:=by have:=ltB h.pb.hx; omega
 have hb6:=ltB h.coin
 refine ⟨h.pb.tr hm (fun q e=>(h.seenB q e).1),h.b6n,(hm.block _ hb6 (fun q=>(h.seenB _ q).2 rfl)).trans h.coin,ho,fun q hq=>?_,h.rlen,?_,fun q hq=>?_,fun i rv d h1 h2=>?_⟩
 ·rcases hat q hq with e|e
  ·exact h.seenB q e
  ·refine ⟨by unfold Nw; omega,by omega⟩
 ·exact ownsRow_block h.rown (fun k hk=>hm.block k (ownsRow_lt h.rown hk) (h.rownB k hk).2.2)
 ·obtain ⟨g1,g2,g3⟩:=h.rownB q hq
  refine ⟨g1,g2,fun e=>?_⟩
  have hl:=ownsRow_lt h.rown hq
  rcases hat q e with e2|e2
  ·exact g3 e2
  ·omega
 ·obtain ⟨h3,h4⟩:=h.row i rv d h1 h2
  refine ⟨ownsRow_block h3 (fun k hk=>hm.block k (ownsRow_lt h3 hk) (h4 k hk).2.2.1),fun q hq=>?_⟩
  obtain ⟨g1,g2,g3,g4⟩:=h4 q hq
  refine ⟨g1,g2,fun e=>?_,g4⟩
  have hl:=ownsRow_lt h3 hq
  rcases hat q e with e2|e2
  ·exact g3 e2
  ·omega
/-- The coins turn. -/
theorem L1.coins (h:L1 w wx cs xs b6 z S v5 rvs rows v7) {z':Int} (hm:Mod (fun q=>q=b6) wx wy) (hc:wy.heap[b6]?=some (.cells #[.int .i64 (hiW z'),.int .u64 (loW z')] 48 (0,0))):L1 w wy cs xs b6 z' S v5 rvs rows v7 where
 pb:=h.pb.tr hm (fun q e=>by subst e; exact h.b6n)
 b6n:=h.b6n
 coin:=hc
 seen:=ownsRow_block h.seen (fun k hk=>hm.block k (ownsRow_lt h.seen hk) (fun q=>(h.seenB k hk).2 q))
 seenB:=h.seenB
 rlen:=h.rlen
 rown:=ownsRow_block h.rown (fun k hk=>hm.block k (ownsRow_lt h.rown hk) (fun q=>(h.rownB k hk).2.1 q))
 rownB:=h.rownB
 row:=fun i rv d h1 h2=>by
  obtain ⟨h3,h4⟩:=h.row i rv d h1 h2
  exact ⟨ownsRow_block h3 (fun k hk=>hm.block k (ownsRow_lt h3 hk) (fun q=>(h4 k hk).2.1 q)),h4⟩
end
end Go.Proofs.YtckcamlicgdklaaGreat
namespace Go.Proofs.YtckcamlicgdklaaGreat
open Go.RowKit Go.Mo Go.Sort
theorem Tryz.underlying5':Tryz.prog.underlying 5=some (.int .u8):=by kernel_rfl
theorem in64_wf {n:Int} (h:(Lit.int .i64 n).wf=true):In64 n:=by
 have h2:IntKind.i64.max=9223372036854775807:=rfl
 have h3:IntKind.i64.min=-9223372036854775808:=rfl
 simp only [Lit.wf,Bool.and_eq_true,decide_eq_true_eq] at h
 unfold In64
 omega
theorem byte_wf {n:Int} (h:(Lit.int .u8 n).wf=true):∃ x:UInt8,Value.int .u8 n=by8 x:=by
 have h2:IntKind.u8.max=255:=rfl
 have h3:IntKind.u8.min=0:=rfl
 simp only [Lit.wf,Bool.and_eq_true,decide_eq_true_eq] at h
 refine ⟨UInt8.ofNat n.toNat,?_⟩
 unfold by8
 have:(UInt8.ofNat n.toNat).toNat=n.toNat:=by
  rw [UInt8.toNat_ofNat']
  exact Nat.mod_eq_of_lt (by omega)
 rw [this]
 congr 1
 omega
theorem list_ofR {α:Type} {P:Nat->α->Prop}:∀ n,(∀ i,i<n->∃ x,P i x)->∃ l:List α,l.length=n/\∀ i x,l[i]?=some x->P i x
|0,_=>⟨[],rfl,fun i x h=>by simp at h⟩
|n+1,h=>by
  obtain ⟨l,hl,hp⟩:=list_ofR n (fun i hi=>h i (by omega))
  obtain ⟨x,hx⟩:=h n (by omega)
  refine ⟨l ++ [x],by simp [hl],fun i y hy=>?_⟩
  rw [List.getElem?_append] at hy
  split at hy
  ·exact hp i y hy
  ·rw [List.getElem?_singleton] at hy
   split at hy
   ·simp at hy
    subst hy
    rename_i h1 h2
    have:i=n:=by omega
    subst this
    exact hx
   ·simp at hy
theorem hash_of_rd {w:World} {cs:List Value} (h:Rd w 27 cs):∃ b:Bs,b.length=32/\cs=b.map by8:=by
 obtain ⟨hl,hel⟩:=h.array Tryz.underlying27 Tryz.c5
 rw [Tryz.c27] at hl
 obtain ⟨b,hb,hp⟩:=list_ofR (P:=fun i x=>cs[i]?=some (by8 x)) 32 (fun i hi=>by
  obtain ⟨v,hv,hr⟩:=hel i hi
  obtain ⟨n,rfl,hw⟩:=hr.int Tryz.underlying5'
  obtain ⟨x,hx⟩:=byte_wf hw
  exact ⟨x,by rw [hv,hx]⟩)
 refine ⟨b,hb,List.ext_getElem? fun i=>?_⟩
 by_cases hi:i<32
 ·have:=hp i b[i] (List.getElem?_eq_getElem (by omega))
  rw [this,List.getElem?_map,List.getElem?_eq_getElem (by omega)]
  rfl
 ·rw [List.getElem?_eq_none (by omega),List.getElem?_eq_none (by simp; omega)]
theorem parts3 {cs:List Value} {a b:Nat} (h:a+b=cs.length):cs=cs.take a ++ (cs.drop a).take b:=by
 have:(cs.drop a).take b=cs.drop a:=List.take_of_length_le (by simp; omega)
 rw [this,List.take_append_drop]
theorem asset_of_rd {w:World} {cs:List Value} (h:Rd w 76 cs):∃ (a:Nm) (z:Int),cs=asCells a z/\In64 z:=by
 have hl:=h.len Tryz.underlying76
 rw [Tryz.c97] at hl
 obtain ⟨p,hp,hpe⟩:=hash_of_rd (h.fieldAt Tryz.underlying76 0 rfl 27 0 32 rfl rfl Tryz.c27)
 obtain ⟨v1,hv1,hr1⟩:=h.cellAt Tryz.underlying76 1 rfl 9 32 rfl rfl Tryz.c9 Tryz.c97 (by omega)
 obtain ⟨s,rfl,hs⟩:=hr1.string Tryz.underlying9
 obtain ⟨v2,hv2,hr2⟩:=h.cellAt Tryz.underlying76 2 rfl 2 33 rfl rfl (by kernel_rfl) Tryz.c97 (by omega)
 obtain ⟨z,rfl,hz⟩:=hr2.int Tryz.underlying2
 refine ⟨⟨p,s.data.toList,hp,by simp only [reachBytes] at hs; simp only [maxLen]; have:s.data.toList.length=s.size:=rfl; omega⟩,z,?_,in64_wf hz⟩
 rw [List.drop_zero] at hpe
 refine List.ext_getElem? fun i=>?_
 simp only [asCells,nmCells,← hpe]
 have hlt:(cs.take 32).length=32:=by simp; omega
 by_cases h1:i<32
 ·rw [List.getElem?_append_left (by simp; omega),List.getElem?_append_left (by omega),List.getElem?_take,if_pos h1]
 ·by_cases h2:i=32
  ·subst h2
   rw [List.getElem?_append_left (by simp; omega),List.getElem?_append_right (by omega),hlt,hv1]
   rfl
  ·by_cases h3:i=33
   ·subst h3
    rw [List.getElem?_append_right (by simp; omega),hv2]
    simp [hlt]
   ·rw [List.getElem?_eq_none (by omega),List.getElem?_eq_none (by simp; omega)]
theorem assets_of_rd {w:World} {v:Value} (h:Rd w 63 [v]):∃ (a:Option Addr) (xs:List (Nm×Int)) (c:Nat),v=.slice a xs.length c/\(xs.length<=1000000->AssetsAt w v xs):=by
 obtain ⟨a,len,c,rfl,_,hn,hel⟩:=h.slice Tryz.underlying63 Tryz.c97 (by omega)
 obtain ⟨xs,hxs,hp⟩:=list_ofR (P:=fun i (x:Nm×Int)=>In64 x.2/\∃ L off,a=some ⟨L,off,none⟩/\L<w.heap.size/\∀ j u,(asCells x.1 x.2)[j]?=some u->w.cell? ⟨L,off+i * 34+j,none⟩=some u) len (fun i hi=>by
  obtain ⟨L,off,cs,rfl,hL,hcl,hrd,hcs⟩:=hel i hi
  obtain ⟨p,z,rfl,hz⟩:=asset_of_rd hrd
  exact ⟨(p,z),hz,L,off,rfl,hL,hcs⟩)
 subst hxs
 exact ⟨a,xs,c,rfl,fun hle=>⟨a,c,rfl,hle,hp⟩⟩
theorem slice_one {w:World} {t e:TypeId} {n:Nat} {v:Value} (ht:Tryz.prog.underlying t=some (.slice e)) (hc:Tryz.prog.cellsOf e=n) (hn:0<n) (h:Rd w t [v]):v.oneCell'=true:=by
 obtain ⟨a,len,c,rfl,_⟩:=h.slice ht hc hn
 rfl
theorem ent_of_rd {w:World} {ds:List Value} (h:Rd w 73 ds):∃ (x:Ent) (a2:Option Addr) (c2:Nat),ds=entCells x a2 c2/\In64 x.val.coin/\(x.val.assets.length<=1000000->AssetsAt w (.slice a2 x.val.assets.length c2) x.val.assets):=by
 have hl:=h.len Tryz.underlying73
 rw [cc51] at hl
 have hr:=h.fieldAt Tryz.underlying73 0 rfl 62 0 33 rfl rfl (by kernel_rfl)
 have ho:=h.fieldAt Tryz.underlying73 1 rfl 71 33 69 rfl rfl cc49
 rw [List.drop_zero] at hr
 have hol:=ho.len Tryz.underlying71
 rw [cc49] at hol
 generalize hos:(ds.drop 33).take 69=os at ho hol
 have hds:ds=ds.take 33 ++ os:=by rw [← hos]; exact parts3 (by omega)
 have hrl:=hr.len Tryz.underlying62
 obtain ⟨p0,hp0,hpe⟩:=hash_of_rd (hr.fieldAt Tryz.underlying62 0 rfl 27 0 32 rfl rfl Tryz.c27)
 obtain ⟨v1,hv1,hr1⟩:=hr.cellAt Tryz.underlying62 1 rfl 3 32 rfl rfl (by kernel_rfl) cc38 (by omega)
 obtain ⟨n1,rfl,_⟩:=hr1.int Tryz.underlying3
 have hA:=ho.fieldAt Tryz.underlying71 0 rfl 41 0 33 rfl rfl Tryz.c40
 obtain ⟨vb,hvb,hrb⟩:=hA.cellAt Tryz.underlying41 0 rfl 4 0 rfl rfl Tryz.c4 Tryz.c40 (by omega)
 obtain ⟨bb,rfl⟩:=hrb.bool Tryz.underlying4
 obtain ⟨ph,hph,hphe⟩:=hash_of_rd (hA.fieldAt Tryz.underlying41 1 rfl 27 1 32 rfl rfl Tryz.c27)
 have hV:=ho.fieldAt Tryz.underlying71 1 rfl 65 33 2 rfl rfl cc43
 obtain ⟨vc,hvc,hrc⟩:=hV.cellAt Tryz.underlying65 0 rfl 2 0 rfl rfl (by kernel_rfl) cc43 (by omega)
 obtain ⟨co,rfl,hco⟩:=hrc.int Tryz.underlying2
 obtain ⟨va,hva,hra⟩:=hV.cellAt Tryz.underlying65 1 rfl 63 1 rfl rfl cc41 cc43 (by omega)
 obtain ⟨a2,az,c2,rfl,has⟩:=assets_of_rd hra
 obtain ⟨vd,hvd,hrd⟩:=ho.cellAt Tryz.underlying71 2 rfl 66 35 rfl rfl (by kernel_rfl) cc49 (by omega)
 obtain ⟨nd,rfl,_⟩:=hrd.int Tryz.underlying66
 obtain ⟨pd,hpd,hpde⟩:=hash_of_rd (ho.fieldAt Tryz.underlying71 3 rfl 27 36 32 rfl rfl Tryz.c27)
 have hT:=ho.fieldAt Tryz.underlying71 4 rfl 69 68 1 rfl rfl cc47
 obtain ⟨vt,hvt,hrt⟩:=hT.cellAt Tryz.underlying69 0 rfl 67 0 rfl rfl cc45 cc47 (by omega)
 have hvt1:=slice_one Tryz.underlying67 cc112 (by omega) hrt
 have g0:=sub_get hvb
 have g1:=sub_get hvc
 have g2:=sub_get hva
 have g3:=sub_get hvt
 rw [List.drop_zero] at hpe hA
 refine ⟨{pre:=p0.map by8 ++ [.int .i64 n1],addr:=⟨bb,ph,hph⟩,val:=⟨co,az⟩,post:=.int .i64 nd :: (pd.map by8 ++ [vt]),hpre:=by simp [hp0],hpost:=by simp [hpd],ones:=?_},a2,c2,?_,in64_wf hco,has⟩
 ·intro u hu
  simp only [List.mem_append,List.mem_cons,List.mem_map,List.not_mem_nil,or_false] at hu
  rcases hu with (⟨x,_,rfl⟩|rfl)|rfl|⟨x,_,rfl⟩|rfl
  ·rfl
  ·rfl
  ·rfl
  ·rfl
  ·exact hvt1
 ·have e1:ds.take 33=p0.map by8 ++ [.int .i64 n1]:=by
   rw [← hpe]
   refine List.ext_getElem? fun i=>?_
   have h32:((ds.take 33).take 32).length=32:=by simp; omega
   by_cases h1:i<32
   ·rw [List.getElem?_append_left (by omega),List.getElem?_take (i:=32),if_pos h1]
   ·by_cases h2:i=32
    ·subst h2
     rw [List.getElem?_append_right (by omega),h32,hv1]
     rfl
    ·rw [List.getElem?_eq_none (by simp; omega),List.getElem?_eq_none (by simp; omega)]
  have e2:os=adrCells ⟨bb,ph,hph⟩ ++ ([.int .i64 co,.slice a2 az.length c2] ++ (.int .i64 nd :: (pd.map by8 ++ [vt]))):=by
   refine List.ext_getElem? fun i=>?_
   have hal:(adrCells ⟨bb,ph,hph⟩).length=33:=adrCells_length _
   by_cases h0:i<33
   ·rw [List.getElem?_append_left (by omega)]
    unfold adrCells
    cases i with
   |zero=>simpa using g0
   |succ i=>
     rw [List.getElem?_cons_succ,← hphe,List.getElem?_take,if_pos (by omega),List.getElem?_drop,List.getElem?_take,if_pos (by omega),List.drop_zero,Nat.add_comm]
   ·rw [List.getElem?_append_right (by omega),hal]
    obtain ⟨k,rfl⟩:∃ k,i=33+k:=⟨i - 33,by omega⟩
    rw [Nat.add_sub_cancel_left]
    match k with
   |0=>simpa using g1
   |1=>simpa using g2
   |2=>simpa using hvd
   |k+3=>
     simp only [List.cons_append,List.nil_append,List.getElem?_cons_succ]
     by_cases h5:k<32
     ·rw [List.getElem?_append_left (by simp [hpd]; omega),← hpde,List.getElem?_take,if_pos h5,List.getElem?_drop]
      congr 1
      omega
     ·by_cases h6:k=32
      ·subst h6
       rw [List.getElem?_append_right (by simp [hpd])]
       simpa [hpd] using g3
      ·rw [List.getElem?_eq_none (by omega),List.getElem?_eq_none (by simp [hpd]; omega)]
  exact hds.trans (congr (congrArg (fun (p q:List Value)=>p ++ q) e1) e2)
/-- A state's entries out of their reading. -/
theorem ents_of_rd {w:World} {v:Value} (h:Rd w 28 [v]):∃ (a:Option Addr) (es:List Ent) (c:Nat),v=.slice a es.length c/\(a=none->c=0)/\LensOf w a es.length (es.map fun x=>x.val.assets.length) /\
  ((∀ x∈es,x.val.assets.length<=1000000)->es.length<=1000000->EntsAt w v es):=by
 obtain ⟨a,len,c,rfl,_,hn,hel⟩:=h.slice Tryz.underlying28 cc51 (by omega)
 obtain ⟨es,hes,hp⟩:=list_ofR (P:=fun i (x:Ent)=>In64 x.val.coin/\∃ L off a2 c2,a=some ⟨L,off,none⟩/\L<w.heap.size/\(x.val.assets.length<=1000000->AssetsAt w (.slice a2 x.val.assets.length c2) x.val.assets)/\∀ j u,(entCells x a2 c2)[j]?=some u->w.cell? ⟨L,off+i * 102+j,none⟩=some u) len (fun i hi=>by
  obtain ⟨L,off,cs,rfl,hL,hcl,hrd,hcs⟩:=hel i hi
  obtain ⟨x,a2,c2,rfl,hco,has⟩:=ent_of_rd hrd
  exact ⟨x,hco,L,off,a2,c2,rfl,hL,has,hcs⟩)
 subst hes
 refine ⟨a,es,c,rfl,fun e=>(hn e).2,⟨by simp,fun i m hm L off he=>?_⟩,fun h1 h2=>⟨a,c,rfl,h2,fun i x hx=>?_⟩⟩
 ·rw [List.getElem?_map] at hm
  cases hy:es[i]? with
 |none=>rw [hy] at hm; cases hm
 |some y=>
   rw [hy] at hm
   cases hm
   obtain ⟨_,L',off',a2,c2,e,_,_,hcs⟩:=hp i y hy
   rw [he] at e
   cases e
   refine ⟨a2,c2,hcs 67 _ ?_⟩
   have h1:=y.hpre
   have h2:=y.hadr
   simp only [entCells,outCells]
   rw [List.getElem?_append_right (by omega),List.getElem?_append_right (by omega),h1,h2]
   rfl
 ·obtain ⟨g1,L,off,a2,c2,e,hL,hA,hcs⟩:=hp i x hx
  exact ⟨g1,L,off,a2,c2,e,hL,hA (h1 x (List.mem_of_getElem? hx)),hcs⟩
end Go.Proofs.YtckcamlicgdklaaGreat
