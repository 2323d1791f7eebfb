/- Addresses: equality of two. totals.of: its walk. totals.each, the function of Balance, totals.Assets. -/
import Derived.Test.YtckcamlicgdklaaGreatN02
import Derived.Test.YtckcamlicgdklaaGreatN10
namespace Go.Proofs.YtckcamlicgdklaaGreat
open Go.RowKit Go.Mo
/-- An address: is it a program's; 32 bytes. -/
structure Adr where
 prog:Bool
 hash:Bs
 len:hash.length=32
deriving DecidableEq
def adrCells (a:Adr):List Value:=.bool a.prog :: a.hash.map by8
def adrV (a:Adr):Value:=.agg (adrCells a).toArray
theorem Tryz.c40:Tryz.prog.cellsOf 41=33:=by kernel_rfl
theorem Tryz.c4:Tryz.prog.cellsOf 4=1:=by kernel_rfl
theorem Tryz.k40:Tryz.prog.keyTypeAt 3 41=true:=by kernel_rfl
theorem keyLits_bool {P:Program} {D:Nat} {t:TypeId} {b:Bool} (hu:P.underlying t=some .bool):P.keyLits (D+1) t [.bool b]=some [.bool b]:=by
 unfold Program.keyLits
 simp only [hu]
theorem keyLits_adr (D:Nat) (a:Adr):Tryz.prog.keyLits (D+3) 41 (adrCells a)=some (.bool a.prog :: a.hash.map lit8):=by
 have hl:=a.len
 have hm:(a.hash.map by8).length=32:=by rw [List.length_map,hl]
 rw [keyLits_struct Tryz.underlying41 (by rw [Tryz.c40]; simp [adrCells,hl]) (by simp)]
 have h1:((adrCells a).drop 0).take (Tryz.prog.cellsOf 4)=[.bool a.prog]:=by
  rw [Tryz.c4,List.drop_zero,adrCells]; rfl
 have h2:((adrCells a).drop 1).take (Tryz.prog.cellsOf 27)=a.hash.map by8:=by
  rw [Tryz.c27,adrCells,List.drop_one,List.tail_cons,List.take_of_length_le (by omega)]
 simp only [List.mapM_cons,List.mapM_nil,h1,h2,keyLits_policy D a.hash hl,keyLits_bool Tryz.underlying4]
 simp
theorem adr_formed (a:Adr):(adrV a).formed Tryz.prog 41=true:=by
 have:=a.len
 simp [Value.formed,adrV,Tryz.underlying41,Tryz.c40,adrCells,this]
theorem adr_lits (a b:Adr):(Lit.bool a.prog :: a.hash.map lit8=Lit.bool b.prog :: b.hash.map lit8) ↔ a=b:=by
 constructor
 ·intro h
  simp only [List.cons.injEq,Lit.bool.injEq] at h
  have hp:=lit8_inj _ _ h.2
  have hn:=h.1
  cases a; cases b
  simp only at hp hn
  subst hp; subst hn
  rfl
 ·rintro rfl; rfl
theorem adr_eq (a b:Adr) (w:World):(Op.equal 41 (adrV a) (adrV b)).run Tryz.prog w=.ok (decide (a=b)) w:=by
 obtain ⟨r,hr,hiff⟩:=run_equalIn_deep (P:=Tryz.prog) 9997 3 41 Tryz.k40 w 3 3 (adrV a) (adrV b) _ _ (adr_formed a) (adr_formed b) (by simpa [adrV,Value.cells] using keyLits_adr 0 a) (by simpa [adrV,Value.cells] using keyLits_adr 0 b)
 rw [adr_lits] at hiff
 have:r=decide (a=b):=by
  cases r with
 |true=>simp [hiff.1 rfl]
 |false=>
   have:¬ a=b:=fun e=>by have:=hiff.2 e; cases this
   simp [this]
 rw [← this]
 exact hr
theorem size40:(Tryz.prog.info? 41).map (·.size)=some 33:=by kernel_rfl
theorem adrCells_length (a:Adr):(adrCells a).length=33:=by simp [adrCells,a.len]
theorem adrCells_one (a:Adr):∀ u∈adrCells a,u.oneCell'=true:=by
 intro u hu
 simp only [adrCells,List.mem_cons,List.mem_map] at hu
 rcases hu with rfl|⟨y,_,rfl⟩ <;> rfl
end Go.Proofs.YtckcamlicgdklaaGreat
namespace Go.Proofs.YtckcamlicgdklaaGreat
open Go.RowKit Go.Mo Go.Sort
/-- An entry: the cells of its place, its address, its bundle, the cells behind. -/
structure Ent where
 pre:List Value
 addr:Adr
 val:Val
 post:List Value
 hpre:pre.length=33
 hpost:post.length=34
 ones:∀ u∈pre ++ post,u.oneCell'=true
def Ent.adr (x:Ent):List Value:=adrCells x.addr
theorem Ent.hadr (x:Ent):x.adr.length=33:=adrCells_length x.addr
theorem Ent.one (x:Ent) (u:Value) (h:u∈x.pre ++ x.adr ++ x.post):u.oneCell'=true:=by
 simp only [List.mem_append] at h
 rcases h with (h|h)|h
 ·exact x.ones u (by simp [h])
 ·exact adrCells_one x.addr u h
 ·exact x.ones u (by simp [h])
def outCells (x:Ent) (a:Option Addr) (c:Nat):List Value:=x.adr ++ ([.int .i64 x.val.coin,.slice a x.val.assets.length c] ++ x.post)
def entCells (x:Ent) (a:Option Addr) (c:Nat):List Value:=x.pre ++ outCells x a c
theorem outCells_length (x:Ent) (a:Option Addr) (c:Nat):(outCells x a c).length=69:=by simp [outCells,x.hadr,x.hpost]
theorem entCells_length (x:Ent) (a:Option Addr) (c:Nat):(entCells x a c).length=102:=by simp [entCells,x.hpre,outCells_length]
theorem entCells_one (x:Ent) (a:Option Addr) (c:Nat):(entCells x a c).toArray.all (·.oneCell')=true:=by
 rw [List.all_toArray,List.all_eq_true]
 intro u hu
 simp only [entCells,outCells,List.mem_append,List.mem_cons,List.not_mem_nil,or_false] at hu
 rcases hu with h|h|(rfl|rfl)|h
 ·exact x.one u (by simp [h])
 ·exact x.one u (by simp [h])
 ·rfl
 ·rfl
 ·exact x.one u (by simp [h])
def EntsAt (w:World) (v:Value) (es:List Ent):Prop:=
 ∃ a c,v=.slice a es.length c/\es.length<=1000000/\∀ i x,es[i]?=some x->In64 x.val.coin/\∃ L off a2 c2,a=some ⟨L,off,none⟩/\L<w.heap.size/\AssetsAt w (.slice a2 x.val.assets.length c2) x.val.assets/\∀ j u,(entCells x a2 c2)[j]?=some u->w.cell? ⟨L,off+i * 102+j,none⟩=some u
theorem size51:(Tryz.prog.info? 73).map (·.size)=some 102:=by kernel_rfl
theorem size49:(Tryz.prog.info? 71).map (·.size)=some 69:=by kernel_rfl
theorem info43:(Tryz.prog.info? 65).map (fun i=>(i.zero,i.size,i.bytes))=some (some (.agg #[.int .i64 0,.slice none 0 0]),2,32):=by kernel_rfl
theorem zv51:∃ z:Array Value,(∀ w,(zeroValue 73).run Tryz.prog w=.ok (.agg z) w)/\z.size=102:=⟨_,Tryz.zeroValue73,rfl⟩
theorem ent_out {w:World} {g:Nat} {x:Ent} {a:Option Addr} {c:Nat} {T:TypeId} (h:w.heap[g]?=some (.cells (entCells x a c).toArray T (0,0))):(loadVar 71 ⟨g,33,none⟩).run Tryz.prog w=.ok (.agg (outCells x a c).toArray) w:=
 run_loadVar_mid w g 33 71 (outCells x a c) _ (fun j v hv=>by
  rw [cellB h,List.getElem?_toArray]
  simp only [entCells]
  rw [List.getElem?_append_right (by rw [x.hpre]; omega),x.hpre,show 33+j - 33=j by omega]
  exact hv) Tryz.underlying71 rfl (by rw [size49,outCells_length])
theorem ent_coin {w:World} {g:Nat} {x:Ent} {a:Option Addr} {c:Nat} {T:TypeId} (h:w.heap[g]?=some (.cells (entCells x a c).toArray T (0,0))):w.cell? ⟨g,66,none⟩=some (.int .i64 x.val.coin)/\w.cell? ⟨g,67,none⟩=some (.slice a x.val.assets.length c):=by
 rw [cellB h,cellB h]
 simp only [entCells,outCells,List.getElem?_toArray]
 have h1:=x.hpre
 have h2:=x.hadr
 constructor
 ·rw [List.getElem?_append_right (by omega),List.getElem?_append_right (by omega),h1,h2]
  rfl
 ·rw [List.getElem?_append_right (by omega),List.getElem?_append_right (by omega),h1,h2]
  rfl
def valsCells (l:List (Val×Value)):List Value:=l.flatMap fun x=>[.int .i64 x.1.coin,x.2]
theorem valsCells_get:∀ (l:List (Val×Value)) (i:Nat) (x:Val×Value),l[i]?=some x->(valsCells l)[i * 2]?=some (.int .i64 x.1.coin)/\(valsCells l)[i * 2+1]?=some x.2
|[],i,x,h=>by simp at h
|y :: l,0,x,h=>by
  simp at h; subst h
  simp [valsCells]
|y :: l,i+1,x,h=>by
  have ih:=valsCells_get l i x (by simpa using h)
  simp only [valsCells,List.flatMap_cons] at *
  rw [show (i+1) * 2=(i * 2)+2 by omega]
  simpa using ih
/-- A row of bundles that was made behind the world w. -/
def RowV (w wr:World) (v:Value) (l:List (Val×Value)):Prop:=
 (∀ x∈l,In64 x.1.coin/\AssetsAt w x.2 x.1.assets)/\wr.ownsRow 0 65 2 v l.length (valsCells l)/\∀ k,v.ownBlock=some k->w.heap.size<=k
theorem RowV.vals {w wr:World} {v:Value} {l:List (Val×Value)} (h:RowV w wr v l) (hm:Mod N0 w wr):ValsAt wr v (l.map (·.1)):=by
 obtain ⟨h1,⟨hl,⟨rfl,h0⟩|⟨g,cap,cur,rfl,_,hg,hc,_,hcs,ht⟩⟩,h3⟩:=h
 ·have:l=[]:=List.eq_nil_of_length_eq_zero h0
  subst this
  exact ⟨none,0,rfl,fun i x hx=>by simp at hx⟩
 ·refine ⟨some ⟨g,0,none⟩,cap,by simp,fun i x hx=>?_⟩
  rw [List.getElem?_map] at hx
  cases hy:l[i]? with
 |none=>rw [hy] at hx; cases hx
 |some y=>
   rw [hy] at hx
   cases hx
   have hi:i<l.length:=(List.getElem?_eq_some_iff.1 hy).1
   obtain ⟨g0,g1⟩:=valsCells_get l i y hy
   obtain ⟨k0,k1⟩:=h1 y (List.mem_of_getElem? hy)
   have cc:∀ j,j<l.length * 2->wr.cell? ⟨g,0+j,none⟩=(valsCells l)[j]?:=fun j hj=>by
    rw [Nat.zero_add,cellB hg,← ht,List.getElem?_take,if_pos hj,Array.getElem?_toList]
   refine ⟨k0,g,0,y.2,rfl,ltB hg,?_,?_,k1.tr hm⟩
   ·rw [cc _ (by omega)]; exact g0
   ·rw [Nat.add_assoc,cc _ (by omega)]; exact g1
theorem RowV.tr {w wr w':World} {v:Value} {l:List (Val×Value)} (h:RowV w wr v l) (hm:Mod N0 wr w'):RowV w w' v l:=
 ⟨h.1,ownsRow_block h.2.1 (fun k hk=>hm.block k (ownsRow_lt h.2.1 hk) (fun q=>q)),h.2.2⟩
theorem ownsRow_slice {w:World} {B s n:Nat} {e:TypeId} {v:Value} {xs:List Value} (h:w.ownsRow B e s v n xs):∃ a m c,v=.slice a m c:=by
 obtain ⟨_,⟨rfl,_⟩|⟨g,cap,cur,rfl,_⟩⟩:=h
 ·exact ⟨_,_,_,rfl⟩
 ·exact ⟨_,_,_,rfl⟩
theorem take_filter {p:Ent->Bool} {es:List Ent} {k:Nat} {x:Ent} (h:es[k]?=some x):((es.take (k+1)).filter p).map (·.val)=((es.take k).filter p).map (·.val) ++ (if p x then [x.val] else []):=by
 rw [List.take_add_one,h,List.filter_append,List.map_append]
 congr 1
 by_cases hp:p x=true <;> simp [hp]
def TofPost (w:World) (vs:List Val) (e:Ending) (w':World):Prop:=
 ∃ b u d,e=.returned (.pointer (some ⟨b,0,none⟩))/\w'.heap[b]?=some (.cells #[.int .i64 (hiW (coins vs)),.int .u64 (loW (coins vs)),u] 90 (0,0))/\w.heap.size<=b/\d.Perm ((bookV vs).filter (nzW ·.2))/\srtT d/\w'.ownsRow 0 78 35 u d.length (totsCells d)/\(∀ k,u.ownBlock=some k->w.heap.size<=k/\k≠b)/\Mod N0 w w'
set_option maxRecDepth 100000 in
set_option maxHeartbeats 4000000 in
theorem tof_all (w:World) (v:Value) (es:List Ent) (h:EntsAt w v es) (p:Ent->Bool)
  (hcall:∀ x∈es,∀ a c W,Mod N0 w W->Calls Tryz.prog 34 #[.agg (outCells x a c).toArray] W fun e w'=>e=.returned (.bool (p x))/\Mod N0 W w')
  (hbk:(bookV ((es.filter p).map (·.val))).length<=1000000):Calls Tryz.prog 30 #[.func (.func 34) #[] #[],v] w fun e w'=>TofPost w ((es.filter p).map (·.val)) e w':=by
 obtain ⟨a,c,rfl,hlen,hel⟩:=h
 have HE:=hh hel
 have HB:=hh hbk
 have HC:=hh hcall
 obtain ⟨z51,hz51,hs51⟩:=zv51
 have HZ:=hh (And.intro hz51 hs51)
 clear hel hbk hcall hz51 hs51
 go_enter Tryz.func30,Tryz.ntmps30
 go_wp2_with fail
 go_loopw [5,11] (fun v5 i wr=>∃ (k:Nat) (v':Value) (l:List (Val×Value)),k<=es.length/\v'=v5/\i=.int .i64 k/\l.map (·.1)=((es.take k).filter p).map (·.val)/\RowV w wr v' l/\Mod N0 w wr) (fun _ i _=>es.length - (intOf i).toNat)
 case atStart=>exact ⟨0,_,[],by omega,rfl,rfl,rfl,⟨fun x hx=>by simp at hx,⟨rfl,.inl ⟨rfl,rfl⟩⟩,fun k hk=>by cases hk⟩,Mod.refl _ w⟩
 case round=>
  obtain ⟨k,v5,l,hk,rfl,rfl,hl,hr,hm⟩:=hrel
  by_cases hlt:k<es.length
  ·obtain ⟨x,hx⟩:∃ x,es[k]?=some x:=⟨_,List.getElem?_eq_getElem hlt⟩
   obtain ⟨hco,L,off,a2,c2,rfl,hL,hAs,hcs⟩:=HE.out k x hx
   have hxm:x∈es:=List.mem_of_getElem? hx
   have hl51:(loadVar 73 ⟨L,off+k * 102,none⟩).run Tryz.prog wr=.ok (.agg (entCells x a2 c2).toArray) wr:=
    run_loadVar_mid wr L (off+k * 102) 73 (entCells x a2 c2) _ (fun q u hu=>(hm.cell (p:=⟨L,_,none⟩) hL (fun q=>q)).trans (hcs q u hu)) Tryz.underlying73 rfl (by rw [size51,entCells_length])
   have hZ:=newB wr (.cells z51 73)
   have hst:(storeVar 73 ⟨wr.heap.size,0,none⟩ (.agg (entCells x a2 c2).toArray)).run Tryz.prog (wr.alloc (.cells z51 73))=.ok () ((wr.alloc (.cells z51 73)).setRow wr.heap.size (entCells x a2 c2).toArray):=
    run_storeVar_row (P:=Tryz.prog) _ wr.heap.size 73 73 z51 (entCells x a2 c2).toArray hZ (by rw [size51]; simp [entCells_length]) (by rw [HZ.out.2]; simp [entCells_length]) (entCells_one x a2 c2)
   have hR:=setRow_same (cs:=(entCells x a2 c2).toArray) hZ
   have hmr:Mod N0 wr ((wr.alloc (.cells z51 73)).setRow wr.heap.size (entCells x a2 c2).toArray):=Mod_setRow ((Mod.refl _ wr).alloc (.cells z51 73)) (b:=wr.heap.size) (fun q=>by omega) _
   generalize (wr.alloc (.cells z51 73)).setRow wr.heap.size (entCells x a2 c2).toArray=w2 at hst hR hmr
   have HLD:=hh (And.intro hl51 (ent_out hR))
   have HST:=hh hst
   have hcc:=HC.out x hxm a2 c2 w2 (hm.tr hmr)
   have HF:=hh (And.intro hco (And.intro hAs (And.intro hx hl)))
   have HR:=hh (And.intro hR (And.intro (hr.tr hmr) (hm.tr hmr)))
   have HCC:=hh hcc
   clear hl51 hst hcc hR hmr hco hAs hx hl hcs hZ hr hm hxm
   go_upto_region 4 with fail
   refine wp_region_lit ?_
   refine ex (v:=.pointer (some ⟨L,off+k * 102,none⟩)) ?_
   refine wx (exec_load_at _ _ 73 _ rfl ⟨L,off+k * 102,none⟩ rfl HLD.out.1) ?_
   refine ww (exec_alloc _ _ 73 z51 rfl HZ.out.1) ?_
   refine wpList_execS rfl (exec_store _ _ rfl rfl rfl HST.out) ?_
   (try simp only [Act.put])
   go_upto_region 5 with fail
   refine wp_region_lit ?_
   refine ex (v:=.func (.func 34) #[] #[]) ?_
   refine ex (v:=.pointer (some ⟨wr.heap.size,33,none⟩)) ?_
   refine wx (exec_load_at _ _ 71 _ rfl ⟨wr.heap.size,33,none⟩ rfl HLD.out.2) ?_
   go_wp2_with fail
   refine HCC.out.mono ?_
   rintro e w3 ⟨rfl,hm3⟩
   have hR3:=(hm3.block _ (ltB HR.out.1) (fun q=>q)).trans HR.out.1
   have H3:=hh (And.intro (HR.out.2.1.tr hm3) (HR.out.2.2.tr hm3))
   obtain ⟨k66,k67⟩:=ent_coin hR3
   clear hm3 hR3
   cases hp:p x with
  |false=>
    have HP:=hh hp
    clear hp
    go_wp2_with fail
    go_roundw
    case rel=>exact ⟨k+1,_,l,by omega,rfl,by simp,by rw [take_filter HF.out.2.2.1,HP.out]; simpa using HF.out.2.2.2,H3.out.1,H3.out.2⟩
    case measure=>simp [intOf]; omega
  |true=>
    have HP:=hh hp
    obtain ⟨i43,hi,hz0,hz1,hz2⟩:=info_parts info43
    have HII:=hh (And.intro hi (And.intro hz0 (And.intro hz1 hz2)))
    have hlk:l.length<=k:=by
     have h1:=congrArg List.length HF.out.2.2.2
     simp only [List.length_map] at h1
     have h2:=List.length_filter_le p (es.take k)
     rw [List.length_take] at h2
     omega
    have HO:=hh (H3.out.1.tr ((Mod.refl N0 w3).alloc (.cells #[.int .i64 x.val.coin,.slice a2 x.val.assets.length c2] 65))).2.1
    have HRC:=hh (row_cells (cs:=[.int .i64 x.val.coin,.slice a2 x.val.assets.length c2]) (newB w3 (.cells #[.int .i64 x.val.coin,.slice a2 x.val.assets.length c2] 65)))
    clear hp hi hz0 hz1 hz2
    go_wp2_with (refine wpList_append_at _ rfl _ _ 92 rfl 65 i43 _ 2 32 Tryz.underlying92 HII.out.1 HII.out.2.1 HII.out.2.2.1 HII.out.2.2.2 rfl (by decide) v5 l.length (valsCells l) rfl HO.out ⟨w3.heap.size,0,none⟩ 1 1 [.int .i64 x.val.coin,.slice a2 x.val.assets.length c2] rfl rfl HRC.out (by intro u hu; simp only [List.mem_cons,List.not_mem_nil,or_false] at hu; rcases hu with rfl|rfl <;> rfl) (by simp only [maxLen]; omega) (by omega) ?_; intro v6 w6 ho6 hg6 hat6; have H6:=hh (And.intro ho6 (And.intro hg6 hat6)); clear ho6 hg6 hat6)
    have H7:RowV w w6 v6 (l ++ [(x.val,.slice a2 x.val.assets.length c2)]):=by
     refine ⟨fun y hy=>?_,?_,fun q hq=>?_⟩
     ·rcases List.mem_append.1 hy with h1|h1
      ·exact H3.out.1.1 y h1
      ·simp at h1; subst h1
       exact ⟨HF.out.1,HF.out.2.1⟩
     ·have:=H6.out.1
      simpa [valsCells] using this
     ·rcases H6.out.2.2 q hq with h1|h1
      ·exact H3.out.1.2.2 q h1
      ·have:=H3.out.2.size
       simp at h1
       omega
    have H8:Mod N0 w w6:=(H3.out.2.alloc _).grown H6.out.2.1 (fun q hq hl=>by have:=H3.out.1.2.2 q hq; omega)
    have H9:=hh (And.intro H7 H8)
    clear H7 H8
    go_roundw
    case rel=>exact ⟨k+1,_,_,by omega,rfl,by simp,by rw [take_filter HF.out.2.2.1,HP.out]; simpa using HF.out.2.2.2,H9.out.1,H9.out.2⟩
    case measure=>simp [intOf]; omega
  ·have e:k=es.length:=by omega
   subst e
   rw [List.take_length] at hl
   have hm1:=hm.alloc (.cells #[.int .i64 0,.int .u64 0,.slice none 0 0] 90)
   have hr1:=hr.tr ((Mod.refl N0 wr).alloc (.cells #[.int .i64 0,.int .u64 0,.slice none 0 0] 90))
   have hv:=hr1.vals hm1
   rw [hl] at hv
   have HSU:=hh (sums_calls _ v5 _ hv (by rw [List.length_map]; exact Nat.le_trans (List.length_filter_le p es) hlen) HB.out)
   have HN:=hh (newB wr (.cells #[.int .i64 0,.int .u64 0,.slice none 0 0] 90))
   have HM:=hh (And.intro hm1 hm.size)
   clear hm1 hr1 hv hr hm hl
   go_wp2_with fail
   refine HSU.out.mono ?_
   rintro e w6 ⟨u,d,rfl,h1,h2,h3,h4,h5⟩
   obtain ⟨ua,un,uc,rfl⟩:=ownsRow_slice h3
   have hb6:=(h5.block _ (ltB HN.out) (fun q=>q)).trans HN.out
   have s0:=cellB hb6 0
   have s1:=cellB hb6 1
   have s2:=cellB hb6 2
   have f0:=frozB hb6 0
   have f1:=frozB hb6 1
   have f2:=frozB hb6 2
   simp only [List.getElem?_toArray,List.getElem?_cons_zero,List.getElem?_cons_succ] at s0 s1 s2
   have H6:=hh (And.intro hb6 (And.intro h1 (And.intro h2 (And.intro h3 (And.intro h4 h5)))))
   clear hb6 h1 h2 h3 h4 h5
   unfold wideV
   go_wp2_with fail
   have hm7:Mod (fun q=>q=wr.heap.size) w6 (((w6.setCell ⟨wr.heap.size,0,none⟩ (.int .i64 (hiW (coins ((es.filter p).map (·.val)))))).setCell ⟨wr.heap.size,1,none⟩ (.int .u64 (loW (coins ((es.filter p).map (·.val)))))).setCell ⟨wr.heap.size,2,none⟩ (.slice ua un uc)):=
    (((Mod.refl (fun q=>q=wr.heap.size) w6).setCell (p:=⟨wr.heap.size,0,none⟩) (fun _=>rfl) _).setCell (p:=⟨wr.heap.size,1,none⟩) (fun _=>rfl) _).setCell (p:=⟨wr.heap.size,2,none⟩) (fun _=>rfl) _
   go_ret
   refine ⟨wr.heap.size,.slice ua un uc,d,rfl,?_,HM.out.2,H6.out.2.1,H6.out.2.2.1,?_,fun q hq=>?_,?_⟩
   ·rw [setB (setB (setB H6.out.1 0 _) 1 _) 2 _]; rfl
   ·exact ownsRow_block H6.out.2.2.2.1 (fun q hq=>hm7.block q (ownsRow_lt H6.out.2.2.2.1 hq) (fun e=>by have:=H6.out.2.2.2.2.1 q hq; simp at this; omega))
   ·have:=H6.out.2.2.2.2.1 q hq
    have:=HM.out.2
    simp at *
    omega
   ·exact (HM.out.1.tr H6.out.2.2.2.2.2).trans hm7 (fun q e hl=>by have:=HM.out.2; omega)
set_option maxRecDepth 100000 in
set_option maxHeartbeats 4000000 in
theorem tof_one (w:World) (v:Value) (es:List Ent) (h:EntsAt w v es) (q:Nat) (p:Ent->Bool)
  (hcall:∀ x∈es,∀ a c W,Mod N0 w W->Calls Tryz.prog 31 #[.agg (outCells x a c).toArray,.pointer (some ⟨q,0,none⟩)] W fun e w'=>e=.returned (.bool (p x))/\Mod N0 W w')
  (hbk:(bookV ((es.filter p).map (·.val))).length<=1000000):Calls Tryz.prog 30 #[.func (.func 31) #[] #[.pointer (some ⟨q,0,none⟩)],v] w fun e w'=>TofPost w ((es.filter p).map (·.val)) e w':=by
 obtain ⟨a,c,rfl,hlen,hel⟩:=h
 have HE:=hh hel
 have HB:=hh hbk
 have HC:=hh hcall
 obtain ⟨z51,hz51,hs51⟩:=zv51
 have HZ:=hh (And.intro hz51 hs51)
 clear hel hbk hcall hz51 hs51
 go_enter Tryz.func30,Tryz.ntmps30
 go_wp2_with fail
 go_loopw [5,11] (fun v5 i wr=>∃ (k:Nat) (v':Value) (l:List (Val×Value)),k<=es.length/\v'=v5/\i=.int .i64 k/\l.map (·.1)=((es.take k).filter p).map (·.val)/\RowV w wr v' l/\Mod N0 w wr) (fun _ i _=>es.length - (intOf i).toNat)
 case atStart=>exact ⟨0,_,[],by omega,rfl,rfl,rfl,⟨fun x hx=>by simp at hx,⟨rfl,.inl ⟨rfl,rfl⟩⟩,fun k hk=>by cases hk⟩,Mod.refl _ w⟩
 case round=>
  obtain ⟨k,v5,l,hk,rfl,rfl,hl,hr,hm⟩:=hrel
  by_cases hlt:k<es.length
  ·obtain ⟨x,hx⟩:∃ x,es[k]?=some x:=⟨_,List.getElem?_eq_getElem hlt⟩
   obtain ⟨hco,L,off,a2,c2,rfl,hL,hAs,hcs⟩:=HE.out k x hx
   have hxm:x∈es:=List.mem_of_getElem? hx
   have hl51:(loadVar 73 ⟨L,off+k * 102,none⟩).run Tryz.prog wr=.ok (.agg (entCells x a2 c2).toArray) wr:=
    run_loadVar_mid wr L (off+k * 102) 73 (entCells x a2 c2) _ (fun q u hu=>(hm.cell (p:=⟨L,_,none⟩) hL (fun q=>q)).trans (hcs q u hu)) Tryz.underlying73 rfl (by rw [size51,entCells_length])
   have hZ:=newB wr (.cells z51 73)
   have hst:(storeVar 73 ⟨wr.heap.size,0,none⟩ (.agg (entCells x a2 c2).toArray)).run Tryz.prog (wr.alloc (.cells z51 73))=.ok () ((wr.alloc (.cells z51 73)).setRow wr.heap.size (entCells x a2 c2).toArray):=
    run_storeVar_row (P:=Tryz.prog) _ wr.heap.size 73 73 z51 (entCells x a2 c2).toArray hZ (by rw [size51]; simp [entCells_length]) (by rw [HZ.out.2]; simp [entCells_length]) (entCells_one x a2 c2)
   have hR:=setRow_same (cs:=(entCells x a2 c2).toArray) hZ
   have hmr:Mod N0 wr ((wr.alloc (.cells z51 73)).setRow wr.heap.size (entCells x a2 c2).toArray):=Mod_setRow ((Mod.refl _ wr).alloc (.cells z51 73)) (b:=wr.heap.size) (fun q=>by omega) _
   generalize (wr.alloc (.cells z51 73)).setRow wr.heap.size (entCells x a2 c2).toArray=w2 at hst hR hmr
   have HLD:=hh (And.intro hl51 (ent_out hR))
   have HST:=hh hst
   have hcc:=HC.out x hxm a2 c2 w2 (hm.tr hmr)
   have HF:=hh (And.intro hco (And.intro hAs (And.intro hx hl)))
   have HR:=hh (And.intro hR (And.intro (hr.tr hmr) (hm.tr hmr)))
   have HCC:=hh hcc
   clear hl51 hst hcc hR hmr hco hAs hx hl hcs hZ hr hm hxm
   go_upto_region 4 with fail
   refine wp_region_lit ?_
   refine ex (v:=.pointer (some ⟨L,off+k * 102,none⟩)) ?_
   refine wx (exec_load_at _ _ 73 _ rfl ⟨L,off+k * 102,none⟩ rfl HLD.out.1) ?_
   refine ww (exec_alloc _ _ 73 z51 rfl HZ.out.1) ?_
   refine wpList_execS rfl (exec_store _ _ rfl rfl rfl HST.out) ?_
   (try simp only [Act.put])
   go_upto_region 5 with fail
   refine wp_region_lit ?_
   refine ex (v:=.func (.func 31) #[] #[.pointer (some ⟨q,0,none⟩)]) ?_
   refine ex (v:=.pointer (some ⟨wr.heap.size,33,none⟩)) ?_
   refine wx (exec_load_at _ _ 71 _ rfl ⟨wr.heap.size,33,none⟩ rfl HLD.out.2) ?_
   go_wp2_with fail
   refine HCC.out.mono ?_
   rintro e w3 ⟨rfl,hm3⟩
   have hR3:=(hm3.block _ (ltB HR.out.1) (fun q=>q)).trans HR.out.1
   have H3:=hh (And.intro (HR.out.2.1.tr hm3) (HR.out.2.2.tr hm3))
   obtain ⟨k66,k67⟩:=ent_coin hR3
   clear hm3 hR3
   cases hp:p x with
  |false=>
    have HP:=hh hp
    clear hp
    go_wp2_with fail
    go_roundw
    case rel=>exact ⟨k+1,_,l,by omega,rfl,by simp,by rw [take_filter HF.out.2.2.1,HP.out]; simpa using HF.out.2.2.2,H3.out.1,H3.out.2⟩
    case measure=>simp [intOf]; omega
  |true=>
    have HP:=hh hp
    obtain ⟨i43,hi,hz0,hz1,hz2⟩:=info_parts info43
    have HII:=hh (And.intro hi (And.intro hz0 (And.intro hz1 hz2)))
    have hlk:l.length<=k:=by
     have h1:=congrArg List.length HF.out.2.2.2
     simp only [List.length_map] at h1
     have h2:=List.length_filter_le p (es.take k)
     rw [List.length_take] at h2
     omega
    have HO:=hh (H3.out.1.tr ((Mod.refl N0 w3).alloc (.cells #[.int .i64 x.val.coin,.slice a2 x.val.assets.length c2] 65))).2.1
    have HRC:=hh (row_cells (cs:=[.int .i64 x.val.coin,.slice a2 x.val.assets.length c2]) (newB w3 (.cells #[.int .i64 x.val.coin,.slice a2 x.val.assets.length c2] 65)))
    clear hp hi hz0 hz1 hz2
    go_wp2_with (refine wpList_append_at _ rfl _ _ 92 rfl 65 i43 _ 2 32 Tryz.underlying92 HII.out.1 HII.out.2.1 HII.out.2.2.1 HII.out.2.2.2 rfl (by decide) v5 l.length (valsCells l) rfl HO.out ⟨w3.heap.size,0,none⟩ 1 1 [.int .i64 x.val.coin,.slice a2 x.val.assets.length c2] rfl rfl HRC.out (by intro u hu; simp only [List.mem_cons,List.not_mem_nil,or_false] at hu; rcases hu with rfl|rfl <;> rfl) (by simp only [maxLen]; omega) (by omega) ?_; intro v6 w6 ho6 hg6 hat6; have H6:=hh (And.intro ho6 (And.intro hg6 hat6)); clear ho6 hg6 hat6)
    have H7:RowV w w6 v6 (l ++ [(x.val,.slice a2 x.val.assets.length c2)]):=by
     refine ⟨fun y hy=>?_,?_,fun q hq=>?_⟩
     ·rcases List.mem_append.1 hy with h1|h1
      ·exact H3.out.1.1 y h1
      ·simp at h1; subst h1
       exact ⟨HF.out.1,HF.out.2.1⟩
     ·have:=H6.out.1
      simpa [valsCells] using this
     ·rcases H6.out.2.2 q hq with h1|h1
      ·exact H3.out.1.2.2 q h1
      ·have:=H3.out.2.size
       simp at h1
       omega
    have H8:Mod N0 w w6:=(H3.out.2.alloc _).grown H6.out.2.1 (fun q hq hl=>by have:=H3.out.1.2.2 q hq; omega)
    have H9:=hh (And.intro H7 H8)
    clear H7 H8
    go_roundw
    case rel=>exact ⟨k+1,_,_,by omega,rfl,by simp,by rw [take_filter HF.out.2.2.1,HP.out]; simpa using HF.out.2.2.2,H9.out.1,H9.out.2⟩
    case measure=>simp [intOf]; omega
  ·have e:k=es.length:=by omega
   subst e
   rw [List.take_length] at hl
   have hm1:=hm.alloc (.cells #[.int .i64 0,.int .u64 0,.slice none 0 0] 90)
   have hr1:=hr.tr ((Mod.refl N0 wr).alloc (.cells #[.int .i64 0,.int .u64 0,.slice none 0 0] 90))
   have hv:=hr1.vals hm1
   rw [hl] at hv
   have HSU:=hh (sums_calls _ v5 _ hv (by rw [List.length_map]; exact Nat.le_trans (List.length_filter_le p es) hlen) HB.out)
   have HN:=hh (newB wr (.cells #[.int .i64 0,.int .u64 0,.slice none 0 0] 90))
   have HM:=hh (And.intro hm1 hm.size)
   clear hm1 hr1 hv hr hm hl
   go_wp2_with fail
   refine HSU.out.mono ?_
   rintro e w6 ⟨u,d,rfl,h1,h2,h3,h4,h5⟩
   obtain ⟨ua,un,uc,rfl⟩:=ownsRow_slice h3
   have hb6:=(h5.block _ (ltB HN.out) (fun q=>q)).trans HN.out
   have s0:=cellB hb6 0
   have s1:=cellB hb6 1
   have s2:=cellB hb6 2
   have f0:=frozB hb6 0
   have f1:=frozB hb6 1
   have f2:=frozB hb6 2
   simp only [List.getElem?_toArray,List.getElem?_cons_zero,List.getElem?_cons_succ] at s0 s1 s2
   have H6:=hh (And.intro hb6 (And.intro h1 (And.intro h2 (And.intro h3 (And.intro h4 h5)))))
   clear hb6 h1 h2 h3 h4 h5
   unfold wideV
   go_wp2_with fail
   have hm7:Mod (fun q=>q=wr.heap.size) w6 (((w6.setCell ⟨wr.heap.size,0,none⟩ (.int .i64 (hiW (coins ((es.filter p).map (·.val)))))).setCell ⟨wr.heap.size,1,none⟩ (.int .u64 (loW (coins ((es.filter p).map (·.val)))))).setCell ⟨wr.heap.size,2,none⟩ (.slice ua un uc)):=
    (((Mod.refl (fun q=>q=wr.heap.size) w6).setCell (p:=⟨wr.heap.size,0,none⟩) (fun _=>rfl) _).setCell (p:=⟨wr.heap.size,1,none⟩) (fun _=>rfl) _).setCell (p:=⟨wr.heap.size,2,none⟩) (fun _=>rfl) _
   go_ret
   refine ⟨wr.heap.size,.slice ua un uc,d,rfl,?_,HM.out.2,H6.out.2.1,H6.out.2.2.1,?_,fun q hq=>?_,?_⟩
   ·rw [setB (setB (setB H6.out.1 0 _) 1 _) 2 _]; rfl
   ·exact ownsRow_block H6.out.2.2.2.1 (fun q hq=>hm7.block q (ownsRow_lt H6.out.2.2.2.1 hq) (fun e=>by have:=H6.out.2.2.2.2.1 q hq; simp at this; omega))
   ·have:=H6.out.2.2.2.2.1 q hq
    have:=HM.out.2
    simp at *
    omega
   ·exact (HM.out.1.tr H6.out.2.2.2.2.2).trans hm7 (fun q e hl=>by have:=HM.out.2; omega)
end Go.Proofs.YtckcamlicgdklaaGreat
namespace Go.Proofs.YtckcamlicgdklaaGreat
open Go.RowKit Go.Mo Go.Sort
theorem each_calls (x:Ent) (a:Option Addr) (c:Nat) (w:World):Calls Tryz.prog 34 #[.agg (outCells x a c).toArray] w fun e w'=>e=.returned (.bool true)/\Mod N0 w w':=by
 go_enter Tryz.func34,Tryz.ntmps34
 go_wp2_with fail
 go_ret
 exact ⟨rfl,(Mod.refl _ w).alloc _⟩
theorem out_adr {w:World} {g:Nat} {x:Ent} {a:Option Addr} {c:Nat} {T:TypeId} (h:w.heap[g]?=some (.cells (outCells x a c).toArray T (0,0))):(loadVar 41 ⟨g,0,none⟩).run Tryz.prog w=.ok (.agg (adrCells x.addr).toArray) w:=
 run_loadVar_mid w g 0 41 (adrCells x.addr) _ (fun j v hv=>by
  rw [Nat.zero_add,cellB h,List.getElem?_toArray]
  have hj:j<(adrCells x.addr).length:=(List.getElem?_eq_some_iff.1 hv).1
  have hh:=x.hadr
  unfold Ent.adr at hh
  simp only [outCells,Ent.adr]
  rw [List.getElem?_append_left (by omega)]
  exact hv) Tryz.underlying41 rfl (by rw [size40,adrCells_length])
theorem load40 {w:World} {g:Nat} {a:Adr} {T:TypeId} (h:w.heap[g]?=some (.cells (adrCells a).toArray T (0,0))):(loadVar 41 ⟨g,0,none⟩).run Tryz.prog w=.ok (.agg (adrCells a).toArray) w:=
 run_loadVar_mid w g 0 41 (adrCells a) _ (fun j v hv=>by rw [Nat.zero_add,cellB h,List.getElem?_toArray]; exact hv) Tryz.underlying41 rfl (by rw [size40,adrCells_length])
theorem exec_eql40 (act:Act) (o:Oper) {w:World} {x y:Operand} {R:TypeId} (ho:o.op=.binOp .eql 41 x y R) (a b:Adr) (hx:act.eval x=.agg (adrCells a).toArray) (hy:act.eval y=.agg (adrCells b).toArray):(execOp act.eval o).run Tryz.prog w=.ok (.value (.bool (decide (a=b)))) w:=by
 have h:=adr_eq a b w
 unfold adrV at h
 unfold execOp
 simp only [ho,hx,hy,Sem.run_bind,Sem.run_pure]
 have hgt:Tryz.prog.eqGuardType Tryz.prog.depth 41=false:=by kernel_rfl
 have hg:(eqGuard .eql 41 x y (.agg (adrCells a).toArray) (.agg (adrCells b).toArray)).run Tryz.prog w=.ok () w:=by
  unfold eqGuard
  simp [hgt]
 have hb:(binOp .eql 41 (.agg (adrCells a).toArray) (.agg (adrCells b).toArray)).run Tryz.prog w=.ok (.bool (decide (a=b))) w:=by
  unfold binOp
  simp [h]
 rw [hg]
 simp only [Result.andThen_ok,hb]
set_option maxRecDepth 100000 in
theorem bal1_calls (x:Ent) (a:Option Addr) (c:Nat) (q:Nat) (t:Adr) (w:World) (h:w.heap[q]?=some (.cells (adrCells t).toArray 41 (0,0))):Calls Tryz.prog 31 #[.agg (outCells x a c).toArray,.pointer (some ⟨q,0,none⟩)] w fun e w'=>e=.returned (.bool (decide (x.addr=t)))/\Mod N0 w w':=by
 obtain ⟨w1,hw1⟩:∃ w1,w.alloc (.cells (outCells x a c).toArray 71)=w1:=⟨_,rfl⟩
 have hb:w1.heap[w.heap.size]?=some (.cells (outCells x a c).toArray 71 (0,0)):=by rw [← hw1]; exact newB w _
 have hq:w1.heap[q]?=some (.cells (adrCells t).toArray 41 (0,0)):=by rw [← hw1]; exact allocB h _
 have hm:Mod N0 w w1:=by rw [← hw1]; exact (Mod.refl _ w).alloc _
 have HL:=hh (And.intro (out_adr hb) (load40 hq))
 have HM:=hh hm
 clear hb hq hm h
 go_enter Tryz.func31,Tryz.ntmps31
 go_wp2_with (first
 |(refine wpList_exec rfl (exec_load_row _ _ 41 _ rfl w.heap.size rfl _ HL.out.1) ?_)
 |(refine wpList_exec rfl (exec_load_row _ _ 41 _ rfl q rfl _ HL.out.2) ?_)
 |(refine wpList_exec rfl (exec_eql40 _ _ rfl x.addr t rfl rfl) ?_))
 go_ret
 exact ⟨rfl,HM.out⟩
/-- A state's cells: its entries, fees, forfeits. -/
structure StC (cs:List Value) (sv:Value) (fees forf:Int):Prop where
 len:cs.length=182
 ents:cs[44]?=some sv
 fees:cs[177]?=some (.int .i64 fees)
 forf:cs[178]?=some (.int .i64 forf)
def AssetsPost (w:World) (vs:List Val) (e:Ending) (w':World):Prop:=
 ∃ u d,e=.returned u/\d.Perm ((bookV vs).filter (nzW ·.2))/\srtT d/\w'.ownsRow 0 78 35 u d.length (totsCells d)/\(∀ k,u.ownBlock=some k->w.heap.size<=k)/\Mod N0 w w'
theorem EntsAt.tr {w w':World} {v:Value} {es:List Ent} (h:EntsAt w v es) (hm:Mod N0 w w'):EntsAt w' v es:=by
 obtain ⟨a,c,rfl,hl,h⟩:=h
 refine ⟨a,c,rfl,hl,fun i x hx=>?_⟩
 obtain ⟨h1,L,off,a2,c2,rfl,hL,hA,h2⟩:=h i x hx
 exact ⟨h1,L,off,a2,c2,rfl,Nat.lt_of_lt_of_le hL hm.size,hA.tr hm,fun j u hu=>(hm.cell (p:=⟨L,_,none⟩) hL (fun q=>q)).trans (h2 j u hu)⟩
theorem filter_all (es:List Ent):es.filter (fun _=>true)=es:=by simp
set_option maxRecDepth 100000 in
set_option maxHeartbeats 1000000 in
theorem assets_calls (w:World) (cs:List Value) (sv:Value) (fees forf:Int) (hc:StC cs sv fees forf) (es:List Ent) (h:EntsAt w sv es) (hbk:(bookV (es.map (·.val))).length<=1000000) :
  Calls Tryz.prog 12 #[.agg cs.toArray] w fun e w'=>AssetsPost w (es.map (·.val)) e w':=by
 obtain ⟨w1,hw1⟩:∃ w1,w.alloc (.cells cs.toArray 36)=w1:=⟨_,rfl⟩
 have hb:w1.heap[w.heap.size]?=some (.cells cs.toArray 36 (0,0)):=by rw [← hw1]; exact newB w _
 have hm:Mod N0 w w1:=by rw [← hw1]; exact (Mod.refl _ w).alloc _
 have s44:w1.cell? ⟨w.heap.size,44,none⟩=some sv:=by rw [cellB hb,List.getElem?_toArray]; exact hc.ents
 have HT:=hh (tof_all w1 sv es (h.tr hm) (fun _=>true) (fun x _ a c W _=>each_calls x a c W) (by rw [filter_all]; exact hbk))
 rw [filter_all] at HT
 have HM:=hh hm
 obtain ⟨sa,sc,rfl,_⟩:=h
 clear hb hm hc hbk
 go_enter Tryz.func12,Tryz.ntmps12
 go_wp2_with fail
 refine HT.out.mono ?_
 rintro e w2 ⟨b,u,d,rfl,hb2,hb,h1,h2,h3,h4,h5⟩
 obtain ⟨ua,un,uc,rfl⟩:=ownsRow_slice h3
 have s2:w2.cell? ⟨b,2,none⟩=some (.slice ua un uc):=(cellB hb2 2).trans rfl
 have H:=hh (And.intro h1 (And.intro h2 (And.intro h3 (And.intro h4 (HM.out.tr h5)))))
 have hs:=HM.out.size
 clear hb2 h1 h2 h3 h4 h5
 go_wp2_with fail
 go_ret
 exact ⟨_,d,rfl,H.out.1,H.out.2.1,H.out.2.2.1,fun k hk=>by have:=H.out.2.2.2.1 k hk; omega,H.out.2.2.2.2⟩
end Go.Proofs.YtckcamlicgdklaaGreat
