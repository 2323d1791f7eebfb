/- slices.SortFunc at totals. book.totals whole; steps of lists for Sums. value.Sums: its walk. -/
import Derived.Test.YtckcamlicgdklaaGreatN08
import Derived.Test.YtckcamlicgdklaaGreatN09
import Derived.Shelf.SlSortCmp.NoneTotal
import Derived.Deep.Cut
import Derived.Deep.CutBlock
namespace Go.Proofs.YtckcamlicgdklaaGreat
open Go.RowKit Go.Mo Go.Sort
instance:Inhabited Nm:=⟨⟨List.replicate 32 0,[],by simp,by simp⟩⟩
theorem tots_get:∀ (ds:List (Nm×Int)) (t:Nat),t<ds.length * 35->(totsCells ds)[t]?=some ((totCells ds[t / 35]!)[t % 35]!)
|[],t,h=>by simp at h
|x :: ds,t,h=>by
  have hl:=totCells_length x
  simp only [totsCells,List.flatMap_cons]
  by_cases ht:t<35
  ·rw [List.getElem?_append_left (by omega)]
   have e1:t / 35=0:=by omega
   have e2:t % 35=t:=by omega
   rw [e1,e2]
   simp [hl,ht]
  ·rw [List.getElem?_append_right (by omega),hl]
   simp only [List.length_cons] at h
   have ih:=tots_get ds (t - 35) (by omega)
   unfold totsCells at ih
   rw [ih]
   have e1:t / 35=(t - 35) / 35+1:=by omega
   have e2:t % 35=(t - 35) % 35:=by omega
   rw [e1,e2]
   simp
theorem flat_tots (ds:List (Nm×Int)):(flatK totCells 35 ds.toArray).toList=totsCells ds:=by
 apply List.ext_getElem?
 intro t
 by_cases ht:t<ds.length * 35
 ·rw [tots_get ds t ht]
  have:=get_flatK totCells 35 ds.toArray t (by simpa using ht)
  rw [Array.getElem?_toList]
  have hs:t<(flatK totCells 35 ds.toArray).size:=by simpa using ht
  rw [Array.getElem?_eq_getElem hs]
  rw [getElem!_pos _ t hs] at this
  rw [this]
  simp
 ·rw [List.getElem?_eq_none (by simp; omega),List.getElem?_eq_none (by rw [totsCells_length]; omega)]
theorem holds_of {w:World} {blk n:Nat} {cur:Array Value} {ds:List (Nm×Int)} (h:w.heap[blk]?=some (.cells cur 78 (0,0))) (hn:ds.length=n) (ht:cur.toList.take (n * 35)=totsCells ds):HoldsK totCells 35 w blk 0 ds.toArray:=by
 intro j hj
 have hj':j<ds.length * 35:=by simpa using hj
 refine ⟨?_,frozB h _⟩
 rw [Nat.zero_add,cellB h]
 have e:=flat_tots ds
 rw [← ht] at e
 have e2:((flatK totCells 35 ds.toArray).toList)[j]?=cur.toList[j]?:=by
  rw [e,List.getElem?_take,if_pos (by omega)]
 rw [Array.getElem?_toList] at e2
 rw [Array.getElem?_eq_getElem hj] at e2
 rw [getElem!_pos _ j hj]
 rw [Array.getElem?_toList] at e2
 exact e2.symm
theorem take_put (cur:Array Value) (ds:List (Nm×Int)) (n:Nat) (hn:ds.length=n) (h:n * 35<=cur.size):(putCells id 0 (flatK totCells 35 ds.toArray) cur).toList.take (n * 35)=totsCells ds:=by
 rw [← flat_tots ds]
 apply List.ext_getElem?
 intro t
 have hs:(flatK totCells 35 ds.toArray).size=n * 35:=by rw [size_flatK]; simp [hn]
 rw [List.getElem?_take]
 by_cases ht:t<n * 35
 ·rw [if_pos ht,Array.getElem?_toList,Array.getElem?_toList]
  simp only [putCells,Array.getElem?_mapIdx,id]
  rw [Array.getElem?_eq_getElem (by omega),Array.getElem?_eq_getElem (by omega)]
  simp only [Option.map_some]
  rw [if_pos (by rw [hs]; omega),Nat.sub_zero,getElem!_pos _ t (by omega)]
 ·rw [if_neg ht,Array.getElem?_toList,Array.getElem?_eq_none (by omega)]
theorem cmp_lays (blk n:Nat) (w:World):CmpLays Tryz.prog 117 #[] totCells 35 cmpT blk 0 n w:=
 fun _ _ _ _ x y=>(less_calls x y _).mono fun _ _ h=>h
theorem sorted_list {d':Array (Nm×Int)} {n:Nat} (hn:d'.size=n) (h:SortedIn (ltOf cmpT) 0 n d'):srtT d'.toList:=by
 unfold srtT
 rw [List.pairwise_iff_getElem]
 intro i j hi hj hij
 simp only [Array.length_toList] at hi hj
 have:=h i j (Nat.zero_le _) hij (by omega)
 rw [getElem!_pos d' i hi,getElem!_pos d' j hj] at this
 simpa [ltOf,cmpT] using this
set_option maxHeartbeats 1000000 in
theorem sort_calls (w:World) (v:Value) (d:List (Nm×Int)) (wr:World) (ho:OutAt w wr v d) (hd:d.length<=1000000) (hm:Mod N0 w wr) :
  Calls Tryz.prog 116 #[v,.func (.func 117) #[] #[]] wr fun e w'=>e=ret0/\∃ d',d'.Perm d/\srtT d'/\OutAt w w' v d'/\Mod N0 w w':=by
 obtain ⟨⟨hl,⟨rfl,h0⟩|⟨g,cap,cur,rfl,hb,hg,hc,hcm,hcs,ht⟩⟩,hk⟩:=ho
 ·have hd0:d=[]:=List.eq_nil_of_length_eq_zero h0
  subst hd0
  have hcon:=Proofs.AnyF.slices_SortFunc_none Tryz.sortTot none 0 (.func (.func 117) #[] #[]) wr
  change Calls Tryz.prog 116 _ _ _ at hcon
  refine hcon.mono ?_
  rintro e w' ⟨rfl,rfl⟩
  exact ⟨rfl,[],List.Perm.refl _,List.Pairwise.nil,⟨⟨rfl,.inl ⟨rfl,rfl⟩⟩,fun k hk=>by cases hk⟩,hm⟩
 ·have hH:=holds_of hg rfl ht
  have eg:∀ args w,(callFunc 117 args).run Tryz.prog w=.ok (.enter 117 args) w:=enters_of Tryz.func117 (by kernel_rfl) rfl
  have hcon:=Proofs.AnyQ.slices_SortFunc Tryz.sortTot 35 Tryz.isAgg78 Tryz.sizeOf78 totCells totCells_length totCells_one cmpT swoT 117 #[] g 0 cap d.toArray wr eg (cmp_lays g _ wr) hH (ltB hg) (by simp; omega)
  change Calls Tryz.prog 116 _ _ _ at hcon
  refine hcon.mono ?_
  rintro e w' ⟨rfl,d',m,os,hp,hs,rfl⟩
  have hsz:d'.size=d.length:=by have:=hp.1; simpa using this
  have hgw:w.heap.size<g:=hk g rfl
  have hglt:=ltB hg
  have hmg:Mod (fun k=>k=g) wr (sortWorldK totCells 35 wr g 0 m d' os):=by
   unfold sortWorldK putRowK putRow mapBlock Go.Sort.ahead
   refine ⟨rfl,rfl,rfl,by simp [grow],fun k hk hn=>?_⟩
   simp only [grow]
   rw [Array.getElem?_append_left (by simpa using hk),Array.getElem?_modify,if_neg (fun e=>hn e.symm)]
  have hrow:(sortWorldK totCells 35 wr g 0 m d' os).heap[g]?=some (.cells (putCells id 0 (flatK totCells 35 d') cur) 78 (0,0)):=by
   unfold sortWorldK putRowK putRow mapBlock Go.Sort.ahead
   simp only [grow]
   rw [Array.getElem?_append_left (by simpa using hglt),Array.getElem?_modify,if_pos rfl,hg]
   rfl
  refine ⟨rfl,d'.toList,?_,sorted_list hsz (by simpa using hs),⟨⟨?_,.inr ⟨g,cap,_,?_,hb,hrow,?_,hcm,?_,?_⟩⟩,?_⟩,?_⟩
  ·have h3:=hp.2.2
   have e1:(d'.extract 0 d.toArray.size)=d':=by rw [show d.toArray.size=d'.size by rw [hsz]; simp]; exact Array.extract_size
   have e2:(d.toArray.extract 0 d.toArray.size)=d.toArray:=Array.extract_size
   rw [e1,e2] at h3
   simpa using h3
  ·rw [totsCells_length]
  ·simp [hsz]
  ·simpa [hsz] using hc
  ·simp [putCells,hcs]
  ·rw [Array.length_toList]
   have:=take_put cur d'.toList d'.size (by simp) (by rw [hcs,hsz]; exact Nat.mul_le_mul_right _ hc)
   simpa using this
  ·intro k hk'
   cases hk'
   exact hgw
  ·exact hm.trans hmg (fun k hk hl=>by omega)
end Go.Proofs.YtckcamlicgdklaaGreat
namespace Go.Proofs.YtckcamlicgdklaaGreat
open Go.RowKit Go.Mo Go.Sort
theorem totals_ok (w:World) (b:Nat) (l:List (Nm×Int)) (h:w.heap[b]?=some (nmap (wv l))) (hn:l.length<=1000000):Calls Tryz.prog 65 #[.map (some b)] w fun e w'=>TotsPost w l e w':=
 totals_calls w b l h hn (fun v d wr ho hd hm=>sort_calls w v d wr ho hd hm)
theorem exec_alloc (act:Act) (o:Oper) {w:World} (T:TypeId) (z:Array Value) (ho:o.op=.alloc T) (hz:∀ w,(zeroValue T).run Tryz.prog w=.ok (.agg z) w):(execOp act.eval o).run Tryz.prog w=.ok (.value (.pointer (some ⟨w.heap.size,0,none⟩))) (w.alloc (.cells z T)):=by
 unfold execOp
 simp only [ho,Instr.alloc,Sem.run_bind,hz,Result.andThen_ok]
 simp [newVar,newRow,newObj,Sem.run,Value.cells]
def zero97:Array Value:=(List.replicate 32 (Value.int .u8 0) ++ [Value.string ⟨#[]⟩,.int .i64 0]).toArray
theorem zv97 (w:World):(zeroValue 76).run Tryz.prog w=.ok (.agg zero97) w:=by kernel_rfl
theorem size97:(Tryz.prog.info? 76).map (·.size)=some 34:=by kernel_rfl
theorem asCells_length (a:Nm) (z:Int):(asCells a z).length=34:=by simp [asCells,nmCells,a.len]
theorem asCells_one (a:Nm) (z:Int):(asCells a z).toArray.all (·.oneCell')=true:=by simp [asCells,nmCells,by8,Value.oneCell']
end Go.Proofs.YtckcamlicgdklaaGreat
namespace Go.Proofs.YtckcamlicgdklaaGreat
open Go.RowKit Go.Mo Go.Sort
/-- A bundle: a coin, assets. -/
structure Val where
 coin:Int
 assets:List (Nm×Int)
def In64 (z:Int):Prop:=-9223372036854775808<=z/\z<=9223372036854775807
def AssetsAt (w:World) (v:Value) (xs:List (Nm×Int)):Prop:=
 ∃ a c,v=.slice a xs.length c/\xs.length<=1000000/\∀ i x,xs[i]?=some x->In64 x.2/\∃ L off,a=some ⟨L,off,none⟩/\L<w.heap.size/\∀ j u,(asCells x.1 x.2)[j]?=some u->w.cell? ⟨L,off+i * 34+j,none⟩=some u
def ValsAt (w:World) (v:Value) (vs:List Val):Prop:=
 ∃ a c,v=.slice a vs.length c/\∀ i x,vs[i]?=some x->In64 x.coin/\∃ L off av,a=some ⟨L,off,none⟩/\L<w.heap.size/\w.cell? ⟨L,off+i * 2,none⟩=some (.int .i64 x.coin)/\w.cell? ⟨L,off+i * 2+1,none⟩=some av/\AssetsAt w av x.assets
theorem AssetsAt.tr {w w':World} {v:Value} {xs:List (Nm×Int)} (h:AssetsAt w v xs) (hm:Mod N0 w w'):AssetsAt w' v xs:=by
 obtain ⟨a,c,rfl,hl,h⟩:=h
 refine ⟨a,c,rfl,hl,fun i x hx=>?_⟩
 obtain ⟨h1,L,off,rfl,hL,h2⟩:=h i x hx
 exact ⟨h1,L,off,rfl,Nat.lt_of_lt_of_le hL hm.size,fun j u hu=>(hm.cell (p:=⟨L,_,none⟩) hL (fun q=>q)).trans (h2 j u hu)⟩
def bookA (l:List (Nm×Int)) (xs:List (Nm×Int)):List (Nm×Int):=xs.foldl (fun l x=>upN l x.1 (getW l x.1+x.2)) l
def bookV (vs:List Val):List (Nm×Int):=vs.foldl (fun l v=>bookA l v.assets) []
theorem bookA_snoc {l xs:List (Nm×Int)} {k:Nat} {x:Nm×Int} (h:xs[k]?=some x):bookA l (xs.take (k+1))=upN (bookA l (xs.take k)) x.1 (getW (bookA l (xs.take k)) x.1+x.2):=by
 rw [List.take_add_one,h]
 simp [bookA,List.foldl_append]
theorem bookV_snoc {vs:List Val} {k:Nat} {x:Val} (h:vs[k]?=some x):bookV (vs.take (k+1))=bookA (bookV (vs.take k)) x.assets:=by
 rw [List.take_add_one,h]
 simp [bookV,List.foldl_append]
theorem plus2 (W:World) (a b:Int):Calls Tryz.prog 60 #[.slice (some ⟨W.heap.size,0,none⟩) 2 2] (W.alloc (.cells #[.int .i64 (hiW a),.int .u64 (loW a),.int .i64 (hiW b),.int .u64 (loW b)] 48)) fun e w'=>e=.returned (wideV (a+b))/\Mod N0 (W.alloc (.cells #[.int .i64 (hiW a),.int .u64 (loW a),.int .i64 (hiW b),.int .u64 (loW b)] 48)) w':=by
 have hB:=newB W (.cells #[.int .i64 (hiW a),.int .u64 (loW a),.int .i64 (hiW b),.int .u64 (loW b)] 48)
 have:=plus_calls (W.alloc (.cells #[.int .i64 (hiW a),.int .u64 (loW a),.int .i64 (hiW b),.int .u64 (loW b)] 48)) (.slice (some ⟨W.heap.size,0,none⟩) 2 2) [a,b] ⟨some ⟨W.heap.size,0,none⟩,2,rfl,fun i y hy=>by
  have hi:i<2:=by have:=(List.getElem?_eq_some_iff.1 hy).1; simpa using this
  have:i=0∨i=1:=by omega
  rcases this with rfl|rfl
  ·simp at hy; subst hy
   exact ⟨_,0,rfl,ltB hB,by rw [cellB hB]; rfl,by rw [cellB hB]; rfl⟩
  ·simp at hy; subst hy
   exact ⟨_,0,rfl,ltB hB,by rw [cellB hB]; rfl,by rw [cellB hB]; rfl⟩⟩ (by simp)
 simpa using this
theorem store57 (w:World) (g:Nat) (z:Int) {x y:Value} (h:w.heap[g]?=some (.cells #[x,y] 48 (0,0))):(storeVar 48 ⟨g,0,none⟩ (.agg #[.int .i64 (hiW z),.int .u64 (loW z)])).run Tryz.prog w=.ok () (w.setRow g #[.int .i64 (hiW z),.int .u64 (loW z)]):=
 run_storeVar_row (P:=Tryz.prog) w g 48 48 #[x,y] #[.int .i64 (hiW z),.int .u64 (loW z)] h (by rw [size57]; rfl) rfl (by simp [Value.oneCell'])
theorem res14 {tmps:Array Value} {b:Nat} {W:World} {x y u:Value} (ht:tmps[2]?.getD undef=.pointer (some ⟨b,0,none⟩)) (hu:tmps[3]?.getD undef=u) (h:W.heap[b]?=some (.cells #[x,y] 48 (0,0))):(results Tryz.f57 tmps).run Tryz.prog W=.ok (.tuple #[.agg #[x,y],u]) W:=by
 have s0:=cellB h 0
 have s1:=cellB h 1
 simp only [List.getElem?_toArray,List.getElem?_cons_zero,List.getElem?_cons_succ] at s0 s1
 simp [results,Tryz.results57,go_sem,ht,hu,s0,s1]
theorem step_execS {ops:Array Oper} {o:Oper} {a:Act} {w w':World} {K:Act->World->Prop} {Q:Exit->Act->World->Prop} {E:Prop} (hgd:o.guard=none) (hv:(execOp a.eval o).run Tryz.prog w=.ok .skip w') (h:K (a.put o.dst undef) w'):if Region.wanted o (yielded ops a.tmps)=true then Oper.wp Tryz.prog o a w K Q else E:=by
 rw [if_pos (by simp [Region.wanted,hgd])]
 unfold Oper.wp
 rw [hv]
 exact h
theorem step_exec {ops:Array Oper} {o:Oper} {a:Act} {w w':World} {K:Act->World->Prop} {Q:Exit->Act->World->Prop} {E:Prop} (hgd:o.guard=none) {v:Value} (hv:(execOp a.eval o).run Tryz.prog w=.ok (.value v) w') (h:K (a.put o.dst v) w'):if Region.wanted o (yielded ops a.tmps)=true then Oper.wp Tryz.prog o a w K Q else E:=by
 rw [if_pos (by simp [Region.wanted,hgd])]
 unfold Oper.wp
 rw [hv]
 exact h
theorem exec_load_at (act:Act) (o:Oper) {w:World} (ty:TypeId) (x:Operand) (ho:o.op=.load ty x) (p:Addr) (hx:act.eval x=.pointer (some p)) {v:Value} (h:(loadVar ty p).run Tryz.prog w=.ok v w):(execOp act.eval o).run Tryz.prog w=.ok (.value v) w:=by
 unfold execOp
 simp only [ho,hx,Instr.loadAt,Instr.sureAddr,Sem.run_bind,Sem.run_pure,h,Result.andThen_ok]
theorem load97 {w:World} {g:Nat} {a:Nm} {z:Int} (h:w.heap[g]?=some (.cells (asCells a z).toArray 76 (0,0))):(loadVar 76 ⟨g,0,none⟩).run Tryz.prog w=.ok (.agg (asCells a z).toArray) w:=
 run_loadVar_mid w g 0 76 (asCells a z) _ (fun j v hv=>by rw [Nat.zero_add,cellB h,List.getElem?_toArray]; exact hv) Tryz.underlying76 rfl (by rw [size97,asCells_length])
theorem cell33 {w:World} {g:Nat} {a:Nm} {z:Int} (h:w.heap[g]?=some (.cells (asCells a z).toArray 76 (0,0))):w.cell? ⟨g,33,none⟩=some (.int .i64 z):=by
 rw [cellB h]
 simp [asCells,nmCells,a.len]
theorem drewB {w:World} {b:Nat} {o:Obj} (h:w.heap[b]?=some o):w.drew.heap[b]?=some o:=h
def coins (vs:List Val):Int:=(vs.map (·.coin)).sum
theorem coins_snoc {vs:List Val} {k:Nat} {x:Val} (h:vs[k]?=some x):coins (vs.take (k+1))=coins (vs.take k)+x.coin:=by
 unfold coins
 rw [List.take_add_one,h]
 simp
def SumsPost (w:World) (vs:List Val) (e:Ending) (w':World):Prop:=
 ∃ u d,e=.returned (.tuple #[wideV (coins vs),u])/\d.Perm ((bookV vs).filter (nzW ·.2))/\srtT d/\w'.ownsRow 0 78 35 u d.length (totsCells d)/\(∀ k,u.ownBlock=some k->w.heap.size<k)/\Mod N0 w w'
set_option maxRecDepth 100000 in
set_option maxHeartbeats 4000000 in
theorem sums_calls (w:World) (v:Value) (vs:List Val) (h:ValsAt w v vs) (hn:vs.length<=1000000) (hbk:(bookV vs).length<=1000000):Calls Tryz.prog 57 #[v] w fun e w'=>SumsPost w vs e w':=by
 obtain ⟨a,c,rfl,hel⟩:=h
 have HE:=hh hel
 have HB:=hh hbk
 clear hel hbk
 have hc0:=newB w (.cells #[.int .i64 0,.int .u64 0] 48)
 have hc1:=allocB hc0 (.map #[] 0)
 have hb1:=newB (w.alloc (.cells #[.int .i64 0,.int .u64 0] 48)) (.map #[] 0)
 rw [World.size_alloc] at hb1
 have HI:=hh (And.intro hc1 (And.intro hb1 (((Mod.refl N0 w).alloc (.cells #[.int .i64 0,.int .u64 0] 48)).alloc (.map #[] 0))))
 clear hc0 hc1 hb1
 have hmk:∀ W:World,(Instr.makeMap 168 none).run Tryz.prog W=.ok (.map (some W.heap.size)) (W.alloc (.map #[] 0)):=fun W=>by kernel_rfl
 go_enter Tryz.func57,Tryz.ntmps57
 go_wp2_with fail
 go_loopw [12] (fun i wr=>∃ k:Nat,k<=vs.length/\i=.int .i64 k/\wr.heap[w.heap.size]?=some (.cells #[.int .i64 (hiW (coins (vs.take k))),.int .u64 (loW (coins (vs.take k)))] 48 (0,0))/\wr.heap[w.heap.size+1]?=some (nmap (wv (bookV (vs.take k))))/\Mod N0 w wr) (fun i _=>vs.length - (intOf i).toNat)
 case atStart=>exact ⟨0,by omega,rfl,by simpa [coins,hiW,loW,wrap64] using HI.out.1,by simpa [bookV,wv,nmap,entsN] using HI.out.2.1,HI.out.2.2⟩
 case round=>
  obtain ⟨k,hk,rfl,hC,hB,hm⟩:=hrel
  by_cases hlt:k<vs.length
  ·obtain ⟨x,hx⟩:∃ x,vs[k]?=some x:=⟨_,List.getElem?_eq_getElem hlt⟩
   obtain ⟨hco,L,off,av,rfl,hL,k0,k1,a2,c2,rfl,hal,hAs⟩:=HE.out k x hx
   have e0:=(hm.cell (p:=⟨L,off+k * 2,none⟩) hL (fun q=>q)).trans k0
   have e1:=(hm.cell (p:=⟨L,off+k * 2+1,none⟩) hL (fun q=>q)).trans k1
   have H:=hh (And.intro hC (And.intro hB hm))
   have HA:=hh hAs
   have HX:=hh (And.intro hx hco)
   clear hC hB hm hAs hx hco k0 k1
   go_upto_region 5 with fail
   have hG1:=newB wr (.cells #[.int .i64 x.coin,.slice a2 x.assets.length c2] 65)
   have H1:=hh (And.intro (drewB (allocB H.out.1 (.cells #[.int .i64 x.coin,.slice a2 x.assets.length c2] 65))) (And.intro (drewB (allocB H.out.2.1 (.cells #[.int .i64 x.coin,.slice a2 x.assets.length c2] 65))) (And.intro (drewB hG1) (H.out.2.2.alloc (.cells #[.int .i64 x.coin,.slice a2 x.assets.length c2] 65)).drew)))
   clear hG1
   go_cut [] from 13 to 37 (fun wx=>wx.heap[w.heap.size]?=some (.cells #[.int .i64 (hiW (coins (vs.take k)+x.coin)),.int .u64 (loW (coins (vs.take k)+x.coin))] 48 (0,0))/\wx.heap[w.heap.size+1]?=some (nmap (wv (bookV (vs.take k))))/\wx.heap[wr.heap.size]?=some (.cells #[.int .i64 x.coin,.slice a2 x.assets.length c2] 65 (0,0))/\Mod N0 w wx)
   case first=>
    refine wp_region_held_drew (S:=fun W=>W.heap[wr.heap.size]?=some (.cells #[.int .i64 x.coin,.slice a2 x.assets.length c2] 65 (0,0))) (by kernel_rfl) H1.out.2.2.1 (fun hH=>?_)
    refine tq (i:=1) (oi:=⟨some 17,.fieldAddr 65 (.tmp 6) 0,0, "value.go:198",#[],none⟩) (v:=.pointer (some ⟨wr.heap.size,0,none⟩)) hH ?_
    refine tk (i:=2) (oi:=⟨some 18,.load 2 (.tmp 17),2, "value.go:198",#[⟨1,.data⟩],none⟩) (v:=.int .i64 x.coin) hH ?_ ?_
    ·intro w' hSw
     have s0:w'.cell? ⟨wr.heap.size,0,none⟩=some (.int .i64 x.coin):=(cellB hSw 0).trans rfl
     go_simp
     try with_reducible rfl
    refine tr (rs:=[0,3]) ?_
    refine AllReadyH.cons (o:=⟨some 16,.load 48 (.tmp 2),48, "value.go:198",#[],none⟩) rfl (fun K hK=>?_) ?_
    ·refine step_exec rfl (exec_load_row _ _ 48 _ rfl w.heap.size rfl _ (load57 H1.out.1)) ?_
     refine hK.out _ _ H1.out.2.2.1 (fun hH=>?_)
     clear hK K
     (try simp only [Act.put,ja,jb,jc])
     refine tr (rs:=[3]) ?_
     refine AllReadyH.cons (o:=⟨some 19,.call {callee:=.value (.func 61),args:=#[.tmp 18],argTypes:=#[2]},48, "value.go:198",#[⟨2,.data⟩],none⟩) rfl (fun K hK=>?_) AllReadyH.nil
     go_simp
     refine (wide_calls x.coin HX.out.2.1 HX.out.2.2 _).mono ?_
     rintro e w5 ⟨rfl,hm5⟩
     have hC5:=(hm5.block _ (ltB H1.out.1) (fun q=>q)).trans H1.out.1
     have hB5:=(hm5.block _ (ltB H1.out.2.1) (fun q=>q)).trans H1.out.2.1
     have hG5:=(hm5.block _ (ltB H1.out.2.2.1) (fun q=>q)).trans H1.out.2.2.1
     have hmw5:=H1.out.2.2.2.tr hm5
     refine hK.out _ _ hG5 (fun hH=>?_)
     clear hK K hm5
     (try simp only [Act.put,ja,jb,jc])
     have H5:=hh (And.intro hC5 (And.intro hB5 (And.intro hG5 hmw5)))
     clear hC5 hB5 hG5 hmw5
     unfold wideV
     refine tr (rs:=[4]) ?_
     refine AllReadyH.cons (o:=⟨some 20,.buildSlice 97 2 #[(0,.tmp 16),(1,.tmp 19)],97, "value.go:198",#[⟨0,.data⟩,⟨3,.data⟩],none⟩) rfl (fun K hK=>?_) AllReadyH.nil
     go_simp
     refine hK.out _ _ (allocB H5.out.2.2.1 _) (fun hH=>?_)
     clear hK K
     (try simp only [Act.put,ja,jb,jc])
     refine tr (rs:=[5]) ?_
     refine AllReadyH.cons (o:=⟨some 21,.call {callee:=.value (.func 60),args:=#[.tmp 20],argTypes:=#[97]},48, "value.go:198",#[⟨4,.data⟩,⟨3,.chain⟩],none⟩) rfl (fun K hK=>?_) AllReadyH.nil
     go_simp
     refine (plus2 w5 (coins (vs.take k)) x.coin).mono ?_
     rintro e w6 ⟨rfl,hm6⟩
     have hC6:=(hm6.block _ (ltB (allocB H5.out.1 _)) (fun q=>q)).trans (allocB H5.out.1 _)
     have hB6:=(hm6.block _ (ltB (allocB H5.out.2.1 _)) (fun q=>q)).trans (allocB H5.out.2.1 _)
     have hG6:=(hm6.block _ (ltB (allocB H5.out.2.2.1 _)) (fun q=>q)).trans (allocB H5.out.2.2.1 _)
     have hmw6:=(H5.out.2.2.2.alloc _).tr hm6
     refine hK.out _ _ hG6 (fun hH=>?_)
     clear hK K
     (try simp only [Act.put,ja,jb,jc])
     unfold wideV
     have hst:=store57 w6 w.heap.size (coins (vs.take k)+x.coin) hC6
     have hC7:=setRow_same (cs:=#[.int .i64 (hiW (coins (vs.take k)+x.coin)),.int .u64 (loW (coins (vs.take k)+x.coin))]) hC6
     have hB7:=(setRow_other (k:=w.heap.size+1) (b:=w.heap.size) (by omega) #[.int .i64 (hiW (coins (vs.take k)+x.coin)),.int .u64 (loW (coins (vs.take k)+x.coin))]).trans hB6
     have hG7:=(setRow_other (k:=wr.heap.size) (b:=w.heap.size) (by have:=ltB H.out.1; omega) #[.int .i64 (hiW (coins (vs.take k)+x.coin)),.int .u64 (loW (coins (vs.take k)+x.coin))]).trans hG6
     have hm7:Mod N0 w _:=Mod_setRow hmw6 (b:=w.heap.size) (fun q=>by omega) #[.int .i64 (hiW (coins (vs.take k)+x.coin)),.int .u64 (loW (coins (vs.take k)+x.coin))]
     refine tr (rs:=[6]) ?_
     refine AllReadyH.cons (o:=⟨none,.store 48 (.tmp 2) (.tmp 21),0, "value.go:198",#[⟨5,.data⟩,⟨5,.chain⟩,⟨0,.phase⟩,⟨1,.phase⟩,⟨2,.phase⟩,⟨3,.phase⟩,⟨4,.phase⟩,⟨5,.phase⟩],none⟩) rfl (fun K hK=>?_) AllReadyH.nil
     refine step_execS rfl (exec_store _ _ rfl rfl rfl hst) ?_
     refine hK.out _ _ hG7 (fun hH=>?_)
     clear hK K
     (try simp only [Act.put])
     refine wpAnyH_done (by kernel_rfl) ?_ _
     go_wp2_with fail
     go_meet
     case rel=>exact ⟨hC7,hB7,hG7,hm7⟩
    ·refine AllReadyH.cons (o:=⟨some 19,.call {callee:=.value (.func 61),args:=#[.tmp 18],argTypes:=#[2]},48, "value.go:198",#[⟨2,.data⟩],none⟩) rfl (fun K hK=>?_) AllReadyH.nil
     go_simp
     refine (wide_calls x.coin HX.out.2.1 HX.out.2.2 _).mono ?_
     rintro e w5 ⟨rfl,hm5⟩
     have hC5:=(hm5.block _ (ltB H1.out.1) (fun q=>q)).trans H1.out.1
     have hB5:=(hm5.block _ (ltB H1.out.2.1) (fun q=>q)).trans H1.out.2.1
     have hG5:=(hm5.block _ (ltB H1.out.2.2.1) (fun q=>q)).trans H1.out.2.2.1
     have hmw5:=H1.out.2.2.2.tr hm5
     refine hK.out _ _ hG5 (fun hH=>?_)
     clear hK K hm5
     (try simp only [Act.put,ja,jb,jc])
     refine tr (rs:=[0]) ?_
     refine AllReadyH.cons (o:=⟨some 16,.load 48 (.tmp 2),48, "value.go:198",#[],none⟩) rfl (fun K hK=>?_) AllReadyH.nil
     refine step_exec rfl (exec_load_row _ _ 48 _ rfl w.heap.size rfl _ (load57 hC5)) ?_
     refine hK.out _ _ hG5 (fun hH=>?_)
     clear hK K
     (try simp only [Act.put,ja,jb,jc])
     have H5:=hh (And.intro hC5 (And.intro hB5 (And.intro hG5 hmw5)))
     clear hC5 hB5 hG5 hmw5
     unfold wideV
     refine tr (rs:=[4]) ?_
     refine AllReadyH.cons (o:=⟨some 20,.buildSlice 97 2 #[(0,.tmp 16),(1,.tmp 19)],97, "value.go:198",#[⟨0,.data⟩,⟨3,.data⟩],none⟩) rfl (fun K hK=>?_) AllReadyH.nil
     go_simp
     refine hK.out _ _ (allocB H5.out.2.2.1 _) (fun hH=>?_)
     clear hK K
     (try simp only [Act.put,ja,jb,jc])
     refine tr (rs:=[5]) ?_
     refine AllReadyH.cons (o:=⟨some 21,.call {callee:=.value (.func 60),args:=#[.tmp 20],argTypes:=#[97]},48, "value.go:198",#[⟨4,.data⟩,⟨3,.chain⟩],none⟩) rfl (fun K hK=>?_) AllReadyH.nil
     go_simp
     refine (plus2 w5 (coins (vs.take k)) x.coin).mono ?_
     rintro e w6 ⟨rfl,hm6⟩
     have hC6:=(hm6.block _ (ltB (allocB H5.out.1 _)) (fun q=>q)).trans (allocB H5.out.1 _)
     have hB6:=(hm6.block _ (ltB (allocB H5.out.2.1 _)) (fun q=>q)).trans (allocB H5.out.2.1 _)
     have hG6:=(hm6.block _ (ltB (allocB H5.out.2.2.1 _)) (fun q=>q)).trans (allocB H5.out.2.2.1 _)
     have hmw6:=(H5.out.2.2.2.alloc _).tr hm6
     refine hK.out _ _ hG6 (fun hH=>?_)
     clear hK K
     (try simp only [Act.put,ja,jb,jc])
     unfold wideV
     have hst:=store57 w6 w.heap.size (coins (vs.take k)+x.coin) hC6
     have hC7:=setRow_same (cs:=#[.int .i64 (hiW (coins (vs.take k)+x.coin)),.int .u64 (loW (coins (vs.take k)+x.coin))]) hC6
     have hB7:=(setRow_other (k:=w.heap.size+1) (b:=w.heap.size) (by omega) #[.int .i64 (hiW (coins (vs.take k)+x.coin)),.int .u64 (loW (coins (vs.take k)+x.coin))]).trans hB6
     have hG7:=(setRow_other (k:=wr.heap.size) (b:=w.heap.size) (by have:=ltB H.out.1; omega) #[.int .i64 (hiW (coins (vs.take k)+x.coin)),.int .u64 (loW (coins (vs.take k)+x.coin))]).trans hG6
     have hm7:Mod N0 w _:=Mod_setRow hmw6 (b:=w.heap.size) (fun q=>by omega) #[.int .i64 (hiW (coins (vs.take k)+x.coin)),.int .u64 (loW (coins (vs.take k)+x.coin))]
     refine tr (rs:=[6]) ?_
     refine AllReadyH.cons (o:=⟨none,.store 48 (.tmp 2) (.tmp 21),0, "value.go:198",#[⟨5,.data⟩,⟨5,.chain⟩,⟨0,.phase⟩,⟨1,.phase⟩,⟨2,.phase⟩,⟨3,.phase⟩,⟨4,.phase⟩,⟨5,.phase⟩],none⟩) rfl (fun K hK=>?_) AllReadyH.nil
     refine step_execS rfl (exec_store _ _ rfl rfl rfl hst) ?_
     refine hK.out _ _ hG7 (fun hH=>?_)
     clear hK K
     (try simp only [Act.put])
     refine wpAnyH_done (by kernel_rfl) ?_ _
     go_wp2_with fail
     go_meet
     case rel=>exact ⟨hC7,hB7,hG7,hm7⟩
   case rest=>
    obtain ⟨hC,hB,hG,hmc⟩:=hcut
    have g1:wc.cell? ⟨wr.heap.size,1,none⟩=some (.slice a2 x.assets.length c2):=(cellB hG 1).trans rfl
    have H2:=hh (And.intro hC (And.intro hB hmc))
    clear hC hB hG hmc H1
    go_wp2_with fail
    go_loopw [25] (fun i wi=>∃ j:Nat,j<=x.assets.length/\i=.int .i64 j/\wi.heap[w.heap.size]?=some (.cells #[.int .i64 (hiW (coins (vs.take k)+x.coin)),.int .u64 (loW (coins (vs.take k)+x.coin))] 48 (0,0))/\wi.heap[w.heap.size+1]?=some (nmap (wv (bookA (bookV (vs.take k)) (x.assets.take j))))/\Mod N0 w wi) (fun i _=>x.assets.length - (intOf i).toNat)
    case atStart=>exact ⟨0,by omega,rfl,H2.out.1,by simpa [bookA] using H2.out.2.1,H2.out.2.2⟩
    case round=>
     obtain ⟨j,hj,rfl,hC,hB,hm⟩:=hrel
     by_cases hlt2:j<x.assets.length
     ·obtain ⟨y,hy⟩:∃ y,x.assets[j]?=some y:=⟨_,List.getElem?_eq_getElem hlt2⟩
      obtain ⟨hz,L2,off2,rfl,hL2,hcs⟩:=HA.out j y hy
      have hl97:(loadVar 76 ⟨L2,off2+j * 34,none⟩).run Tryz.prog wr=.ok (.agg (asCells y.1 y.2).toArray) wr:=
       run_loadVar_mid wr L2 (off2+j * 34) 76 (asCells y.1 y.2) _ (fun q u hu=>(hm.cell (p:=⟨L2,_,none⟩) hL2 (fun q=>q)).trans (hcs q u hu)) Tryz.underlying76 rfl (by rw [size97,asCells_length])
      have hZ:=newB wr (.cells zero97 76)
      have hst:(storeVar 76 ⟨wr.heap.size,0,none⟩ (.agg (asCells y.1 y.2).toArray)).run Tryz.prog (wr.alloc (.cells zero97 76))=.ok () ((wr.alloc (.cells zero97 76)).setRow wr.heap.size (asCells y.1 y.2).toArray):=
       run_storeVar_row (P:=Tryz.prog) _ wr.heap.size 76 76 zero97 (asCells y.1 y.2).toArray hZ (by rw [size97]; simp [asCells_length]) (by simp [zero97,asCells_length]) (asCells_one y.1 y.2)
      have hR:=setRow_same (cs:=(asCells y.1 y.2).toArray) hZ
      have hlt0:=ltB hC
      have hlt1:=ltB hB
      have hC2:=(setRow_other (k:=w.heap.size) (b:=wr.heap.size) (by omega) (asCells y.1 y.2).toArray).trans (allocB hC (.cells zero97 76))
      have hB2:=(setRow_other (k:=w.heap.size+1) (b:=wr.heap.size) (by omega) (asCells y.1 y.2).toArray).trans (allocB hB (.cells zero97 76))
      have hm2:Mod N0 w ((wr.alloc (.cells zero97 76)).setRow wr.heap.size (asCells y.1 y.2).toArray):=Mod_setRow (hm.alloc (.cells zero97 76)) (b:=wr.heap.size) (fun q=>by have:=hm.size; omega) _
      generalize (wr.alloc (.cells zero97 76)).setRow wr.heap.size (asCells y.1 y.2).toArray=w2 at hst hR hC2 hB2 hm2
      have HLD:=hh hl97
      have HST:=hh hst
      have HY:=hh (And.intro hy hz)
      have H3:=hh (And.intro hR (And.intro hC2 (And.intro hB2 hm2)))
      have HG:=hh (And.intro hlt0 hlt1)
      clear hl97 hst hy hz hR hC2 hB2 hm2 hcs hZ hC hB hm hlt0 hlt1
      go_upto_region 8 with fail
      refine wp_region_lit ?_
      refine ex (v:=.pointer (some ⟨L2,off2+j * 34,none⟩)) ?_
      refine wx (exec_load_at _ _ 76 _ rfl ⟨L2,off2+j * 34,none⟩ rfl HLD.out) ?_
      refine ww (exec_alloc _ _ 76 zero97 rfl zv97) ?_
      refine wpList_execS rfl (exec_store _ _ rfl rfl rfl HST.out) ?_
      (try simp only [Act.put])
      go_wp2_with fail
      refine wp_region_held_drew (S:=fun W=>W.heap[wr.heap.size]?=some (.cells (asCells y.1 y.2).toArray 76 (0,0))) (by kernel_rfl) H3.out.1 (fun hH=>?_)
      refine tq (i:=0) (oi:=⟨some 29,.move (.tmp 4),168, "value.go:200",#[],none⟩) (v:=.map (some (w.heap.size+1))) hH ?_
      refine tk (i:=1) (oi:=⟨some 30,.load 76 (.tmp 8),76, "value.go:200",#[],none⟩) (v:=.agg (asCells y.1 y.2).toArray) hH (fun w' hSw=>by exact exec_load_row _ _ 76 _ rfl wr.heap.size rfl _ (load97 hSw)) ?_
      refine tq (i:=3) (oi:=⟨some 32,.fieldAddr 76 (.tmp 8) 2,0, "value.go:200",#[],none⟩) (v:=.pointer (some ⟨wr.heap.size,33,none⟩)) hH ?_
      refine tk (i:=4) (oi:=⟨some 33,.load 2 (.tmp 32),2, "value.go:200",#[⟨3,.data⟩],none⟩) (v:=.int .i64 y.2) hH ?_ ?_
      ·intro w' hSw
       have s33:=cell33 hSw
       go_simp
       try with_reducible rfl
      refine tr (rs:=[2]) ?_
      refine AllReadyH.cons (o:=⟨some 31,.call {callee:=.value (.func 113),args:=#[.tmp 30],argTypes:=#[76]},171, "value.go:200",#[⟨1,.data⟩],none⟩) rfl (fun K hK=>?_) AllReadyH.nil
      go_simp
      refine (of_calls y.1 y.2 _).mono ?_
      rintro e w3 ⟨rfl,hm3⟩
      have h3:=(hm3.block _ (ltB H3.out.1) (fun q=>q)).trans H3.out.1
      have hC3:=(hm3.block _ (ltB H3.out.2.1) (fun q=>q)).trans H3.out.2.1
      have hB3:=(hm3.block _ (ltB H3.out.2.2.1) (fun q=>q)).trans H3.out.2.2.1
      have hmw3:=H3.out.2.2.2.drew.tr hm3
      refine hK.out _ _ h3 (fun hH=>?_)
      clear hK K hm3
      (try simp only [Act.put,ja,jb,jc])
      refine tr (rs:=[5]) ?_
      refine AllReadyH.cons (o:=⟨some 34,.call {callee:=.value (.func 61),args:=#[.tmp 33],argTypes:=#[2]},48, "value.go:200",#[⟨4,.data⟩,⟨2,.chain⟩],none⟩) rfl (fun K hK=>?_) AllReadyH.nil
      go_simp
      refine (wide_calls y.2 HY.out.2.1 HY.out.2.2 _).mono ?_
      rintro e w4 ⟨rfl,hm4⟩
      have h4:=(hm4.block _ (ltB h3) (fun q=>q)).trans h3
      have hC4:=(hm4.block _ (ltB hC3) (fun q=>q)).trans hC3
      have hB4:=(hm4.block _ (ltB hB3) (fun q=>q)).trans hB3
      have hmw4:=hmw3.tr hm4
      refine hK.out _ _ h4 (fun hH=>?_)
      clear hK K hm4 h3 hC3 hB3 hmw3
      (try simp only [Act.put,ja,jb,jc])
      refine tr (rs:=[6]) ?_
      refine AllReadyH.cons (o:=⟨some 35,.call {callee:=.value (.func 64),args:=#[.tmp 29,.tmp 31,.tmp 34],argTypes:=#[168,171,48]},0, "value.go:200",#[⟨0,.data⟩,⟨2,.data⟩,⟨5,.data⟩,⟨5,.chain⟩],none⟩) rfl (fun K hK=>?_) AllReadyH.nil
      go_simp
      refine (add_calls w4 (w.heap.size+1) _ hB4 y.1 y.2).mono ?_
      rintro e w5 ⟨rfl,hB5,hm5⟩
      have h5:=(hm5.block _ (ltB h4) (by have:=HG.out.2; omega)).trans h4
      have hC5:=(hm5.block _ (ltB hC4) (by omega)).trans hC4
      have hmw5:Mod N0 w w5:=hmw4.trans hm5 (fun q e hl=>by omega)
      rw [← bookA_snoc HY.out.1] at hB5
      have H5:=hh (And.intro hC5 (And.intro hB5 hmw5))
      refine hK.out _ _ h5 (fun hH=>?_)
      clear hK K hm5 h4 hC4 hB4 hmw4 h5 hC5 hB5 hmw5
      (try simp only [Act.put])
      refine wpAnyH_done (by kernel_rfl) ?_ _
      go_wp2_with fail
      go_roundw
      case rel=>exact ⟨j+1,by omega,by simp,H5.out.1,H5.out.2.1,H5.out.2.2⟩
      case measure=>simp [intOf]; omega
     ·have e:j=x.assets.length:=by omega
      subst e
      rw [List.take_length,← bookV_snoc HX.out.1] at hB
      rw [← coins_snoc HX.out.1] at hC
      have H3:=hh (And.intro hC (And.intro hB hm))
      clear hC hB hm H H2
      go_wp2_with fail
      go_roundw
      case rel=>exact ⟨k+1,by omega,by simp,H3.out.1,H3.out.2.1,H3.out.2.2⟩
      case measure=>simp [intOf]; omega
  ·have e:k=vs.length:=by omega
   subst e
   rw [List.take_length] at hC hB
   have hld:∀ W:World,W.heap[w.heap.size]?=some (.cells #[.int .i64 (hiW (coins vs)),.int .u64 (loW (coins vs))] 48 (0,0))->(loadVar 48 ⟨w.heap.size,0,none⟩).run Tryz.prog W=.ok (.agg #[.int .i64 (hiW (coins vs)),.int .u64 (loW (coins vs))]) W:=fun W hW=>load57 hW
   have HLD:=hh hld
   have HT:=hh (totals_ok wr.drew (w.heap.size+1) (bookV vs) hB HB.out)
   have H:=hh (And.intro hC (And.intro hB hm))
   clear hC hB hm hld
   go_upto_region 12 with fail
   refine wp_region_held_drew (S:=fun W=>W.heap[w.heap.size]?=some (.cells #[.int .i64 (hiW (coins vs)),.int .u64 (loW (coins vs))] 48 (0,0))) (by kernel_rfl) H.out.1 (fun hH=>?_)
   refine tk (i:=0) (oi:=⟨some 38,.load 48 (.tmp 2),48, "value.go:203",#[],none⟩) (v:=.agg #[.int .i64 (hiW (coins vs)),.int .u64 (loW (coins vs))]) hH (fun w' hSw=>by exact exec_load_row _ _ 48 _ rfl w.heap.size rfl _ (HLD.out _ hSw)) ?_
   refine tq (i:=1) (oi:=⟨some 39,.move (.tmp 4),168, "value.go:203",#[],none⟩) (v:=.map (some (w.heap.size+1))) hH ?_
   refine tr (rs:=[2]) ?_
   refine AllReadyH.cons (o:=⟨some 40,.call {callee:=.value (.func 65),args:=#[.tmp 39],argTypes:=#[168]},33, "value.go:203",#[⟨1,.data⟩],none⟩) rfl (fun K hK=>?_) AllReadyH.nil
   go_simp
   refine HT.out.mono ?_
   rintro e w6 ⟨u,d,rfl,h1,h2,h3,h4,h5⟩
   have hC6:w6.heap[w.heap.size]?=some (.cells #[.int .i64 (hiW (coins vs)),.int .u64 (loW (coins vs))] 48 (0,0)):=(h5.block _ (ltB H.out.1) (fun q=>q)).trans H.out.1
   refine hK.out _ _ hC6 (fun hH=>?_)
   clear hK K
   (try simp only [Act.put,ja,jb,jc])
   have hst:=store57 w6 w.heap.size (coins vs) hC6
   have hC7:=setRow_same (cs:=#[.int .i64 (hiW (coins vs)),.int .u64 (loW (coins vs))]) hC6
   have hm7:Mod N0 w (w6.setRow w.heap.size #[.int .i64 (hiW (coins vs)),.int .u64 (loW (coins vs))]):=Mod_setRow (H.out.2.2.drew.tr h5) (fun q=>by omega) _
   have h37:(w6.setRow w.heap.size #[.int .i64 (hiW (coins vs)),.int .u64 (loW (coins vs))]).ownsRow 0 78 35 u d.length (totsCells d):=ownsRow_block h3 (fun k hk=>setRow_other (by have:=h4 k hk; have:=H.out.2.2.size; simp at *; omega) _)
   generalize w6.setRow w.heap.size #[.int .i64 (hiW (coins vs)),.int .u64 (loW (coins vs))]=w7 at hst hC7 hm7 h37
   refine tr (rs:=[3]) ?_
   refine AllReadyH.cons (o:=⟨none,.store 48 (.tmp 2) (.tmp 38),0, "value.go:203",#[⟨0,.data⟩,⟨2,.chain⟩,⟨0,.phase⟩,⟨1,.textOnly .lateStores⟩,⟨2,.textOnly .lateStoresUnsure⟩],none⟩) rfl (fun K hK=>?_) AllReadyH.nil
   refine step_execS rfl (exec_store _ _ rfl rfl rfl hst) ?_
   refine hK.out _ _ hC7 (fun hH=>?_)
   clear hK K
   (try simp only [Act.put])
   refine tq (i:=4) (oi:=⟨some 3,.assign (.tmp 40),33, "value.go:203",#[⟨2,.data⟩,⟨3,.chain⟩,⟨0,.phase⟩,⟨1,.phase⟩,⟨2,.phase⟩,⟨3,.phase⟩],none⟩) (v:=u) hH ?_
   refine wpAnyH_done (by kernel_rfl) ?_ _
   go_wp2_with fail
   refine bodyPost_ret (v:=.tuple #[wideV (coins vs),u]) (res14 rfl rfl hC7) rfl ?_
   exact ⟨u,d,rfl,h1,h2,h37,fun k hk=>by have:=h4 k hk; have:=H.out.2.2.size; simp at *; omega,hm7⟩
end Go.Proofs.YtckcamlicgdklaaGreat
