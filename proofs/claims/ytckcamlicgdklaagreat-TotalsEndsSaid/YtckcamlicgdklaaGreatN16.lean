/- Builds of rows, whatever the type; entry at two closed inputs. Rows of entries: built, appended; slices of outputs. -/
import Derived.Test.YtckcamlicgdklaaGreatN13
import Derived.Test.YtckcamlicgdklaaGreatN15
import Derived.Test.YtckcamlicgdklaaGreatN12
import Derived.Test.YtckcamlicgdklaaGreatN04
import Derived.Great.FillDense
namespace Go.Proofs.YtckcamlicgdklaaGreat
open Go.RowKit Go.Mo Go.Sort
theorem exec_buildL (act:Act) (o:Oper) {w:World} {T:TypeId} (ps:List (Nat×Operand)) (ho:o.op=.build T ps.toArray) (vals:List (Nat×Value)) (hv:ps.map (fun p=>(p.1,act.eval p.2))=vals) (cs:Array Value) (hb:Tryz.prog.built T vals=some cs) :
  (execOp act.eval o).run Tryz.prog w=.ok (.value (.agg cs)) w:=by
 have h:=run_build (P:=Tryz.prog) w T vals.toArray cs (by simpa using hb)
 unfold execOp
 simp only [ho,List.map_toArray,hv,Sem.run_bind,Sem.run_pure,h,Result.andThen_ok]
theorem exec_slicesL (act:Act) (o:Oper) {w:World} {S E:TypeId} {n s:Nat} (ps:List (Nat×Operand)) (ho:o.op=.buildSlice S n ps.toArray) (vs:List Value) (hv:ps.map (fun p=>(p.1,act.eval p.2))=(vs.zipIdx 0).map fun x=>(x.2,x.1))
  {i:TypeInfo} {z:Value} (hu:Tryz.prog.underlying S=some (.slice E)) (hi:Tryz.prog.info? E=some i) (hz:i.zero=some z) (hs:i.size=s) (hpos:0<s) (hn:vs.length=n) (hpn:0<n) (h24:n * s<=16777216) (h1:∀ v∈vs,v.cells.size=s) :
  (execOp act.eval o).run Tryz.prog w=.ok (.value (.slice (some ⟨w.heap.size,0,none⟩) n n)) (w.alloc (.cells (vs.flatMap fun v=>v.cells.toList).toArray E)):=by
 have hp:0<n * s:=Nat.mul_pos hpn hpos
 have hf:=Go.Great.fill_whole hpos vs ((Array.range (n * s)).map (z.cells[· % z.cells.size]!)) h1 (by simp [hn])
 have h:=run_buildSlice (P:=Tryz.prog) w S E n ((vs.zipIdx 0).map fun x=>(x.2,x.1)).toArray (vs.flatMap fun v=>v.cells.toList).toArray i z hu hi hz (by rw [hs]; omega) (by rw [hs]; omega) (by rw [hs]; simpa using hf)
 unfold execOp
 simp only [ho,List.map_toArray,hv,Sem.run_bind,Sem.run_pure,h,Result.andThen_ok]
/-- The entry of so many coins, of a key of a number. -/
def hashE (n:Nat):Bs:=UInt8.ofNat n :: List.replicate 31 0
def entE (n:Nat) (c:Int):Ent where
 pre:=List.replicate 32 (.int .u8 0) ++ [.int .i64 n]
 addr:=⟨false,hashE n,rfl⟩
 val:=⟨c,[]⟩
 post:=.int .i64 0 :: (List.replicate 32 (.int .u8 0) ++ [.slice none 0 0])
 hpre:=rfl
 hpost:=rfl
 ones:=by
  intro u hu
  simp only [List.mem_append,List.mem_cons,List.mem_replicate,List.not_mem_nil,or_false] at hu
  rcases hu with (⟨_,rfl⟩|rfl)|rfl|⟨_,rfl⟩|rfl <;> rfl
theorem res15 {tmps:Array Value} {b:Nat} {W:World} {v:Value} (ht:tmps[4]?.getD undef=.pointer (some ⟨b,0,none⟩)) (hl:(loadVar 73 ⟨b,0,none⟩).run Tryz.prog W=.ok v W):(results Tryz.f22 tmps).run Tryz.prog W=.ok v W:=by
 simp [results,Tryz.results22,ht,hl,asAddr]
set_option maxRecDepth 100000 in
theorem entry1_calls (w:World):Calls Tryz.prog 22 #[.int .i64 1,.int .i64 5] w fun e w'=>e=.returned (.agg (entCells (entE 1 5) none 0).toArray)/\Mod N0 w w':=by
 obtain ⟨z51,hz51,hs51⟩:=zv51
 have hst:(storeVar 73 ⟨w.heap.size,0,none⟩ (.agg (entCells (entE 1 5) none 0).toArray)).run Tryz.prog (w.alloc (.cells z51 73))=.ok () ((w.alloc (.cells z51 73)).setRow w.heap.size (entCells (entE 1 5) none 0).toArray):=
  run_storeVar_row (P:=Tryz.prog) _ w.heap.size 73 73 z51 (entCells (entE 1 5) none 0).toArray (newB w _) (by rw [size51]; simp [entCells_length]) (by rw [hs51]; simp [entCells_length]) (entCells_one _ _ _)
 have hR:=setRow_same (cs:=(entCells (entE 1 5) none 0).toArray) (newB w (.cells z51 73))
 have hmr:Mod N0 w ((w.alloc (.cells z51 73)).setRow w.heap.size (entCells (entE 1 5) none 0).toArray):=Mod_setRow ((Mod.refl _ w).alloc (.cells z51 73)) (b:=w.heap.size) (fun q=>by omega) _
 generalize (w.alloc (.cells z51 73)).setRow w.heap.size (entCells (entE 1 5) none 0).toArray=w2 at hst hR hmr
 have hld:(loadVar 73 ⟨w.heap.size,0,none⟩).run Tryz.prog w2=.ok (.agg (entCells (entE 1 5) none 0).toArray) w2:=
  run_loadVar_mid w2 w.heap.size 0 73 (entCells (entE 1 5) none 0) _ (fun j v hv=>by rw [Nat.zero_add,cellB hR,List.getElem?_toArray]; exact hv) Tryz.underlying73 rfl (by rw [size51,entCells_length])
 have HST:=hh (And.intro hst (And.intro hld hmr))
 have HZ:=hh hz51
 clear hst hld hmr hR hz51 hs51
 go_enter Tryz.func22,Tryz.ntmps22
 go_upto_region 0 with fail
 refine wp_region_lit ?_
 refine ww (exec_alloc _ _ 73 z51 rfl HZ.out) ?_
 go_upto_region 1 with fail
 refine wp_region_lit ?_
 refine ex (v:=.int .i64 1) ?_
 refine wx (exec_buildL _ _ [(1,.tmp 5)] rfl [(1,.int .i64 1)] rfl ((entE 1 5).pre.toArray) (by kernel_rfl)) ?_
 refine ex (v:=.int .i64 1) ?_
 refine wpList_exec (v:=.int .u8 1) rfl (by go_simp; rfl) ?_
 (try simp only [Act.put,ja,jb,jc])
 refine wx (exec_buildL _ _ [(0,.tmp 8)] rfl [(0,.int .u8 1)] rfl (((hashE 1).map by8).toArray) (by kernel_rfl)) ?_
 refine wx (exec_buildL _ _ [(1,.tmp 9)] rfl [(1,.agg ((hashE 1).map by8).toArray)] rfl ((adrCells (entE 1 5).addr).toArray) (by kernel_rfl)) ?_
 refine ex (v:=.int .i64 5) ?_
 refine wx (exec_buildL _ _ [(0,.tmp 11)] rfl [(0,.int .i64 5)] rfl (#[.int .i64 5,.slice none 0 0]) (by kernel_rfl)) ?_
 refine wx (exec_buildL _ _ [(0,.tmp 10),(1,.tmp 12)] rfl [(0,.agg (adrCells (entE 1 5).addr).toArray),(1,.agg #[.int .i64 5,.slice none 0 0])] rfl ((outCells (entE 1 5) none 0).toArray) (by kernel_rfl)) ?_
 refine wx (exec_buildL _ _ [(0,.tmp 6),(1,.tmp 13)] rfl [(0,.agg (entE 1 5).pre.toArray),(1,.agg (outCells (entE 1 5) none 0).toArray)] rfl ((entCells (entE 1 5) none 0).toArray) (by kernel_rfl)) ?_
 refine wpList_execS rfl (exec_store _ _ rfl rfl rfl HST.out.1) ?_
 (try simp only [Act.put])
 go_wp2_with fail
 exact bodyPost_ret (v:=.agg (entCells (entE 1 5) none 0).toArray) (res15 rfl HST.out.2.1) rfl ⟨rfl,HST.out.2.2⟩
set_option maxRecDepth 100000 in
theorem entry2_calls (w:World):Calls Tryz.prog 22 #[.int .i64 2,.int .i64 6] w fun e w'=>e=.returned (.agg (entCells (entE 2 6) none 0).toArray)/\Mod N0 w w':=by
 obtain ⟨z51,hz51,hs51⟩:=zv51
 have hst:(storeVar 73 ⟨w.heap.size,0,none⟩ (.agg (entCells (entE 2 6) none 0).toArray)).run Tryz.prog (w.alloc (.cells z51 73))=.ok () ((w.alloc (.cells z51 73)).setRow w.heap.size (entCells (entE 2 6) none 0).toArray):=
  run_storeVar_row (P:=Tryz.prog) _ w.heap.size 73 73 z51 (entCells (entE 2 6) none 0).toArray (newB w _) (by rw [size51]; simp [entCells_length]) (by rw [hs51]; simp [entCells_length]) (entCells_one _ _ _)
 have hR:=setRow_same (cs:=(entCells (entE 2 6) none 0).toArray) (newB w (.cells z51 73))
 have hmr:Mod N0 w ((w.alloc (.cells z51 73)).setRow w.heap.size (entCells (entE 2 6) none 0).toArray):=Mod_setRow ((Mod.refl _ w).alloc (.cells z51 73)) (b:=w.heap.size) (fun q=>by omega) _
 generalize (w.alloc (.cells z51 73)).setRow w.heap.size (entCells (entE 2 6) none 0).toArray=w2 at hst hR hmr
 have hld:(loadVar 73 ⟨w.heap.size,0,none⟩).run Tryz.prog w2=.ok (.agg (entCells (entE 2 6) none 0).toArray) w2:=
  run_loadVar_mid w2 w.heap.size 0 73 (entCells (entE 2 6) none 0) _ (fun j v hv=>by rw [Nat.zero_add,cellB hR,List.getElem?_toArray]; exact hv) Tryz.underlying73 rfl (by rw [size51,entCells_length])
 have HST:=hh (And.intro hst (And.intro hld hmr))
 have HZ:=hh hz51
 clear hst hld hmr hR hz51 hs51
 go_enter Tryz.func22,Tryz.ntmps22
 go_upto_region 0 with fail
 refine wp_region_lit ?_
 refine ww (exec_alloc _ _ 73 z51 rfl HZ.out) ?_
 go_upto_region 1 with fail
 refine wp_region_lit ?_
 refine ex (v:=.int .i64 2) ?_
 refine wx (exec_buildL _ _ [(1,.tmp 5)] rfl [(1,.int .i64 2)] rfl ((entE 2 6).pre.toArray) (by kernel_rfl)) ?_
 refine ex (v:=.int .i64 2) ?_
 refine wpList_exec (v:=.int .u8 2) rfl (by go_simp; rfl) ?_
 (try simp only [Act.put,ja,jb,jc])
 refine wx (exec_buildL _ _ [(0,.tmp 8)] rfl [(0,.int .u8 2)] rfl (((hashE 2).map by8).toArray) (by kernel_rfl)) ?_
 refine wx (exec_buildL _ _ [(1,.tmp 9)] rfl [(1,.agg ((hashE 2).map by8).toArray)] rfl ((adrCells (entE 2 6).addr).toArray) (by kernel_rfl)) ?_
 refine ex (v:=.int .i64 6) ?_
 refine wx (exec_buildL _ _ [(0,.tmp 11)] rfl [(0,.int .i64 6)] rfl (#[.int .i64 6,.slice none 0 0]) (by kernel_rfl)) ?_
 refine wx (exec_buildL _ _ [(0,.tmp 10),(1,.tmp 12)] rfl [(0,.agg (adrCells (entE 2 6).addr).toArray),(1,.agg #[.int .i64 6,.slice none 0 0])] rfl ((outCells (entE 2 6) none 0).toArray) (by kernel_rfl)) ?_
 refine wx (exec_buildL _ _ [(0,.tmp 6),(1,.tmp 13)] rfl [(0,.agg (entE 2 6).pre.toArray),(1,.agg (outCells (entE 2 6) none 0).toArray)] rfl ((entCells (entE 2 6) none 0).toArray) (by kernel_rfl)) ?_
 refine wpList_execS rfl (exec_store _ _ rfl rfl rfl HST.out.1) ?_
 (try simp only [Act.put])
 go_wp2_with fail
 exact bodyPost_ret (v:=.agg (entCells (entE 2 6) none 0).toArray) (res15 rfl HST.out.2.1) rfl ⟨rfl,HST.out.2.2⟩
end Go.Proofs.YtckcamlicgdklaaGreat
namespace Go.Proofs.YtckcamlicgdklaaGreat
open Go.RowKit Go.Mo Go.Sort
theorem fill_one (cs:List Value) (z:Array Value) (off k:Nat) (hz:off+cs.length=z.size) (sl:Nat->Option (Nat×Nat)) (h0:sl k=some (off,cs.length)):Instr.fill sl z [(k,.agg cs.toArray)]=some (z.toList.take off ++ cs).toArray:=by
 have hc0:(Value.agg cs.toArray).cells=cs.toArray:=rfl
 simp only [Instr.fill,h0,hc0]
 rw [if_neg (by simp; omega)]
 have hf:(cs.toArray.zipIdx.foldl (fun acc x=>acc.setIfInBounds (off+x.2) x.1) z)=(cs.zipIdx 0).foldl (fun acc p=>acc.setIfInBounds (off+p.2) p.1) z:=by
  simp [Array.foldl]
 rw [hf]
 congr 1
 apply Array.ext_getElem?
 intro i
 rw [foldl_set off cs 0 z i (by omega)]
 have hm:min off z.toList.length=off:=by simp; omega
 simp only [Nat.add_zero,List.getElem?_toArray]
 rw [List.getElem?_append,List.length_take,hm]
 by_cases h:off<=i/\i<off+cs.length
 ·rw [if_pos (by simpa using h),if_neg (by omega)]
 ·rw [if_neg (by simpa using h)]
  by_cases h2:i<off
  ·rw [if_pos h2,List.getElem?_take,if_pos h2,Array.getElem?_toList]
  ·rw [if_neg (by omega),Array.getElem?_eq_none (by omega),List.getElem?_eq_none (by omega)]
def zpre:List Value:=List.replicate 32 (.int .u8 0) ++ [.int .i64 0]
/-- An entry of no place. -/
def zEnt (x:Ent):Ent where
 pre:=zpre
 addr:=x.addr
 val:=x.val
 post:=x.post
 hpre:=rfl
 hpost:=x.hpost
 ones:=by
  intro u hu
  simp only [zpre,List.mem_append,List.mem_cons,List.mem_replicate,List.not_mem_nil,or_false] at hu
  rcases hu with (⟨_,rfl⟩|rfl)|h
  ·rfl
  ·rfl
  ·exact x.ones u (List.mem_append_right _ h)
def z51v:Array Value:=(zpre ++ Value.bool false :: (List.replicate 32 (Value.int .u8 0) ++ [Value.int .i64 0,Value.slice none 0 0,Value.int .i64 0] ++ List.replicate 32 (Value.int .u8 0) ++ [Value.slice none 0 0])).toArray
theorem zero51:∃ z:Array Value,(∀ parts,Tryz.prog.built 73 parts=Instr.fill (#[(0,33),(33,69)][·]?) z parts)/\z.size=102/\z.toList.take 33=zpre:=⟨z51v,fun _=>by kernel_rfl,by kernel_rfl,by kernel_rfl⟩
theorem built51 (x:Ent) (a:Option Addr) (c:Nat):Tryz.prog.built 73 [(1,.agg (outCells x a c).toArray)]=some (entCells (zEnt x) a c).toArray:=by
 obtain ⟨z,hz,hs,ht⟩:=zero51
 rw [hz,fill_one (outCells x a c) z 33 1 (by rw [outCells_length,hs]) _ (by rw [outCells_length]; rfl),ht]
 rfl
theorem flat_get {α:Type} (f:α->List Value) (n:Nat) (hf:∀ x,(f x).length=n):∀ (l:List α) (i:Nat) (x:α),l[i]?=some x->∀ j u,(f x)[j]?=some u->(l.flatMap f)[i * n+j]?=some u
|[],i,x,h=>by simp at h
|y :: l,0,x,h=>by
  intro j u hu
  simp at h; subst h
  rw [List.flatMap_cons,List.getElem?_append_left (by have:=(List.getElem?_eq_some_iff.1 hu).1; rw [hf] at this ⊢; omega),Nat.zero_mul,Nat.zero_add]
  exact hu
|y :: l,i+1,x,h=>by
  intro j u hu
  have ih:=flat_get f n hf l i x (by simpa using h) j u hu
  rw [List.flatMap_cons,List.getElem?_append_right (by rw [hf,Nat.succ_mul]; omega),hf,show (i+1) * n+j - n=i * n+j by rw [Nat.succ_mul]; omega]
  exact ih
abbrev EntL:=List (Ent×Option Addr×Nat)
def entsCells (l:EntL):List Value:=l.flatMap fun x=>entCells x.1 x.2.1 x.2.2
theorem entsCells_get {l:EntL} {i:Nat} {x:Ent×Option Addr×Nat} (h:l[i]?=some x) (j:Nat) (u:Value) (hu:(entCells x.1 x.2.1 x.2.2)[j]?=some u):(entsCells l)[i * 102+j]?=some u:=
 flat_get (fun x:Ent×Option Addr×Nat=>entCells x.1 x.2.1 x.2.2) 102 (fun _=>entCells_length _ _ _) l i x h j u hu
/-- A row of entries that was made behind the world w; what they point at was there. -/
def RowE (w wr:World) (v:Value) (l:EntL):Prop:=
 (∀ x∈l,In64 x.1.val.coin/\AssetsAt w (.slice x.2.1 x.1.val.assets.length x.2.2) x.1.val.assets)/\wr.ownsRow 0 73 102 v l.length (entsCells l)/\∀ k,v.ownBlock=some k->w.heap.size<=k
theorem RowE.tr {w wr w':World} {v:Value} {l:EntL} (h:RowE w wr v l) (hm:Mod N0 wr w'):RowE w w' v l:=
 ⟨h.1,ownsRow_block h.2.1 (fun k hk=>hm.block k (ownsRow_lt h.2.1 hk) (fun q=>q)),h.2.2⟩
theorem RowE.ents {w wr:World} {v:Value} {l:EntL} (h:RowE w wr v l) (hm:Mod N0 w wr) (hl:l.length<=1000000):EntsAt wr v (l.map (·.1)):=by
 obtain ⟨h1,⟨hl1,⟨rfl,h0⟩|⟨g,cap,cur,rfl,_,hg,hc,_,hcs,ht⟩⟩,h3⟩:=h
 ·have:l=[]:=List.eq_nil_of_length_eq_zero h0
  subst this
  exact ⟨none,0,rfl,by simp,fun i x hx=>by simp at hx⟩
 ·refine ⟨some ⟨g,0,none⟩,cap,by simp,by simpa using hl,fun i x hx=>?_⟩
  rw [List.getElem?_map] at hx
  cases hy:l[i]? with
 |none=>rw [hy] at hx; cases hx
 |some y=>
   rw [hy] at hx
   cases hx
   have hi:i<l.length:=(List.getElem?_eq_some_iff.1 hy).1
   obtain ⟨k0,k1⟩:=h1 y (List.mem_of_getElem? hy)
   refine ⟨k0,g,0,y.2.1,y.2.2,rfl,ltB hg,k1.tr hm,fun j u hu=>?_⟩
   have hj:j<102:=by have:=(List.getElem?_eq_some_iff.1 hu).1; rwa [entCells_length] at this
   have:=entsCells_get hy j u hu
   rw [Nat.zero_add,cellB hg,← Array.getElem?_toList]
   rw [← ht,List.getElem?_take,if_pos (by omega)] at this
   exact this
/-- A slice of outputs in memory. -/
def OutsAt (w:World) (v:Value) (os:List Ent):Prop:=
 ∃ a c,v=.slice a os.length c/\∀ i x,os[i]?=some x->In64 x.val.coin/\∃ L off a2 c2,a=some ⟨L,off,none⟩/\L<w.heap.size/\AssetsAt w (.slice a2 x.val.assets.length c2) x.val.assets/\∀ j u,(outCells x a2 c2)[j]?=some u->w.cell? ⟨L,off+i * 69+j,none⟩=some u
theorem OutsAt.tr {w w':World} {v:Value} {es:List Ent} (h:OutsAt w v es) (hm:Mod N0 w w'):OutsAt w' v es:=by
 obtain ⟨a,c,rfl,h⟩:=h
 refine ⟨a,c,rfl,fun i x hx=>?_⟩
 obtain ⟨h1,L,off,a2,c2,rfl,hL,hA,h2⟩:=h i x hx
 exact ⟨h1,L,off,a2,c2,rfl,Nat.lt_of_lt_of_le hL hm.size,hA.tr hm,fun j u hu=>(hm.cell (p:=⟨L,_,none⟩) hL (fun q=>q)).trans (h2 j u hu)⟩
theorem info51:(Tryz.prog.info? 73).map (fun i=>(i.zero,i.size,i.bytes))=some (some (.agg z51v),102,176):=by kernel_rfl
theorem z51_size:z51v.size=102:=by kernel_rfl
theorem zv49:∃ z:Array Value,(∀ w,(zeroValue 71).run Tryz.prog w=.ok (.agg z) w)/\z.size=69:=⟨_,Tryz.zeroValue71,rfl⟩
end Go.Proofs.YtckcamlicgdklaaGreat
