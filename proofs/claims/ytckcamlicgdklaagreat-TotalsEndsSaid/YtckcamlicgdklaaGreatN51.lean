/- Readings made: what is built of readable parts is readable. The entries of TotalsEnds. Readings of entries, outputs, states, geneses that are built. What TotalsEnds builds is read as a state, a genesis. -/
import Derived.Test.YtckcamlicgdklaaGreatN04
import Derived.Test.YtckcamlicgdklaaGreatN50
import Derived.Test.YtckcamlicgdklaaGreatN33
namespace Go.Proofs.YtckcamlicgdklaaGreat
open Go.ChangeShapes Go.WideShapes Go.ChangeAt Go.RowKit Go.Joins Go.Deep Go.Mo
/-- Read within so many steps, and within reach. -/
def R1 (w:World) (f:Nat) (t:TypeId) (cs:List Value):Prop:=
 ∃ y,DataW.trod (H:=Unit) (fun _=>()) Tryz.prog w 0 (fun _=>true) true f t cs=some y/\∀ n∈y.1.weights Tryz.prog t,n<=reachBytes
theorem R1.rd {w:World} {f:Nat} {t:TypeId} {cs:List Value} (h:R1 w f t cs):Rd w t cs:=by
 obtain ⟨y,h1,h2⟩:=h
 exact ⟨Unit,fun _=>(),f,y,h1,h2⟩
section
variable {w:World} {f:Nat} {t e:TypeId} {cs:List Value}
theorem R1.int {k:IntKind} {n:Int} (ht:Tryz.prog.underlying t=some (.int k)) (hn:(Lit.int k n).wf=true):R1 w (f+1) t [.int k n]:=by
 refine ⟨(.lit (.int k n),[]),?_,fun m hm=>by simp [DataW.weights] at hm⟩
 unfold DataW.trod
 simp [ht,hn]
theorem R1.nil (ht:Tryz.prog.underlying t=some (.slice e)):R1 w (f+1) t [.slice none 0 0]:=by
 refine ⟨(.nil,[]),?_,fun m hm=>by simp [DataW.weights] at hm⟩
 unfold DataW.trod
 simp [ht]
theorem R1.str {s:ByteArray} (ht:Tryz.prog.underlying t=some .string) (hs:s.size<=1000000):R1 w (f+1) t [.string s]:=by
 refine ⟨(.lit (.string s.data.toList),[]),?_,fun m hm=>?_⟩
 ·unfold DataW.trod
  have:s.size<=maxLen:=by simp only [maxLen]; omega
  simp [ht,this]
 ·have hz:s.data.toList.length=s.size:=rfl
  simp only [DataW.weights,List.mem_singleton] at hm
  subst hm
  simp only [reachBytes]
  omega
/-- mapM of what is there each. -/
theorem mapM_each {α β:Type} {g:α->Option β} {P:α->β->Prop}:∀ {l:List α},(∀ x∈l,∃ y,g x=some y/\P x y)->∃ ys,l.mapM g=some ys/\ys.length=l.length/\∀ (i:Nat) (x:α) (y:β),l[i]?=some x->ys[i]?=some y->P x y
|[],_=>⟨[],rfl,rfl,fun i x y h=>by simp at h⟩
|x :: l,h=>by
  obtain ⟨y,hy,hp⟩:=h x (List.mem_cons_self ..)
  obtain ⟨ys,hys,hl,hps⟩:=mapM_each (l:=l) (fun z hz=>h z (List.mem_cons_of_mem _ hz))
  refine ⟨y :: ys,by rw [List.mapM_cons,hy,hys]; rfl,by simp [hl],fun i a b h1 h2=>?_⟩
  cases i with
 |zero=>simp at h1 h2; subst h1; subst h2; exact hp
 |succ i=>exact hps i a b (by simpa using h1) (by simpa using h2)
theorem weightsEach_of {H:Type} {P:Program} {Q:Nat->Prop}:∀ {ts:List TypeId} {l:List (DataW H)},(∀ (j:Nat) (t:TypeId) (d:DataW H),ts[j]?=some t->l[j]?=some d->∀ n∈d.weights P t,Q n)->∀ n∈DataW.weightsEach P ts l,Q n
|[],_,_,n,hn=>by simp [DataW.weightsEach] at hn
|_ :: _,[],_,n,hn=>by simp [DataW.weightsEach] at hn
|t :: ts,d :: l,h,n,hn=>by
  simp only [DataW.weightsEach,List.mem_append] at hn
  rcases hn with hn|hn
  ·exact h 0 t d rfl rfl n hn
  ·exact weightsEach_of (fun j t' d' h1 h2=>h (j+1) t' d' (by simpa using h1) (by simpa using h2)) n hn
theorem weightsAll_of {H:Type} {P:Program} {Q:Nat->Prop}:∀ {l:List (DataW H)},(∀ d∈l,∀ n∈d.weights P e,Q n)->∀ n∈DataW.weightsAll P e l,Q n
|[],_,n,hn=>by simp [DataW.weightsAll] at hn
|d :: l,h,n,hn=>by
  simp only [DataW.weightsAll,List.mem_append] at hn
  rcases hn with hn|hn
  ·exact h d (List.mem_cons_self ..) n hn
  ·exact weightsAll_of (fun d' hd=>h d' (List.mem_cons_of_mem _ hd)) n hn
theorem R1.struct {fs:Array Field} (ht:Tryz.prog.underlying t=some (.struct fs)) (hl:cs.length=Tryz.prog.cellsOf t) (h:∀ g∈fs.toList,R1 w f g.type ((cs.drop g.offset).take (Tryz.prog.cellsOf g.type))):R1 w (f+1) t cs:=by
 obtain ⟨ys,hys,hyl,hyp⟩:=mapM_each (g:=fun g:Field=>DataW.trod (H:=Unit) (fun _=>()) Tryz.prog w 0 (fun _=>true) true f g.type ((cs.drop g.offset).take (Tryz.prog.cellsOf g.type))) (P:=fun g y=>∀ n∈y.1.weights Tryz.prog g.type,n<=reachBytes) (l:=fs.toList) (fun g hg=>h g hg)
 refine ⟨(.agg (ys.map (·.1)),ys.flatMap (·.2)),?_,fun m hm=>?_⟩
 ·rw [DataW.trod_step]
  unfold DataW.trodStep
  simp only [ht,hl,if_true,hys,Option.map_some]
 ·simp only [DataW.weights,ht] at hm
  refine weightsEach_of (Q:=fun n=>n<=reachBytes) (fun j t' d h1 h2 n hn=>?_) m hm
  rw [List.getElem?_map] at h1 h2
  cases hx:fs.toList[j]? with
 |none=>rw [hx] at h1; cases h1
 |some g=>
   cases hy:ys[j]? with
  |none=>rw [hy] at h2; cases h2
  |some y=>
    rw [hx] at h1
    rw [hy] at h2
    cases h1
    cases h2
    exact hyp j g y hx hy n hn
theorem R1.array {k:Nat} (ht:Tryz.prog.underlying t=some (.array k e)) (hl:cs.length=Tryz.prog.cellsOf t) (h:∀ i,i<k->R1 w f e ((cs.drop (i * Tryz.prog.cellsOf e)).take (Tryz.prog.cellsOf e))):R1 w (f+1) t cs:=by
 obtain ⟨ys,hys,hyl,hyp⟩:=mapM_each (g:=fun i:Nat=>DataW.trod (H:=Unit) (fun _=>()) Tryz.prog w 0 (fun _=>true) true f e ((cs.drop (i * Tryz.prog.cellsOf e)).take (Tryz.prog.cellsOf e))) (P:=fun _ y=>∀ n∈y.1.weights Tryz.prog e,n<=reachBytes) (l:=List.range k) (fun i hi=>h i (List.mem_range.1 hi))
 refine ⟨(.agg (ys.map (·.1)),ys.flatMap (·.2)),?_,fun m hm=>?_⟩
 ·rw [DataW.trod_step]
  unfold DataW.trodStep
  simp only [ht,hl,if_true,hys,Option.map_some]
 ·simp only [DataW.weights,ht] at hm
  refine weightsAll_of (Q:=fun n=>n<=reachBytes) (fun d hd n hn=>?_) m hm
  obtain ⟨y,hy,rfl⟩:=List.mem_map.1 hd
  obtain ⟨j,hj⟩:=List.getElem?_of_mem hy
  have hjl:j<k:=by have:=(List.getElem?_eq_some_iff.1 hj).1; rw [hyl,List.length_range] at this; exact this
  exact hyp j j y (List.getElem?_range hjl) hj n hn
theorem cells_made {a:Addr}:∀ {ds:List Value} {m:Nat},ds.length=m->(∀ j u,ds[j]?=some u->w.cell? (a.add j)=some u)->w.cells? 0 a m=some ds:=by
 intro ds m hl h
 simp only [World.cells?,Nat.zero_le,if_true]
 subst hl
 have key:∀ (l:List Nat) (ds:List Value),l.length=ds.length->(∀ (j i:Nat) (u:Value),l[j]?=some i->ds[j]?=some u->w.cell? (a.add i)=some u)->l.mapM (fun i=>w.cell? (a.add i))=some ds:=by
  intro l
  induction l with
 |nil=>intro ds h1 _; cases ds with
  |nil=>rfl
  |cons x ds=>simp at h1
 |cons x l ih=>
   intro ds h1 h2
   cases ds with
  |nil=>simp at h1
  |cons d ds=>
    rw [List.mapM_cons,h2 0 x d rfl rfl,ih ds (by simpa using h1) (fun j i u e1 e2=>h2 (j+1) i u (by simpa using e1) (by simpa using e2))]
    rfl
 refine key _ _ (by simp) fun j i u h1 h2=>?_
 have hj:j<ds.length:=(List.getElem?_eq_some_iff.1 h2).1
 rw [List.getElem?_range hj] at h1
 cases h1
 exact h _ u h2
theorem R1.slice {L o len cap s:Nat} (ht:Tryz.prog.underlying t=some (.slice e)) (hs:Tryz.prog.cellsOf e=s) (hlc:len<=cap) (hc:cap<=1000000) (hb:cap * Tryz.prog.bytesOf e<=reachBytes)
  (h:∀ i,i<cap->∃ ds:List Value,ds.length=s/\(∀ j u,ds[j]?=some u->w.cell? ⟨L,o+i * s+j,none⟩=some u)/\R1 w f e ds):R1 w (f+1) t [.slice (some ⟨L,o,none⟩) len cap]:=by
 have he:∀ i,i<cap->∃ y,(w.cells? 0 ((⟨L,o,none⟩:Addr).add (i * Tryz.prog.cellsOf e)) (Tryz.prog.cellsOf e)).bind (DataW.trod (H:=Unit) (fun _=>()) Tryz.prog w 0 (fun _=>true) true f e)=some y/\∀ n∈y.1.weights Tryz.prog e,n<=reachBytes:=fun i hi=>by
  obtain ⟨ds,h1,h2,y,h3,h4⟩:=h i hi
  refine ⟨y,?_,h4⟩
  rw [hs,cells_made h1 (fun j u hu=>by rw [add0,add0]; exact h2 j u hu)]
  exact h3
 obtain ⟨xs,hxs,hxl,hxp⟩:=mapM_each (g:=fun i=>(w.cells? 0 ((⟨L,o,none⟩:Addr).add (i * Tryz.prog.cellsOf e)) (Tryz.prog.cellsOf e)).bind (DataW.trod (H:=Unit) (fun _=>()) Tryz.prog w 0 (fun _=>true) true f e)) (l:=List.range len) (P:=fun _ y=>∀ n∈y.1.weights Tryz.prog e,n<=reachBytes) (fun i hi=>he i (by have:=List.mem_range.1 hi; omega))
 obtain ⟨zs,hzs,hzl,hzp⟩:=mapM_each (g:=fun j=>(w.cells? 0 ((⟨L,o,none⟩:Addr).add ((len+j) * Tryz.prog.cellsOf e)) (Tryz.prog.cellsOf e)).bind (DataW.trod (H:=Unit) (fun _=>()) Tryz.prog w 0 (fun _=>true) true f e)) (l:=List.range (cap - len)) (P:=fun _ y=>∀ n∈y.1.weights Tryz.prog e,n<=reachBytes) (fun j hj=>he (len+j) (by have:=List.mem_range.1 hj; omega))
 have hm:cap<=maxLen:=by simp only [maxLen]; omega
 refine ⟨(.slice (xs.map (·.1)) (zs.map (·.1)),MemPlace.row ⟨L,o,none⟩ ((xs.length+zs.length) * Tryz.prog.cellsOf e) ++ (xs ++ zs).flatMap (·.2)),?_,fun m hm=>?_⟩
 ·rw [DataW.trod_step]
  unfold DataW.trodStep
  simp only [ht,Nat.zero_le,hlc,hm,and_self,if_true,hxs,hzs,Option.bind_some,Option.map_some]
 ·simp only [DataW.weights,ht,List.mem_cons,List.mem_append,List.length_map,hxl,hzl,List.length_range] at hm
  rcases hm with hm|hm|hm
  ·have e1:len+(cap - len)=cap:=Nat.add_sub_cancel' hlc
   rw [e1] at hm
   rw [hm]
   exact hb
  ·refine weightsAll_of (Q:=fun n=>n<=reachBytes) (fun d hd n hn=>?_) m hm
   obtain ⟨y,hy,rfl⟩:=List.mem_map.1 hd
   obtain ⟨j,hj⟩:=List.getElem?_of_mem hy
   have hjl:j<len:=by have:=(List.getElem?_eq_some_iff.1 hj).1; rw [hxl,List.length_range] at this; exact this
   exact hxp j j y (List.getElem?_range hjl) hj n hn
  ·refine weightsAll_of (Q:=fun n=>n<=reachBytes) (fun d hd n hn=>?_) m hm
   obtain ⟨y,hy,rfl⟩:=List.mem_map.1 hd
   obtain ⟨j,hj⟩:=List.getElem?_of_mem hy
   have hjl:j<cap - len:=by have:=(List.getElem?_eq_some_iff.1 hj).1; rw [hzl,List.length_range] at this; exact this
   exact hzp j j y (List.getElem?_range hjl) hj n hn
end
end Go.Proofs.YtckcamlicgdklaaGreat
namespace Go.Proofs.YtckcamlicgdklaaGreat
open Go.RowKit Go.Mo Go.Sort
set_option maxRecDepth 100000 in
theorem entry1c_calls (c:Int) (w:World):Calls Tryz.prog 22 #[.int .i64 1,.int .i64 c] w fun e w'=>e=.returned (.agg (entCells (entE 1 c) none 0).toArray)/\Mod N0 w w':=by
 obtain ⟨z51,hz51,hs51⟩:=zv51
 have hst:(storeVar 73 ⟨w.heap.size,0,none⟩ (.agg (entCells (entE 1 c) none 0).toArray)).run Tryz.prog (w.alloc (.cells z51 73))=.ok () ((w.alloc (.cells z51 73)).setRow w.heap.size (entCells (entE 1 c) none 0).toArray):=
  run_storeVar_row (P:=Tryz.prog) _ w.heap.size 73 73 z51 (entCells (entE 1 c) none 0).toArray (newB w _) (by rw [size51]; simp [entCells_length]) (by rw [hs51]; simp [entCells_length]) (entCells_one _ _ _)
 have hR:=setRow_same (cs:=(entCells (entE 1 c) none 0).toArray) (newB w (.cells z51 73))
 have hmr:Mod N0 w ((w.alloc (.cells z51 73)).setRow w.heap.size (entCells (entE 1 c) none 0).toArray):=Mod_setRow ((Mod.refl _ w).alloc (.cells z51 73)) (b:=w.heap.size) (fun q=>by omega) _
 generalize (w.alloc (.cells z51 73)).setRow w.heap.size (entCells (entE 1 c) none 0).toArray=w2 at hst hR hmr
 have hld:(loadVar 73 ⟨w.heap.size,0,none⟩).run Tryz.prog w2=.ok (.agg (entCells (entE 1 c) none 0).toArray) w2:=
  run_loadVar_mid w2 w.heap.size 0 73 (entCells (entE 1 c) none 0) _ (fun j v hv=>by rw [Nat.zero_add,cellB hR,List.getElem?_toArray]; exact hv) Tryz.underlying73 rfl (by rw [size51,entCells_length])
 have HST:=hh (And.intro hst (And.intro hld hmr))
 have HZ:=hh hz51
 clear hst hld hmr hR hz51 hs51
 go_enter Tryz.func22,Tryz.ntmps22
 go_upto_region 0 with fail
 refine wp_region_lit ?_
 refine ww (exec_alloc _ _ 73 z51 rfl HZ.out) ?_
 go_upto_region 1 with fail
 refine wp_region_lit ?_
 refine ex (v:=.int .i64 1) ?_
 refine wx (exec_buildL _ _ [(1,.tmp 5)] rfl [(1,.int .i64 1)] rfl ((entE 1 c).pre.toArray) (by kernel_rfl)) ?_
 refine ex (v:=.int .i64 1) ?_
 refine wpList_exec (v:=.int .u8 1) rfl (by go_simp; rfl) ?_
 (try simp only [Act.put,ja,jb,jc])
 refine wx (exec_buildL _ _ [(0,.tmp 8)] rfl [(0,.int .u8 1)] rfl (((hashE 1).map by8).toArray) (by kernel_rfl)) ?_
 refine wx (exec_buildL _ _ [(1,.tmp 9)] rfl [(1,.agg ((hashE 1).map by8).toArray)] rfl ((adrCells (entE 1 c).addr).toArray) (by kernel_rfl)) ?_
 refine ex (v:=.int .i64 c) ?_
 refine wx (exec_buildL _ _ [(0,.tmp 11)] rfl [(0,.int .i64 c)] rfl (#[.int .i64 c,.slice none 0 0]) (by kernel_rfl)) ?_
 refine wx (exec_buildL _ _ [(0,.tmp 10),(1,.tmp 12)] rfl [(0,.agg (adrCells (entE 1 c).addr).toArray),(1,.agg #[.int .i64 c,.slice none 0 0])] rfl ((outCells (entE 1 c) none 0).toArray) (by kernel_rfl)) ?_
 refine wx (exec_buildL _ _ [(0,.tmp 6),(1,.tmp 13)] rfl [(0,.agg (entE 1 c).pre.toArray),(1,.agg (outCells (entE 1 c) none 0).toArray)] rfl ((entCells (entE 1 c) none 0).toArray) (by kernel_rfl)) ?_
 refine wpList_execS rfl (exec_store _ _ rfl rfl rfl HST.out.1) ?_
 (try simp only [Act.put])
 go_wp2_with fail
 exact bodyPost_ret (v:=.agg (entCells (entE 1 c) none 0).toArray) (res15 rfl HST.out.2.1) rfl ⟨rfl,HST.out.2.2⟩
set_option maxRecDepth 100000 in
theorem entry2c_calls (c:Int) (w:World):Calls Tryz.prog 22 #[.int .i64 2,.int .i64 c] w fun e w'=>e=.returned (.agg (entCells (entE 2 c) none 0).toArray)/\Mod N0 w w':=by
 obtain ⟨z51,hz51,hs51⟩:=zv51
 have hst:(storeVar 73 ⟨w.heap.size,0,none⟩ (.agg (entCells (entE 2 c) none 0).toArray)).run Tryz.prog (w.alloc (.cells z51 73))=.ok () ((w.alloc (.cells z51 73)).setRow w.heap.size (entCells (entE 2 c) none 0).toArray):=
  run_storeVar_row (P:=Tryz.prog) _ w.heap.size 73 73 z51 (entCells (entE 2 c) none 0).toArray (newB w _) (by rw [size51]; simp [entCells_length]) (by rw [hs51]; simp [entCells_length]) (entCells_one _ _ _)
 have hR:=setRow_same (cs:=(entCells (entE 2 c) none 0).toArray) (newB w (.cells z51 73))
 have hmr:Mod N0 w ((w.alloc (.cells z51 73)).setRow w.heap.size (entCells (entE 2 c) none 0).toArray):=Mod_setRow ((Mod.refl _ w).alloc (.cells z51 73)) (b:=w.heap.size) (fun q=>by omega) _
 generalize (w.alloc (.cells z51 73)).setRow w.heap.size (entCells (entE 2 c) none 0).toArray=w2 at hst hR hmr
 have hld:(loadVar 73 ⟨w.heap.size,0,none⟩).run Tryz.prog w2=.ok (.agg (entCells (entE 2 c) none 0).toArray) w2:=
  run_loadVar_mid w2 w.heap.size 0 73 (entCells (entE 2 c) none 0) _ (fun j v hv=>by rw [Nat.zero_add,cellB hR,List.getElem?_toArray]; exact hv) Tryz.underlying73 rfl (by rw [size51,entCells_length])
 have HST:=hh (And.intro hst (And.intro hld hmr))
 have HZ:=hh hz51
 clear hst hld hmr hR hz51 hs51
 go_enter Tryz.func22,Tryz.ntmps22
 go_upto_region 0 with fail
 refine wp_region_lit ?_
 refine ww (exec_alloc _ _ 73 z51 rfl HZ.out) ?_
 go_upto_region 1 with fail
 refine wp_region_lit ?_
 refine ex (v:=.int .i64 2) ?_
 refine wx (exec_buildL _ _ [(1,.tmp 5)] rfl [(1,.int .i64 2)] rfl ((entE 2 c).pre.toArray) (by kernel_rfl)) ?_
 refine ex (v:=.int .i64 2) ?_
 refine wpList_exec (v:=.int .u8 2) rfl (by go_simp; rfl) ?_
 (try simp only [Act.put,ja,jb,jc])
 refine wx (exec_buildL _ _ [(0,.tmp 8)] rfl [(0,.int .u8 2)] rfl (((hashE 2).map by8).toArray) (by kernel_rfl)) ?_
 refine wx (exec_buildL _ _ [(1,.tmp 9)] rfl [(1,.agg ((hashE 2).map by8).toArray)] rfl ((adrCells (entE 2 c).addr).toArray) (by kernel_rfl)) ?_
 refine ex (v:=.int .i64 c) ?_
 refine wx (exec_buildL _ _ [(0,.tmp 11)] rfl [(0,.int .i64 c)] rfl (#[.int .i64 c,.slice none 0 0]) (by kernel_rfl)) ?_
 refine wx (exec_buildL _ _ [(0,.tmp 10),(1,.tmp 12)] rfl [(0,.agg (adrCells (entE 2 c).addr).toArray),(1,.agg #[.int .i64 c,.slice none 0 0])] rfl ((outCells (entE 2 c) none 0).toArray) (by kernel_rfl)) ?_
 refine wx (exec_buildL _ _ [(0,.tmp 6),(1,.tmp 13)] rfl [(0,.agg (entE 2 c).pre.toArray),(1,.agg (outCells (entE 2 c) none 0).toArray)] rfl ((entCells (entE 2 c) none 0).toArray) (by kernel_rfl)) ?_
 refine wpList_execS rfl (exec_store _ _ rfl rfl rfl HST.out.1) ?_
 (try simp only [Act.put])
 go_wp2_with fail
 exact bodyPost_ret (v:=.agg (entCells (entE 2 c) none 0).toArray) (res15 rfl HST.out.2.1) rfl ⟨rfl,HST.out.2.2⟩
end Go.Proofs.YtckcamlicgdklaaGreat
namespace Go.Proofs.YtckcamlicgdklaaGreat
open Go.ChangeShapes Go.WideShapes Go.ChangeAt Go.RowKit Go.Joins Go.Deep Go.Mo
theorem r1_of {w:World} {f:Nat} {t:TypeId} {cs:List Value} (h:((DataW.trod (H:=Unit) (fun _=>()) Tryz.prog w 0 (fun _=>true) true f t cs).map fun y=>(y.1.weights Tryz.prog t).all (fun n=>decide (n<=reachBytes)))=some true):R1 w f t cs:=by
 cases hy:DataW.trod (H:=Unit) (fun _=>()) Tryz.prog w 0 (fun _=>true) true f t cs with
|none=>rw [hy] at h; cases h
|some y=>
  rw [hy] at h
  simp only [Option.map_some,Option.some.injEq] at h
  exact ⟨y,hy,fun n hn=>of_decide_eq_true (List.all_eq_true.1 h n hn)⟩
theorem wf64 {n:Int} (h:In64 n):(Lit.int .i64 n).wf=true:=by
 unfold In64 at h
 have h2:IntKind.i64.max=9223372036854775807:=rfl
 have h3:IntKind.i64.min=-9223372036854775808:=rfl
 simp only [Lit.wf,Bool.and_eq_true,decide_eq_true_eq]
 omega
theorem r1_struct {w:World} {f:Nat} {t:TypeId} {fs:Array Field} (ht:Tryz.prog.underlying t=some (.struct fs)) (ps:List (List Value)) (hn:fs.size=ps.length) (hsz:ps.flatten.length=Tryz.prog.cellsOf t)
  (h:∀ (i:Nat) (g:Field) (p:List Value),fs[i]?=some g->ps[i]?=some p->R1 w f g.type p/\p.length=Tryz.prog.cellsOf g.type/\g.offset=(ps.take i).flatten.length):R1 w (f+1) t ps.flatten:=by
 refine R1.struct ht hsz fun g hg=>?_
 obtain ⟨i,hi⟩:=List.getElem?_of_mem hg
 rw [Array.getElem?_toList] at hi
 have hlt:i<ps.length:=by have:=(Array.getElem?_eq_some_iff.1 hi).1; omega
 have hp:ps[i]?=some ps[i]:=List.getElem?_eq_getElem hlt
 obtain ⟨h1,h2,h3⟩:=h i g _ hi hp
 have e:(ps.flatten.drop g.offset).take (Tryz.prog.cellsOf g.type)=ps[i]:=by
  have hs:ps=ps.take i ++ ps[i] :: ps.drop (i+1):=by rw [← List.drop_eq_getElem_cons hlt,List.take_append_drop]
  have hf:ps.flatten=(ps.take i).flatten ++ (ps[i] ++ (ps.drop (i+1)).flatten):=by
   conv=>lhs; rw [hs]
   rw [List.flatten_append,List.flatten_cons]
  rw [h3,← h2,hf,List.drop_left,List.take_left]
 rw [e]
 exact h1
theorem r1_65 {w:World} {f:Nat} {p0:List Value} {p1:List Value} (h0:R1 w f 2 p0) (h1:R1 w f 63 p1) (l0:p0.length=1) (l1:p1.length=1):R1 w (f+1) 65 [p0,p1].flatten:=by
 refine r1_struct Tryz.underlying65 _ rfl (by rw [show Tryz.prog.cellsOf 65=2 by kernel_rfl]; simp [l0,l1]) fun i g p hg hp=>?_
 match i with
|0=>
  cases (show some _=some g from hg)
  cases (show some _=some p from hp)
  exact ⟨h0,by rw [l0]; kernel_rfl,by simp []⟩
|1=>
  cases (show some _=some g from hg)
  cases (show some _=some p from hp)
  exact ⟨h1,by rw [l1]; kernel_rfl,by simp [l0]⟩
|i+2=>exact absurd ((List.getElem?_eq_some_iff.1 hp).1) (by simp)
theorem r1_71 {w:World} {f:Nat} {p0:List Value} {p1:List Value} {p2:List Value} {p3:List Value} {p4:List Value} (h0:R1 w f 41 p0) (h1:R1 w f 65 p1) (h2:R1 w f 66 p2) (h3:R1 w f 27 p3) (h4:R1 w f 69 p4) (l0:p0.length=33) (l1:p1.length=2) (l2:p2.length=1) (l3:p3.length=32) (l4:p4.length=1):R1 w (f+1) 71 [p0,p1,p2,p3,p4].flatten:=by
 refine r1_struct Tryz.underlying71 _ rfl (by rw [show Tryz.prog.cellsOf 71=69 by kernel_rfl]; simp [l0,l1,l2,l3,l4]) fun i g p hg hp=>?_
 match i with
|0=>
  cases (show some _=some g from hg)
  cases (show some _=some p from hp)
  exact ⟨h0,by rw [l0]; kernel_rfl,by simp []⟩
|1=>
  cases (show some _=some g from hg)
  cases (show some _=some p from hp)
  exact ⟨h1,by rw [l1]; kernel_rfl,by simp [l0]⟩
|2=>
  cases (show some _=some g from hg)
  cases (show some _=some p from hp)
  exact ⟨h2,by rw [l2]; kernel_rfl,by simp [l0,l1]⟩
|3=>
  cases (show some _=some g from hg)
  cases (show some _=some p from hp)
  exact ⟨h3,by rw [l3]; kernel_rfl,by simp [l0,l1,l2]⟩
|4=>
  cases (show some _=some g from hg)
  cases (show some _=some p from hp)
  exact ⟨h4,by rw [l4]; kernel_rfl,by simp [l0,l1,l2,l3]⟩
|i+5=>exact absurd ((List.getElem?_eq_some_iff.1 hp).1) (by simp)
theorem r1_73 {w:World} {f:Nat} {p0:List Value} {p1:List Value} (h0:R1 w f 62 p0) (h1:R1 w f 71 p1) (l0:p0.length=33) (l1:p1.length=69):R1 w (f+1) 73 [p0,p1].flatten:=by
 refine r1_struct Tryz.underlying73 _ rfl (by rw [show Tryz.prog.cellsOf 73=102 by kernel_rfl]; simp [l0,l1]) fun i g p hg hp=>?_
 match i with
|0=>
  cases (show some _=some g from hg)
  cases (show some _=some p from hp)
  exact ⟨h0,by rw [l0]; kernel_rfl,by simp []⟩
|1=>
  cases (show some _=some g from hg)
  cases (show some _=some p from hp)
  exact ⟨h1,by rw [l1]; kernel_rfl,by simp [l0]⟩
|i+2=>exact absurd ((List.getElem?_eq_some_iff.1 hp).1) (by simp)
theorem r1_76 {w:World} {f:Nat} {p0:List Value} {p1:List Value} {p2:List Value} (h0:R1 w f 27 p0) (h1:R1 w f 9 p1) (h2:R1 w f 2 p2) (l0:p0.length=32) (l1:p1.length=1) (l2:p2.length=1):R1 w (f+1) 76 [p0,p1,p2].flatten:=by
 refine r1_struct Tryz.underlying76 _ rfl (by rw [show Tryz.prog.cellsOf 76=34 by kernel_rfl]; simp [l0,l1,l2]) fun i g p hg hp=>?_
 match i with
|0=>
  cases (show some _=some g from hg)
  cases (show some _=some p from hp)
  exact ⟨h0,by rw [l0]; kernel_rfl,by simp []⟩
|1=>
  cases (show some _=some g from hg)
  cases (show some _=some p from hp)
  exact ⟨h1,by rw [l1]; kernel_rfl,by simp [l0]⟩
|2=>
  cases (show some _=some g from hg)
  cases (show some _=some p from hp)
  exact ⟨h2,by rw [l2]; kernel_rfl,by simp [l0,l1]⟩
|i+3=>exact absurd ((List.getElem?_eq_some_iff.1 hp).1) (by simp)
theorem r1_39 {w:World} {f:Nat} {p0:List Value} {p1:List Value} {p2:List Value} (h0:R1 w f 25 p0) (h1:R1 w f 2 p1) (h2:R1 w f 37 p2) (l0:p0.length=12) (l1:p1.length=1) (l2:p2.length=1):R1 w (f+1) 39 [p0,p1,p2].flatten:=by
 refine r1_struct Tryz.underlying39 _ rfl (by rw [show Tryz.prog.cellsOf 39=14 by kernel_rfl]; simp [l0,l1,l2]) fun i g p hg hp=>?_
 match i with
|0=>
  cases (show some _=some g from hg)
  cases (show some _=some p from hp)
  exact ⟨h0,by rw [l0]; kernel_rfl,by simp []⟩
|1=>
  cases (show some _=some g from hg)
  cases (show some _=some p from hp)
  exact ⟨h1,by rw [l1]; kernel_rfl,by simp [l0]⟩
|2=>
  cases (show some _=some g from hg)
  cases (show some _=some p from hp)
  exact ⟨h2,by rw [l2]; kernel_rfl,by simp [l0,l1]⟩
|i+3=>exact absurd ((List.getElem?_eq_some_iff.1 hp).1) (by simp)
theorem r1_36 {w:World} {f:Nat} {p0:List Value} {p1:List Value} {p2:List Value} {p3:List Value} {p4:List Value} {p5:List Value} {p6:List Value} {p7:List Value} {p8:List Value} {p9:List Value} {p10:List Value} {p11:List Value} (h0:R1 w f 25 p0) (h1:R1 w f 27 p1) (h2:R1 w f 28 p2) (h3:R1 w f 29 p3) (h4:R1 w f 32 p4) (h5:R1 w f 27 p5) (h6:R1 w f 27 p6) (h7:R1 w f 2 p7) (h8:R1 w f 2 p8) (h9:R1 w f 33 p9) (h10:R1 w f 34 p10) (h11:R1 w f 2 p11) (l0:p0.length=12) (l1:p1.length=32) (l2:p2.length=1) (l3:p3.length=1) (l4:p4.length=67) (l5:p5.length=32) (l6:p6.length=32) (l7:p7.length=1) (l8:p8.length=1) (l9:p9.length=1) (l10:p10.length=1) (l11:p11.length=1):R1 w (f+1) 36 [p0,p1,p2,p3,p4,p5,p6,p7,p8,p9,p10,p11].flatten:=by
 refine r1_struct Tryz.underlying36 _ rfl (by rw [show Tryz.prog.cellsOf 36=182 by kernel_rfl]; simp [l0,l1,l2,l3,l4,l5,l6,l7,l8,l9,l10,l11]) fun i g p hg hp=>?_
 match i with
|0=>
  cases (show some _=some g from hg)
  cases (show some _=some p from hp)
  exact ⟨h0,by rw [l0]; kernel_rfl,by simp []⟩
|1=>
  cases (show some _=some g from hg)
  cases (show some _=some p from hp)
  exact ⟨h1,by rw [l1]; kernel_rfl,by simp [l0]⟩
|2=>
  cases (show some _=some g from hg)
  cases (show some _=some p from hp)
  exact ⟨h2,by rw [l2]; kernel_rfl,by simp [l0,l1]⟩
|3=>
  cases (show some _=some g from hg)
  cases (show some _=some p from hp)
  exact ⟨h3,by rw [l3]; kernel_rfl,by simp [l0,l1,l2]⟩
|4=>
  cases (show some _=some g from hg)
  cases (show some _=some p from hp)
  exact ⟨h4,by rw [l4]; kernel_rfl,by simp [l0,l1,l2,l3]⟩
|5=>
  cases (show some _=some g from hg)
  cases (show some _=some p from hp)
  exact ⟨h5,by rw [l5]; kernel_rfl,by simp [l0,l1,l2,l3,l4]⟩
|6=>
  cases (show some _=some g from hg)
  cases (show some _=some p from hp)
  exact ⟨h6,by rw [l6]; kernel_rfl,by simp [l0,l1,l2,l3,l4,l5]⟩
|7=>
  cases (show some _=some g from hg)
  cases (show some _=some p from hp)
  exact ⟨h7,by rw [l7]; kernel_rfl,by simp [l0,l1,l2,l3,l4,l5,l6]⟩
|8=>
  cases (show some _=some g from hg)
  cases (show some _=some p from hp)
  exact ⟨h8,by rw [l8]; kernel_rfl,by simp [l0,l1,l2,l3,l4,l5,l6,l7]⟩
|9=>
  cases (show some _=some g from hg)
  cases (show some _=some p from hp)
  exact ⟨h9,by rw [l9]; kernel_rfl,by simp [l0,l1,l2,l3,l4,l5,l6,l7,l8]⟩
|10=>
  cases (show some _=some g from hg)
  cases (show some _=some p from hp)
  exact ⟨h10,by rw [l10]; kernel_rfl,by simp [l0,l1,l2,l3,l4,l5,l6,l7,l8,l9]⟩
|11=>
  cases (show some _=some g from hg)
  cases (show some _=some p from hp)
  exact ⟨h11,by rw [l11]; kernel_rfl,by simp [l0,l1,l2,l3,l4,l5,l6,l7,l8,l9,l10]⟩
|i+12=>exact absurd ((List.getElem?_eq_some_iff.1 hp).1) (by simp)
end Go.Proofs.YtckcamlicgdklaaGreat
namespace Go.Proofs.YtckcamlicgdklaaGreat
open Go.ChangeShapes Go.WideShapes Go.ChangeAt Go.RowKit Go.Joins Go.Deep Go.Mo
def nmX (b:UInt8):Nm:=⟨List.replicate 32 0,[b],by simp,by simp [maxLen]⟩
def entA (n:Nat) (c:Int) (l:List (Nm×Int)):Ent:={entE n c with val:=⟨c,l⟩}
def oo:List Value:=List.replicate 32 (.int .u8 0)
def rootL:List Value:=oo ++ ([.int .i64 0,.int .i64 0] ++ (oo ++ [.int .u64 0]))
def stL (es fees forf mv:Value):List Value:=[List.replicate 12 (.int .i64 0),oo,[es],[.slice none 0 0],rootL,oo,oo,[fees],[forf],[mv],[.slice none 0 0],[.int .i64 0]].flatten
def gnL (ov:Value):List Value:=[List.replicate 12 (.int .i64 0),[.int .i64 0],[ov]].flatten
section
variable {w:World} {z z':Int}
theorem r1_asset (b:UInt8) (h:In64 z):R1 w 7 76 (asCells (nmX b) z):=by
 have:=r1_76 (w:=w) (f:=6) (p0:=List.replicate 32 (.int .u8 0)) (p1:=[.string ⟨[b].toArray⟩]) (p2:=[.int .i64 z]) (r1_of (by kernel_rfl)) (R1.str Tryz.underlying9 (show 1<=1000000 by omega)) (R1.int Tryz.underlying2 (wf64 h)) rfl rfl rfl
 exact this
theorem r1_assets (L:Nat) (b b':UInt8) (h:In64 z) (h':In64 z') (hb:w.heap[L]?=some (.cells ([asCells (nmX b) z,asCells (nmX b') z'].flatten).toArray 76 (0,0))):R1 w 8 63 [.slice (some ⟨L,0,none⟩) 2 2]:=by
 refine R1.slice Tryz.underlying63 Tryz.c97 (by omega) (by omega) (of_decide_eq_true (by kernel_rfl)) fun i hi=>?_
 have hr:∀ (k:Nat) (ds:List Value),[asCells (nmX b) z,asCells (nmX b') z'][k]?=some ds->∀ j u,ds[j]?=some u->w.cell? ⟨L,0+k * 34+j,none⟩=some u:=fun k ds hk j u hu=>by
  rw [Nat.zero_add,cellB hb,List.getElem?_toArray]
  exact flat_get' _ (fun d hd=>by
   simp only [List.mem_cons,List.not_mem_nil,or_false] at hd
   rcases hd with rfl|rfl <;> rfl) k ds hk j u hu
 match i,hi with
|0,_=>exact ⟨_,rfl,hr 0 _ rfl,r1_asset b h⟩
|1,_=>exact ⟨_,rfl,hr 1 _ rfl,r1_asset b' h'⟩
theorem r1_out (n:Nat) (hn:n=0∨n=1∨n=2) (l:List (Nm×Int)) (a:Option Addr) (k:Nat) (h:In64 z) (hs:R1 w 8 63 [.slice a l.length k]):R1 w 10 71 (outCells (entA n z l) a k):=by
 have ha:R1 w 9 41 (adrCells (entE n 0).addr):=by
  rcases hn with rfl|rfl|rfl <;> exact r1_of (by kernel_rfl)
 have hv:=r1_65 (w:=w) (f:=8) (p0:=[.int .i64 z]) (p1:=[.slice a l.length k]) (R1.int Tryz.underlying2 (wf64 h)) hs rfl rfl
 have:=r1_71 (w:=w) (f:=9) (p0:=adrCells (entE n 0).addr) (p2:=[.int .i64 0]) (p3:=List.replicate 32 (.int .u8 0)) (p4:=[.slice none 0 0]) ha hv (r1_of (by kernel_rfl)) (r1_of (by kernel_rfl)) (r1_of (by kernel_rfl)) (adrCells_length _) rfl rfl rfl rfl
 have e:[adrCells (entE n 0).addr,[[.int .i64 z],[.slice a l.length k]].flatten,[.int .i64 0],List.replicate 32 (.int .u8 0),[.slice none 0 0]].flatten=outCells (entA n z l) a k:=by
  simp [outCells,entA,entE,Ent.adr]
 rw [e] at this
 exact this
theorem r1_ent (n:Nat) (hn:n=1∨n=2) (l:List (Nm×Int)) (a:Option Addr) (k:Nat) (h:In64 z) (hs:R1 w 8 63 [.slice a l.length k]):R1 w 11 73 (entCells (entA n z l) a k):=by
 have ho:=r1_out (w:=w) n (by omega) l a k h hs
 have hr:R1 w 10 62 (List.replicate 32 (.int .u8 0) ++ [.int .i64 n]):=by
  rcases hn with rfl|rfl <;> exact r1_of (by kernel_rfl)
 have:=r1_73 (w:=w) (f:=10) hr ho rfl (outCells_length _ _ _)
 have e:[List.replicate 32 (.int .u8 0) ++ [.int .i64 (n:Int)],outCells (entA n z l) a k].flatten=entCells (entA n z l) a k:=by
  simp [entCells,entA,entE]
 rw [e] at this
 exact this
theorem st_built (a m:Option Addr) (n k q r:Nat) (f g:Int):Tryz.prog.built 36 [(2,.slice a n k),(7,.int .i64 f),(8,.int .i64 g),(9,.slice m q r)]=some (stL (.slice a n k) (.int .i64 f) (.int .i64 g) (.slice m q r)).toArray:=by kernel_rfl
theorem st_built3 (a:Option Addr) (n k:Nat) (f:Int):Tryz.prog.built 36 [(2,.slice a n k),(7,.int .i64 f)]=some (stL (.slice a n k) (.int .i64 f) (.int .i64 0) (.slice none 0 0)).toArray:=by kernel_rfl
theorem gn_built (a:Option Addr) (n k:Nat):Tryz.prog.built 39 [(2,.slice a n k)]=some (gnL (.slice a n k)).toArray:=by kernel_rfl
theorem r1_state {a m:Option Addr} {n k q r:Nat} (h:In64 z) (h':In64 z') (he:R1 w 12 28 [.slice a n k]) (hm:R1 w 12 33 [.slice m q r]):R1 w 13 36 (stL (.slice a n k) (.int .i64 z) (.int .i64 z') (.slice m q r)):=
 r1_36 (w:=w) (f:=12) (r1_of (by kernel_rfl)) (r1_of (by kernel_rfl)) he (r1_of (by kernel_rfl)) (r1_of (by kernel_rfl)) (r1_of (by kernel_rfl)) (r1_of (by kernel_rfl)) (R1.int Tryz.underlying2 (wf64 h)) (R1.int Tryz.underlying2 (wf64 h')) hm (r1_of (by kernel_rfl)) (r1_of (by kernel_rfl)) rfl rfl rfl rfl rfl rfl rfl rfl rfl rfl rfl rfl
theorem r1_gen {a:Option Addr} {n k:Nat} (ho:R1 w 11 37 [.slice a n k]):R1 w 12 39 (gnL (.slice a n k)):=
 r1_39 (w:=w) (f:=11) (r1_of (by kernel_rfl)) (r1_of (by kernel_rfl)) ho rfl rfl rfl
theorem r1_minted (L:Nat) (hb:w.heap[L]?=some (.cells (totCells (nmX 120,5)).toArray 78 (0,0))):R1 w 12 33 [.slice (some ⟨L,0,none⟩) 1 1]:=by
 refine R1.slice Tryz.underlying33 (s:=35) (by kernel_rfl) (by omega) (by omega) (of_decide_eq_true (by kernel_rfl)) fun i hi=>?_
 have e:i=0:=by omega
 subst e
 exact ⟨totCells (nmX 120,5),totCells_length _,fun j u hu=>by rw [show 0+0 * 35+j=j by omega,cellB hb,List.getElem?_toArray]; exact hu,r1_of (by kernel_rfl)⟩
theorem r1_entries (L:Nat) {p0 p1 p2:List Value} (l0:p0.length=102) (l1:p1.length=102) (l2:p2.length=102) (h0:R1 w 11 73 p0) (h1:R1 w 11 73 p1) (h2:R1 w 11 73 p2) (hb:w.heap[L]?=some (.cells ([p0,p1,p2,p2].flatten).toArray 73 (0,0))) (n:Nat) (hn:n<=4):R1 w 12 28 [.slice (some ⟨L,0,none⟩) n 4]:=by
 refine R1.slice Tryz.underlying28 cc51 hn (by omega) (of_decide_eq_true (by kernel_rfl)) fun i hi=>?_
 have hr:∀ (k:Nat) (ds:List Value),[p0,p1,p2,p2][k]?=some ds->∀ j u,ds[j]?=some u->w.cell? ⟨L,0+k * 102+j,none⟩=some u:=fun k ds hk j u hu=>by
  rw [Nat.zero_add,cellB hb,List.getElem?_toArray]
  exact flat_get' _ (fun d hd=>by
   simp only [List.mem_cons,List.not_mem_nil,or_false] at hd
   rcases hd with rfl|rfl|rfl|rfl <;> assumption) k ds hk j u hu
 match i,hi with
|0,_=>exact ⟨_,l0,hr 0 _ rfl,h0⟩
|1,_=>exact ⟨_,l1,hr 1 _ rfl,h1⟩
|2,_=>exact ⟨_,l2,hr 2 _ rfl,h2⟩
|3,_=>exact ⟨_,l2,hr 3 _ rfl,h2⟩
theorem r1_outs (L:Nat) {p0 p1:List Value} (l0:p0.length=69) (l1:p1.length=69) (h0:R1 w 10 71 p0) (h1:R1 w 10 71 p1) (hb:w.heap[L]?=some (.cells ([p0,p1].flatten).toArray 71 (0,0))):R1 w 11 37 [.slice (some ⟨L,0,none⟩) 2 2]:=by
 refine R1.slice Tryz.underlying37 cc49 (by omega) (by omega) (of_decide_eq_true (by kernel_rfl)) fun i hi=>?_
 have hr:∀ (k:Nat) (ds:List Value),[p0,p1][k]?=some ds->∀ j u,ds[j]?=some u->w.cell? ⟨L,0+k * 69+j,none⟩=some u:=fun k ds hk j u hu=>by
  rw [Nat.zero_add,cellB hb,List.getElem?_toArray]
  exact flat_get' _ (fun d hd=>by
   simp only [List.mem_cons,List.not_mem_nil,or_false] at hd
   rcases hd with rfl|rfl <;> assumption) k ds hk j u hu
 match i,hi with
|0,_=>exact ⟨_,l0,hr 0 _ rfl,h0⟩
|1,_=>exact ⟨_,l1,hr 1 _ rfl,h1⟩
end
end Go.Proofs.YtckcamlicgdklaaGreat
