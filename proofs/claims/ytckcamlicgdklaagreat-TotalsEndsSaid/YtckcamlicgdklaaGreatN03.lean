/- A book of wide sums: add. Laws of rows whose cells are no literals: build, store, load, one step of a list. An asset's name: value.of. -/
import Derived.Test.YtckcamlicgdklaaGreatN02
import Derived.Laws.Rows
import Derived.Handy
import Derived.Deep.RegionHeld3
import Derived.Deep.RegionLaw
import Derived.Deep.RegionWith
import Derived.Laws.Tables
import Derived.Deep.MidRow
namespace Go.Proofs.YtckcamlicgdklaaGreat
open Go.RowKit Go.Mo
def wv (l:List (Nm×Int)):List (Nm×Value):=l.map fun x=>(x.1,wideV x.2)
def getW (l:List (Nm×Int)) (k:Nm):Int:=(lkN l k).getD 0
theorem wv_lk (k:Nm):∀ l:List (Nm×Int),lkN (wv l) k=(lkN l k).map wideV
|[]=>rfl
|x :: r=>by
  have ih:=wv_lk k r
  simp only [wv] at ih ⊢
  by_cases h:x.1=k
  ·simp [lkN,h]
  ·simp [lkN,h,ih]
theorem wv_up (k:Nm) (z:Int):∀ l:List (Nm×Int),wv (upN l k z)=upN (wv l) k (wideV z)
|[]=>rfl
|x :: r=>by
  have ih:=wv_up k z r
  simp only [wv] at ih ⊢
  by_cases h:x.1=k
  ·simp [upN,h]
  ·simp [upN,h,ih]
abbrev ret0:Ending:=.returned (.tuple #[])
theorem zero57 (w:World):(zeroValue 48).run Tryz.prog w=.ok (wideV 0) w:=by kernel_rfl
theorem heap_layObj_same {w:World} {b:Nat} (h:b<w.heap.size) (o:Obj):(w.layObj b o).heap[b]?=some o:=by simp [World.layObj,h]
theorem heap_layObj_other {w:World} {b k:Nat} (h:k≠b) (o:Obj):(w.layObj b o).heap[k]?=w.heap[k]?:=by
 simp only [World.layObj]; rw [Array.getElem?_setIfInBounds_ne (fun e=>h e.symm)]
theorem Mod_layObj {S:Nat->Prop} {a w:World} (h:Mod S a w) {b:Nat} (hb:b<a.heap.size->S b) (o:Obj):Mod S a (w.layObj b o):=
 h.trans (S':=fun k=>k=b) ⟨rfl,rfl,rfl,by simp [World.layObj],fun _ _ hn=>heap_layObj_other hn o⟩ (fun _ q l=>by subst q; exact hb l)
theorem size93:(Tryz.prog.info? 171).map (·.size)=some 33:=by kernel_rfl
theorem nm_size (k:Nm):(Tryz.prog.info? 171).map (·.size)=some (nmCells k).toArray.size:=by
 rw [size93]; simp [nmCells,k.len]
theorem exec_load_row (a:Act) (o:Oper) {w:World} (ty:TypeId) (x:Operand) (ho:o.op=.load ty x) (g:Nat) (hx:a.eval x=.pointer (some ⟨g,0,none⟩)) (cs:Array Value)
  (hl:(loadVar ty ⟨g,0,none⟩).run Tryz.prog w=.ok (.agg cs) w):(execOp a.eval o).run Tryz.prog w=.ok (.value (.agg cs)) w:=by
 unfold execOp
 simp only [ho,hx,Instr.loadAt,Instr.sureAddr,Sem.run_bind,Sem.run_pure,Result.andThen_ok,hl]
theorem load93 {w:World} {g:Nat} {k:Nm} (hg:w.heap[g]?=some (.cells (nmCells k).toArray 171 (0,0))):(loadVar 171 ⟨g,0,none⟩).run Tryz.prog w=.ok (.agg (nmCells k).toArray) w:=
 run_loadVar_row w g 171 171 _ (0,0) _ hg Tryz.underlying171 rfl (nm_size k)
theorem size57:(Tryz.prog.info? 48).map (·.size)=some 2:=by kernel_rfl
theorem load57 {w:World} {g:Nat} {x y:Value} (hg:w.heap[g]?=some (.cells #[x,y] 48 (0,0))):(loadVar 48 ⟨g,0,none⟩).run Tryz.prog w=.ok (.agg #[x,y]) w:=
 run_loadVar_row w g 48 48 _ (0,0) _ hg Tryz.underlying48 rfl size57
set_option maxRecDepth 100000 in
set_option maxHeartbeats 2000000 in
theorem add_calls (w:World) (b:Nat) (l:List (Nm×Int)) (h:w.heap[b]?=some (nmap (wv l))) (k:Nm) (z:Int) :
  Calls Tryz.prog 64 #[.map (some b),nmV k,wideV z] w fun e w'=>e=ret0/\w'.heap[b]?=some (nmap (wv (upN l k (getW l k+z))))/\Mod (fun j=>j=b) w w':=by
 obtain ⟨w0,hw0⟩:∃ w0,(w.alloc (.cells (nmCells k).toArray 171)).alloc (.cells #[.int .i64 (hiW z),.int .u64 (loW z)] 48)=w0:=⟨_,rfl⟩
 have hm0:Mod N0 w w0:=by rw [← hw0]; exact ((Mod.refl _ w).alloc _).alloc _
 have hk0:w0.heap[w.heap.size]?=some (.cells (nmCells k).toArray 171 (0,0)):=by rw [← hw0]; exact allocB (newB w _) _
 have hz0:w0.heap[w.heap.size+1]?=some (.cells #[.int .i64 (hiW z),.int .u64 (loW z)] 48 (0,0)):=by
  rw [← hw0]; have:=newB (w.alloc (.cells (nmCells k).toArray 171)) (.cells #[.int .i64 (hiW z),.int .u64 (loW z)] 48); rwa [World.size_alloc] at this
 have hb0:w0.heap[b]?=some (nmap (wv l)):=by rw [← hw0]; exact allocB (allocB h _) _
 have hgw:(lkN (wv l) k).getD (wideV 0)=wideV (getW l k):=by rw [wv_lk,getW]; cases lkN l k <;> rfl
 have hlk:∀ W:World,W.heap[b]?=some (nmap (wv l))->(Instr.lookup 168 (.map (some b)) (.agg (nmCells k).toArray) false).run Tryz.prog W=.ok (.agg #[.int .i64 (hiW (getW l k)),.int .u64 (loW (getW l k))]) W:=fun W hW=>by
  have:=run_lookupN Tryz.underlying168 hW k (zero57 W)
  rw [hgw] at this; exact this
 have HLK:=hh hlk
 have HPL:=hh (fun (W:World)=>plus_calls (W.alloc (.cells #[.int .i64 (hiW (getW l k)),.int .u64 (loW (getW l k)),.int .i64 (hiW z),.int .u64 (loW z)] 48)) (.slice (some ⟨W.heap.size,0,none⟩) 2 2) [getW l k,z] ⟨some ⟨W.heap.size,0,none⟩,2,rfl,fun i y hy=>by
  have hB:=newB W (.cells #[.int .i64 (hiW (getW l k)),.int .u64 (loW (getW l k)),.int .i64 (hiW z),.int .u64 (loW z)] 48)
  have hi:i<2:=by have:=(List.getElem?_eq_some_iff.1 hy).1; simpa using this
  have:i=0∨i=1:=by omega
  rcases this with rfl|rfl
  ·simp at hy; subst hy
   exact ⟨_,0,rfl,ltB hB,by rw [cellB hB]; rfl,by rw [cellB hB]; rfl⟩
  ·simp at hy; subst hy
   exact ⟨_,0,rfl,ltB hB,by rw [cellB hB]; rfl,by rw [cellB hB]; rfl⟩⟩ (by simp))
 have H0:=hh (And.intro hm0 (And.intro hk0 hb0))
 have HZ0:=hh hz0
 have hbw:=ltB h
 clear h hm0 hk0 hz0 hb0 hlk
 unfold nmV wideV
 go_enter Tryz.func64,Tryz.ntmps64
 go_wp2_with fail
 refine wp_region_held_drew (S:=(fun W=>W.heap[w.heap.size]?=some (.cells (nmCells k).toArray 171 (0,0))/\W.heap[w.heap.size+1]?=some (.cells #[.int .i64 (hiW z),.int .u64 (loW z)] 48 (0,0)))) (by kernel_rfl) ⟨H0.out.2.1,HZ0.out⟩ (fun hH=>?_)
 refine tk (i:=0) (oi:=⟨some 6,.move (.tmp 0),168, "value.go:180",#[],none⟩) (v:=?_) hH ?_ ?_
 rotate_left
 ·intro w' hSw
  obtain ⟨s0,s1⟩:=hSw
  go_simp
  (try with_reducible rfl)
 refine tk (i:=1) (oi:=⟨some 7,.load 171 (.tmp 4),171, "value.go:180",#[],none⟩) (v:=.agg (nmCells k).toArray) hH ?_ ?_
 ·intro w' hSw
  obtain ⟨s0,s1⟩:=hSw
  exact exec_load_row _ _ 171 _ rfl w.heap.size rfl _ (load93 s0)
 refine tk (i:=2) (oi:=⟨some 8,.move (.tmp 0),168, "value.go:180",#[],none⟩) (v:=?_) hH ?_ ?_
 rotate_left
 ·intro w' hSw
  obtain ⟨s0,s1⟩:=hSw
  go_simp
  (try with_reducible rfl)
 refine tk (i:=3) (oi:=⟨some 9,.load 171 (.tmp 4),171, "value.go:180",#[],none⟩) (v:=.agg (nmCells k).toArray) hH ?_ ?_
 ·intro w' hSw
  obtain ⟨s0,s1⟩:=hSw
  exact exec_load_row _ _ 171 _ rfl w.heap.size rfl _ (load93 s0)
 refine tk (i:=5) (oi:=⟨some 11,.load 48 (.tmp 5),48, "value.go:180",#[],none⟩) (v:=.agg #[.int .i64 (hiW z),.int .u64 (loW z)]) hH ?_ ?_
 ·intro w' hSw
  obtain ⟨s0,s1⟩:=hSw
  exact exec_load_row _ _ 48 _ rfl (w.heap.size+1) rfl _ (load57 s1)
 refine tr (rs:=[4]) ?_
 refine AllReadyH.cons (o:=⟨some 10,.lookup 168 (.tmp 8) (.tmp 9) false,48, "value.go:180",#[⟨2,.data⟩,⟨3,.data⟩],none⟩) rfl (fun K hK=>?_) AllReadyH.nil
 have hl4:=HLK.out w0.drew H0.out.2.2
 go_simp
 refine hK.out _ _ ⟨H0.out.2.1,HZ0.out⟩ (fun hH1=>?_)
 clear hK K hl4
 (try simp only [Act.put,ja,jb,jc])
 refine tr (rs:=[6]) ?_
 refine AllReadyH.cons (o:=⟨some 12,.buildSlice 97 2 #[(0,.tmp 10),(1,.tmp 11)],97, "value.go:180",#[⟨4,.data⟩,⟨5,.data⟩],none⟩) rfl (fun K hK=>?_) AllReadyH.nil
 go_simp
 refine hK.out _ _ ⟨allocB H0.out.2.1 _,allocB HZ0.out _⟩ (fun hH2=>?_)
 clear hK K
 (try simp only [Act.put,ja,jb,jc])
 refine tr (rs:=[7]) ?_
 refine AllReadyH.cons (o:=⟨some 13,.call {callee:=.value (.func 60),args:=#[.tmp 12],argTypes:=#[97]},48, "value.go:180",#[⟨6,.data⟩],none⟩) rfl (fun K hK=>?_) AllReadyH.nil
 go_simp
 refine (HPL.out w0.drew).mono ?_
 rintro e w2 ⟨rfl,hm2⟩
 have hb2:w2.heap[b]?=some (nmap (wv l)):=(hm2.block b (Nat.lt_of_lt_of_le (ltB H0.out.2.2) (by simp)) (fun q=>q)).trans (allocB H0.out.2.2 _)
 have hk2:w2.heap[w.heap.size]?=some (.cells (nmCells k).toArray 171 (0,0)):=(hm2.block _ (Nat.lt_of_lt_of_le (ltB H0.out.2.1) (by simp)) (fun q=>q)).trans (allocB H0.out.2.1 _)
 have hz2:w2.heap[w.heap.size+1]?=some (.cells #[.int .i64 (hiW z),.int .u64 (loW z)] 48 (0,0)):=(hm2.block _ (Nat.lt_of_lt_of_le (ltB HZ0.out) (by simp)) (fun q=>q)).trans (allocB HZ0.out _)
 refine hK.out _ _ ⟨hk2,hz2⟩ (fun hH3=>?_)
 clear hK K
 have hsum:[getW l k,z].sum=getW l k+z:=by simp
 rw [hsum]
 have hmu:=run_mapUpdateN Tryz.underlying168 hb2 k (wideV (getW l k+z))
 rw [← wv_up] at hmu
 have hm2':Mod N0 w w2:=(H0.out.1.drew.alloc _).tr hm2
 have H2:=hh (And.intro hb2 (And.intro hm2' (And.intro hk2 hz2)))
 clear hm2 hb2 hk2 hz2 hm2' hsum
 unfold nmV at hmu
 refine tr (rs:=[8]) ?_
 refine AllReadyH.cons (o:=⟨none,.mapUpdate 168 (.tmp 6) (.tmp 7) (.tmp 13),0, "value.go:180",#[⟨0,.data⟩,⟨1,.data⟩,⟨7,.data⟩,⟨7,.chain⟩,⟨0,.phase⟩,⟨1,.phase⟩,⟨2,.phase⟩,⟨3,.phase⟩,⟨4,.phase⟩,⟨5,.phase⟩,⟨6,.phase⟩,⟨7,.phase⟩],none⟩) rfl (fun K hK=>?_) AllReadyH.nil
 go_simp
 refine hK.out _ _ ⟨(heap_layObj_other (by omega) _).trans H2.out.2.2.1,(heap_layObj_other (by omega) _).trans H2.out.2.2.2⟩ (fun _=>?_)
 refine wpAnyH_done (by kernel_rfl) ?_ _
 go_returns
 exact ⟨rfl,heap_layObj_same (ltB H2.out.1) _,Mod_layObj (S:=fun j=>j=b) H2.out.2.1.any (fun _=>rfl) _⟩
end Go.Proofs.YtckcamlicgdklaaGreat
namespace Go.Proofs.YtckcamlicgdklaaGreat
open Go.RowKit Go.Mo
theorem foldl_set (off:Nat):∀ (xs:List Value) (k:Nat) (cells:Array Value) (i:Nat),off+k+xs.length<=cells.size ->
  ((xs.zipIdx k).foldl (fun cs p=>cs.setIfInBounds (off+p.2) p.1) cells)[i]?=if off+k<=i/\i<off+k+xs.length then xs[i - (off+k)]? else cells[i]?
|[],k,cells,i,_=>by simp; omega
|x :: xs,k,cells,i,h=>by
  simp only [List.length_cons] at h
  rw [List.zipIdx_cons,List.foldl_cons,foldl_set off xs (k+1) _ i (by simp; omega)]
  by_cases h1:i=off+k
  ·subst h1
   rw [if_neg (by omega),if_pos (by simp)]
   simp [Array.getElem?_setIfInBounds]; omega
  ·by_cases h2:off+k<=i/\i<off+k+(xs.length+1)
   ·rw [if_pos (by omega),if_pos (by simpa using h2)]
    rw [show i - (off+k)=(i - (off+(k+1)))+1 by omega,List.getElem?_cons_succ]
   ·rw [if_neg (by omega),if_neg (by simpa using h2),Array.getElem?_setIfInBounds,if_neg (by omega)]
theorem wpList_exec {ops:Array Oper} {rest:List Oper} {o:Oper} {a:Act} {w:World} {Q:Exit->Act->World->Prop} (hgd:o.guard=none) {v:Value} (hv:(execOp a.eval o).run Tryz.prog w=.ok (.value v) w) (h:wpList Tryz.prog ops Q rest (a.put o.dst v) w):wpList Tryz.prog ops Q (o :: rest) a w:=by
 refine wpList_plain hgd fun K hK=>?_
 unfold Oper.wp
 rw [hv]
 exact hK _ _ h
theorem wpList_execS {ops:Array Oper} {rest:List Oper} {o:Oper} {a:Act} {w w':World} {Q:Exit->Act->World->Prop} (hgd:o.guard=none) (hv:(execOp a.eval o).run Tryz.prog w=.ok .skip w') (h:wpList Tryz.prog ops Q rest (a.put o.dst undef) w'):wpList Tryz.prog ops Q (o :: rest) a w:=by
 refine wpList_plain hgd fun K hK=>?_
 unfold Oper.wp
 rw [hv]
 exact hK _ _ h
def zero93:Array Value:=(List.replicate 32 (Value.int .u8 0) ++ [Value.string ⟨#[]⟩]).toArray
theorem built_eq (parts:List (Nat×Value)):Tryz.prog.built 171 parts=Instr.fill (#[(0,32),(32,1)][·]?) zero93 parts:=by kernel_rfl
theorem built93 (a:Nm):Tryz.prog.built 171 [(0,.agg (a.policy.map by8).toArray),(1,.string ⟨a.name.toArray⟩)]=some (nmCells a).toArray:=by
 have hl:=a.len
 have hz:zero93.size=33:=by simp [zero93]
 rw [built_eq]
 have e0:(#[(0,32),(32,1)]:Array (Nat×Nat))[0]?=some (0,32):=rfl
 have e1:(#[(0,32),(32,1)]:Array (Nat×Nat))[1]?=some (32,1):=rfl
 have hc0:(Value.agg (a.policy.map by8).toArray).cells=(a.policy.map by8).toArray:=rfl
 have hc1:(Value.string ⟨a.name.toArray⟩).cells=#[.string ⟨a.name.toArray⟩]:=rfl
 simp only [Instr.fill,e0,e1,hc0,hc1]
 have hs0:(a.policy.map by8).toArray.size=32:=by simp [hl]
 rw [if_neg (by simp [hl,hz])]
 have hf:((a.policy.map by8).toArray.zipIdx.foldl (fun cs x=>cs.setIfInBounds (0+x.2) x.1) zero93)=((a.policy.map by8).zipIdx 0).foldl (fun cs p=>cs.setIfInBounds (0+p.2) p.1) zero93:=by
  simp [Array.foldl]
 rw [hf]
 have hget:=foldl_set 0 (a.policy.map by8) 0 zero93
 have hsz:(((a.policy.map by8).zipIdx 0).foldl (fun cs p=>cs.setIfInBounds (0+p.2) p.1) zero93).size=33:=by
  rw [← hz]
  generalize (a.policy.map by8).zipIdx 0=l
  generalize zero93=z
  induction l generalizing z with
 |nil=>rfl
 |cons x l ih=>rw [List.foldl_cons,ih]; simp
 rw [if_neg (by rw [hsz]; simp)]
 generalize hM:((a.policy.map by8).zipIdx 0).foldl (fun cs p=>cs.setIfInBounds (0+p.2) p.1) zero93=M at hget hsz ⊢
 congr 1
 have hl2:(Array.foldl (fun cs (x:Value×Nat)=>cs.setIfInBounds (32+x.2) x.1) M #[Value.string ⟨a.name.toArray⟩].zipIdx)=M.setIfInBounds 32 (.string ⟨a.name.toArray⟩):=rfl
 rw [hl2]
 apply Array.ext_getElem?
 intro i
 rw [Array.getElem?_setIfInBounds,hsz]
 have hg:=hget i (by simp [hl,hz])
 skip
 simp only [Nat.zero_add,Nat.zero_le,true_and,List.length_map,hl,Nat.add_zero,Nat.sub_zero] at hg
 by_cases h1:32=i
 ·subst h1
  simp [nmCells,hl]
 ·rw [if_neg h1,hg]
  by_cases h2:i<32
  ·rw [if_pos h2]
   simp only [nmCells,List.getElem?_toArray]
   rw [List.getElem?_append_left (by simp [hl,h2])]
  ·rw [if_neg h2]
   rw [Array.getElem?_eq_none (by omega)]
   simp only [nmCells,List.getElem?_toArray]
   rw [List.getElem?_eq_none (by simp [hl]; omega)]
end Go.Proofs.YtckcamlicgdklaaGreat
namespace Go.Proofs.YtckcamlicgdklaaGreat
open Go.RowKit Go.Mo
def asCells (a:Nm) (z:Int):List Value:=nmCells a ++ [.int .i64 z]
theorem size27:(Tryz.prog.info? 27).map (·.size)=some 32:=by kernel_rfl
theorem exec_build93 (act:Act) (o:Oper) {w:World} {x y:Operand} (ho:o.op=.build 171 #[(0,x),(1,y)]) (a:Nm) (hx:act.eval x=.agg (a.policy.map by8).toArray) (hy:act.eval y=.string ⟨a.name.toArray⟩):(execOp act.eval o).run Tryz.prog w=.ok (.value (nmV a)) w:=by
 have hb:=run_build (P:=Tryz.prog) w 171 #[(0,.agg (a.policy.map by8).toArray),(1,.string ⟨a.name.toArray⟩)] _ (built93 a)
 unfold execOp
 simp only [ho,List.map_toArray,List.map_cons,List.map_nil,hx,hy,Sem.run_bind,Sem.run_pure,hb,Result.andThen_ok]
 rfl
theorem exec_store (act:Act) (o:Oper) {w w':World} {T:TypeId} {x y:Operand} (ho:o.op=.store T x y) {g:Nat} (hx:act.eval x=.pointer (some ⟨g,0,none⟩)) {v:Value} (hy:act.eval y=v) (h:(storeVar T ⟨g,0,none⟩ v).run Tryz.prog w=.ok () w'):(execOp act.eval o).run Tryz.prog w=.ok .skip w':=by
 unfold execOp
 simp only [ho,hx,hy,Instr.storeAt,Instr.sureAddr,Sem.run_bind,Sem.run_pure,h,Result.andThen_ok]
theorem res28 {tmps:Array Value} {b:Nat} {W:World} {v:Value} (ht:tmps[2]?.getD undef=.pointer (some ⟨b,0,none⟩)) (hl:(loadVar 171 ⟨b,0,none⟩).run Tryz.prog W=.ok v W):(results Tryz.f113 tmps).run Tryz.prog W=.ok v W:=by
 simp [results,Tryz.results113,ht,hl,asAddr]
theorem setRow_same {w:World} {g:Nat} {old cs:Array Value} {T:TypeId} (h:w.heap[g]?=some (.cells old T (0,0))):(w.setRow g cs).heap[g]?=some (.cells cs T (0,0)):=by
 simp [World.setRow,Array.getElem?_modify,h]
theorem Mod_setRow {S:Nat->Prop} {a w:World} (h:Mod S a w) {b:Nat} (hb:b<a.heap.size->S b) (cs:Array Value):Mod S a (w.setRow b cs):=
 h.trans (S':=fun k=>k=b) ⟨rfl,rfl,rfl,by simp [World.setRow],fun k _ hn=>by simp only [World.setRow,Array.getElem?_modify]; rw [if_neg (fun e=>hn e.symm)]⟩ (fun _ q l=>by subst q; exact hb l)
set_option maxRecDepth 100000 in
set_option maxHeartbeats 2000000 in
theorem of_calls (a:Nm) (z:Int) (w:World):Calls Tryz.prog 113 #[.agg (asCells a z).toArray] w fun e w'=>e=.returned (nmV a)/\Mod N0 w w':=by
 obtain ⟨w0,hw0⟩:∃ w0,(w.alloc (.cells (asCells a z).toArray 76)).alloc (.cells zero93 171)=w0:=⟨_,rfl⟩
 have hm0:Mod N0 w w0:=by rw [← hw0]; exact ((Mod.refl _ w).alloc _).alloc _
 have hA:w0.heap[w.heap.size]?=some (.cells (asCells a z).toArray 76 (0,0)):=by rw [← hw0]; exact allocB (newB w _) _
 have hZ:w0.heap[w.heap.size+1]?=some (.cells zero93 171 (0,0)):=by
  rw [← hw0]; have:=newB (w.alloc (.cells (asCells a z).toArray 76)) (.cells zero93 171); rwa [World.size_alloc] at this
 have hl27:(loadVar 27 ⟨w.heap.size,0,none⟩).run Tryz.prog w0=.ok (.agg (a.policy.map by8).toArray) w0:=
  run_loadVar_mid w0 w.heap.size 0 27 (a.policy.map by8) _ (fun j v hv=>by
   rw [Nat.zero_add,cellB hA]
   have hj:j<(a.policy.map by8).length:=(List.getElem?_eq_some_iff.1 hv).1
   simp only [asCells,nmCells,List.getElem?_toArray,List.append_assoc]
   rw [List.getElem?_append_left hj]; exact hv) Tryz.underlying27 rfl (by rw [size27]; simp [a.len])
 have hs32:w0.cell? ⟨w.heap.size,32,none⟩=some (.string ⟨a.name.toArray⟩):=by
  rw [cellB hA]
  have:=a.len
  simp [asCells,nmCells,this]
 have H:=hh (And.intro hm0 (And.intro hA hZ))
 have HL:=hh hl27
 rw [show zero93=#[.int .u8 0,.int .u8 0,.int .u8 0,.int .u8 0,.int .u8 0,.int .u8 0,.int .u8 0,.int .u8 0,.int .u8 0,.int .u8 0,.int .u8 0,.int .u8 0,.int .u8 0,.int .u8 0,.int .u8 0,.int .u8 0,.int .u8 0,.int .u8 0,.int .u8 0,.int .u8 0,.int .u8 0,.int .u8 0,.int .u8 0,.int .u8 0,.int .u8 0,.int .u8 0,.int .u8 0,.int .u8 0,.int .u8 0,.int .u8 0,.int .u8 0,.int .u8 0,.string ⟨#[]⟩] from rfl] at hw0
 have hst:(storeVar 171 ⟨w.heap.size+1,0,none⟩ (.agg (nmCells a).toArray)).run Tryz.prog w0=.ok () (w0.setRow (w.heap.size+1) (nmCells a).toArray):=
  run_storeVar_row (P:=Tryz.prog) w0 (w.heap.size+1) 171 171 zero93 (nmCells a).toArray hZ (nm_size a) (by simp [zero93,nmCells,a.len]) (by simp [nmCells,by8,Value.oneCell'])
 have HST:=hh hst
 clear hm0 hA hZ hl27 hst
 go_enter Tryz.func113,Tryz.ntmps113
 go_wp2_with (first
 |(refine wpList_exec rfl (exec_load_row _ _ 27 _ rfl w.heap.size rfl _ HL.out) ?_)
 |(refine wpList_exec rfl (exec_build93 _ _ rfl a rfl rfl) ?_)
 |(refine wpList_execS rfl (exec_store _ _ rfl rfl rfl HST.out) ?_))
 exact bodyPost_ret (v:=nmV a) (res28 rfl (load93 (setRow_same H.out.2.2))) rfl ⟨rfl,Mod_setRow H.out.1 (fun q=>by omega) _⟩
end Go.Proofs.YtckcamlicgdklaaGreat
