/- The order of names: bytes.Compare, cmp.Or, name.order, the function handed to slices.SortFunc. The function that book.totals hands to slices.SortFunc. Totals as rows: built of their parts. Plain laws of the order of names. book.totals: plain parts of its walk. -/
import Derived.Test.YtckcamlicgdklaaGreatN03
import Derived.Test.YtckcamlicgdklaaGreatN06
import Derived.Lib.BytesEntry
import Derived.Sort.Grow
import Derived.Laws.StructEq
import Derived.Test.YtckcamlicgdklaaGreatN02
import Derived.Sort.Statements
import Derived.Shelf.SlSortCmp.Insertion
import Derived.Great.BuildSlice
namespace Go.Proofs.YtckcamlicgdklaaGreat
open Go.RowKit Go.Mo Go.Sort
/-- w' is w with draws and new blocks behind it. -/
def Gr (w w':World):Prop:=∃ q os,w'=grow (w.drewN q) os
theorem Gr.refl (w:World):Gr w w:=⟨0,#[],by simp; rfl⟩
theorem Gr.drew {a w:World} (h:Gr a w):Gr a w.drew:=by
 obtain ⟨q,os,rfl⟩:=h
 exact ⟨q+1,os,rfl⟩
theorem Gr.drewN {a w:World} (h:Gr a w) (n:Nat):Gr a (w.drewN n):=by
 obtain ⟨q,os,rfl⟩:=h
 exact ⟨q+n,os,by simp [grow,World.drewN,Nat.add_assoc]⟩
theorem Gr.alloc {a w:World} (h:Gr a w) (o:Obj):Gr a (w.alloc o):=by
 obtain ⟨q,os,rfl⟩:=h
 exact ⟨q,_,by rw [alloc_eq_grow,grow_grow]⟩
theorem Gr.trans {a w w':World} (h:Gr a w) (k:Gr w w'):Gr a w':=by
 obtain ⟨q,os,rfl⟩:=h
 obtain ⟨q',os',rfl⟩:=k
 refine ⟨q+q',os ++ os',?_⟩
 rw [← grow_grow]
 simp [grow,World.drewN,Nat.add_assoc]
theorem Gr.mod {w w':World} (h:Gr w w'):Mod N0 w w':=by
 obtain ⟨q,os,rfl⟩:=h
 exact ⟨rfl,rfl,rfl,by simp [grow,World.drewN],fun k hk _=>by simp [grow,World.drewN,Array.getElem?_append,hk]⟩
theorem run_loadB (w:World) (l:Bs) (b o n:Nat) (acc:ByteArray) (hn:l.length=n) (h:∀ j x,l[j]?=some x->w.cell? ⟨b,o+j,none⟩=some (.int .u8 x.toNat)) :
  (Extern.Bytes.loadBytes ⟨b,o,none⟩ n acc).run Tryz.prog w=.ok ⟨acc.data ++ l.toArray⟩ w:=by
 have hb:∀ l:Bs,Lib.bytesOf (l.map fun x=>((x.toNat:Nat):Int))=l:=fun l=>by
  induction l with
 |nil=>rfl
 |cons x l ih=>simp [Lib.bytesOf] at ih ⊢; exact ih
 have:=Lib.run_loadBytesX (P:=Tryz.prog) w (l.map fun x=>((x.toNat:Nat):Int)) ⟨b,o,none⟩ acc (fun j x hj=>by
  have e:(⟨b,o,none⟩:Addr).add j=⟨b,o+j,none⟩:=by unfold Addr.add; split <;> simp_all
  rw [e]
  rw [List.getElem?_map] at hj
  cases hl:l[j]? with
 |none=>rw [hl] at hj; cases hj
 |some y=>rw [hl] at hj; cases hj; exact h j y hl)
 rw [List.length_map,hn,hb] at this
 exact this
theorem bcmp_call (w:World) (b1 o1 c1 b2 o2 c2 n m:Nat) (p q:Bs) (hn:p.length=n) (hm:q.length=m)
  (hp:∀ j x,p[j]?=some x->w.cell? ⟨b1,o1+j,none⟩=some (.int .u8 x.toNat)) (hq:∀ j x,q[j]?=some x->w.cell? ⟨b2,o2+j,none⟩=some (.int .u8 x.toNat)) :
  (callFunc 189 #[.slice (some ⟨b1,o1,none⟩) n c1,.slice (some ⟨b2,o2,none⟩) m c2]).run Tryz.prog w=.ok (.value (.int .i64 (Lib.compareBytes p q))) w:=by
 rw [run_callFunc_extern (fn:=Tryz.f189) (e:=Extern.BytealgCompare.compare) (by kernel_rfl) (by kernel_rfl) (by kernel_rfl) (by kernel_rfl) (by kernel_rfl)]
 have e:(Extern.BytealgCompare.compare #[.slice (some ⟨b1,o1,none⟩) n c1,.slice (some ⟨b2,o2,none⟩) m c2]).run Tryz.prog w=.ok (.int .i64 (Lib.compareBytes p q)) w:=by
  change Sem.run Tryz.prog (do pure (goInt (Extern.BytealgCompare.cmp (← Extern.Bytes.loadBytes ⟨b1,o1,none⟩ n .empty) (← Extern.Bytes.loadBytes ⟨b2,o2,none⟩ m .empty)))) w=_
  simp only [Sem.run_bind,run_loadB w p b1 o1 n .empty hn hp,run_loadB w q b2 o2 m .empty hm hq,Result.andThen,Sem.run_pure]
  rw [Lib.cmp_eq]
  have z:∀ l:Bs,((⟨ByteArray.empty.data ++ l.toArray⟩:ByteArray).data).toList=l:=fun l=>by simp [ByteArray.empty,ByteArray.emptyWithCapacity] <;> rfl
  rw [z,z]
  rfl
 rw [e]
 rfl
theorem bcmp_calls (w:World) (b1 o1 c1 b2 o2 c2 n m:Nat) (p q:Bs) (hn:p.length=n) (hm:q.length=m)
  (hp:∀ j x,p[j]?=some x->w.cell? ⟨b1,o1+j,none⟩=some (.int .u8 x.toNat)) (hq:∀ j x,q[j]?=some x->w.cell? ⟨b2,o2+j,none⟩=some (.int .u8 x.toNat)) :
  Calls Tryz.prog 170 #[.slice (some ⟨b1,o1,none⟩) n c1,.slice (some ⟨b2,o2,none⟩) m c2] w fun e w'=>e=.returned (.int .i64 (Lib.compareBytes p q))/\w=w':=by
 have hc:=bcmp_call w b1 o1 c1 b2 o2 c2 n m p q hn hm hp hq
 clear hp hq
 go_enter Tryz.func170,Tryz.ntmps170
 go_wp2_with fail
 go_ret
 exact ⟨rfl,rfl⟩
def orI (x y:Int):Int:=if x=0 then y else x
theorem or_calls (w:World) (b:Nat) (x y:Int) (T:TypeId) (h:w.heap[b]?=some (.cells #[.int .i64 x,.int .i64 y] T (0,0))) :
  Calls Tryz.prog 169 #[.slice (some ⟨b,0,none⟩) 2 2] w fun e w'=>e=.returned (.int .i64 (orI x y))/\w=w':=by
 have c0:w.cell? ⟨b,0,none⟩=some (.int .i64 x):=(cellB h 0).trans rfl
 have c1:w.cell? ⟨b,1,none⟩=some (.int .i64 y):=(cellB h 1).trans rfl
 clear h
 go_enter Tryz.func169,Tryz.ntmps169
 go_wp2_with fail
 go_loopw [8] (fun i wr=>wr=w/\(i=.int .i64 0∨i=.int .i64 1/\x=0∨i=.int .i64 2/\x=0/\y=0)) (fun i _=>2 - (intOf i).toNat)
 case atStart=>exact ⟨rfl,.inl rfl⟩
 case round=>
  obtain ⟨rfl,rfl|⟨rfl,hx⟩|⟨rfl,hx,hy⟩⟩:=hrel
  ·by_cases hx:x=0
   ·have k0:(x != 0)=false:=by simp [hx]
    go_wp2_with fail
    go_roundw
    case rel=>exact ⟨trivial,.inr (.inl ⟨rfl,hx⟩)⟩
    case measure=>simp [intOf]
   ·have k0:(x != 0)=true:=by simp [hx]
    go_wp2_with fail
    go_ret
    exact ⟨by simp [orI,hx],rfl⟩
  ·by_cases hy:y=0
   ·have k0:(y != 0)=false:=by simp [hy]
    go_wp2_with fail
    go_roundw
    case rel=>exact ⟨trivial,.inr (.inr ⟨rfl,hx,hy⟩)⟩
    case measure=>simp [intOf]
   ·have k0:(y != 0)=true:=by simp [hy]
    go_wp2_with fail
    go_ret
    exact ⟨by simp [orI,hx],rfl⟩
  ·go_wp2_with fail
   go_ret
   exact ⟨by simp [orI,hx,hy],rfl⟩
/-- The order of names: -1, 0, 1. -/
def ordN (a b:Nm):Int:=orI (Lib.compareBytes a.policy b.policy) (Lib.compareBytes a.name b.name)
theorem cellN {w:World} {g:Nat} {k:Nm} (h:w.heap[g]?=some (.cells (nmCells k).toArray 171 (0,0))):w.cell? ⟨g,32,none⟩=some (.string ⟨k.name.toArray⟩):=by
 rw [cellB h]
 simp [nmCells,k.len]
theorem cellP {w:World} {g:Nat} {k:Nm} (h:w.heap[g]?=some (.cells (nmCells k).toArray 171 (0,0))) (j:Nat) (x:UInt8) (hj:k.policy[j]?=some x):w.cell? ⟨g,0+j,none⟩=some (.int .u8 x.toNat):=by
 rw [Nat.zero_add,cellB h]
 have:j<k.policy.length:=(List.getElem?_eq_some_iff.1 hj).1
 simp only [nmCells,List.getElem?_toArray]
 rw [List.getElem?_append_left (by simpa using this),List.getElem?_map,hj]
 rfl
set_option maxHeartbeats 1000000 in
theorem order_calls (a b:Nm) (w:World):Calls Tryz.prog 118 #[nmV a,nmV b] w fun e w'=>e=.returned (.int .i64 (ordN a b))/\Gr w w':=by
 obtain ⟨w0,hw0⟩:∃ w0,(w.alloc (.cells (nmCells a).toArray 171)).alloc (.cells (nmCells b).toArray 171)=w0:=⟨_,rfl⟩
 have hg0:Gr w w0:=by rw [← hw0]; exact ((Gr.refl w).alloc _).alloc _
 have ha0:w0.heap[w.heap.size]?=some (.cells (nmCells a).toArray 171 (0,0)):=by rw [← hw0]; exact allocB (newB w _) _
 have hb0:w0.heap[w.heap.size+1]?=some (.cells (nmCells b).toArray 171 (0,0)):=by
  rw [← hw0]; have:=newB (w.alloc (.cells (nmCells a).toArray 171)) (.cells (nmCells b).toArray 171); rwa [World.size_alloc] at this
 have HC:=hh (bcmp_calls w0.drew w.heap.size 0 32 (w.heap.size+1) 0 32 32 32 a.policy b.policy a.len b.len (cellP ha0) (cellP hb0))
 have HS:=hh (Tryz.strings_Compare ⟨a.name.toArray⟩ ⟨b.name.toArray⟩ w0.drew)
 have HO:=hh (fun x y=>or_calls (w0.drew.alloc (.cells #[.int .i64 x,.int .i64 y] 3)) w0.heap.size x y 3 (newB w0.drew _))
 have H:=hh (And.intro hg0 (And.intro ha0 hb0))
 clear hg0 ha0 hb0
 unfold nmV
 go_enter Tryz.func118,Tryz.ntmps118
 go_wp2_with fail
 refine wp_region_held_drew (S:=(fun W=>W.heap[w.heap.size]?=some (.cells (nmCells a).toArray 171 (0,0))/\W.heap[w.heap.size+1]?=some (.cells (nmCells b).toArray 171 (0,0)))) (by kernel_rfl) H.out.2 (fun hH=>?_)
 refine tk (i:=0) (oi:=⟨some 5,.fieldAddr 171 (.tmp 2) 0,0, "value.go:23",#[],none⟩) (v:=.pointer (some ⟨w.heap.size,0,none⟩)) hH ?_ ?_
 ·intro w' hSw
  obtain ⟨s0,s1⟩:=hSw
  go_simp
  try with_reducible rfl
 refine tk (i:=1) (oi:=⟨some 6,.slice 27 (.tmp 5) none none none,245, "value.go:23",#[⟨0,.data⟩],none⟩) (v:=.slice (some ⟨w.heap.size,0,none⟩) 32 32) hH ?_ ?_
 ·intro w' hSw
  obtain ⟨s0,s1⟩:=hSw
  go_simp
  try with_reducible rfl
 refine tk (i:=2) (oi:=⟨some 7,.fieldAddr 171 (.tmp 3) 0,0, "value.go:23",#[],none⟩) (v:=.pointer (some ⟨w.heap.size+1,0,none⟩)) hH ?_ ?_
 ·intro w' hSw
  obtain ⟨s0,s1⟩:=hSw
  go_simp
  try with_reducible rfl
 refine tk (i:=3) (oi:=⟨some 8,.slice 27 (.tmp 7) none none none,245, "value.go:23",#[⟨2,.data⟩],none⟩) (v:=.slice (some ⟨w.heap.size+1,0,none⟩) 32 32) hH ?_ ?_
 ·intro w' hSw
  obtain ⟨s0,s1⟩:=hSw
  go_simp
  try with_reducible rfl
 refine tk (i:=5) (oi:=⟨some 10,.fieldAddr 171 (.tmp 2) 1,0, "value.go:23",#[],none⟩) (v:=.pointer (some ⟨w.heap.size,32,none⟩)) hH ?_ ?_
 ·intro w' hSw
  obtain ⟨s0,s1⟩:=hSw
  go_simp
  try with_reducible rfl
 refine tk (i:=6) (oi:=⟨some 11,.load 9 (.tmp 10),9, "value.go:23",#[⟨5,.data⟩],none⟩) (v:=.string ⟨a.name.toArray⟩) hH ?_ ?_
 ·intro w' hSw
  have s0:=hSw.1
  have s32:=cellN s0
  go_simp
  try with_reducible rfl
 refine tk (i:=7) (oi:=⟨some 12,.fieldAddr 171 (.tmp 3) 1,0, "value.go:23",#[],none⟩) (v:=.pointer (some ⟨w.heap.size+1,32,none⟩)) hH ?_ ?_
 ·intro w' hSw
  obtain ⟨s0,s1⟩:=hSw
  go_simp
  try with_reducible rfl
 refine tk (i:=8) (oi:=⟨some 13,.load 9 (.tmp 12),9, "value.go:23",#[⟨7,.data⟩],none⟩) (v:=.string ⟨b.name.toArray⟩) hH ?_ ?_
 ·intro w' hSw
  have s1:=hSw.2
  have s32:=cellN s1
  go_simp
  try with_reducible rfl
 refine tr (rs:=[4]) ?_
 refine AllReadyH.cons (o:=⟨some 9,.call {callee:=.value (.func 170),args:=#[.tmp 6,.tmp 8],argTypes:=#[245,245]},3, "value.go:23",#[⟨1,.data⟩,⟨3,.data⟩],none⟩) rfl (fun K hK=>?_) AllReadyH.nil
 go_simp
 refine HC.out.mono ?_
 rintro e w' ⟨rfl,rfl⟩
 refine hK.out _ _ H.out.2 (fun hH=>?_)
 clear hK K
 (try simp only [Act.put,ja,jb,jc])
 refine tr (rs:=[9]) ?_
 refine AllReadyH.cons (o:=⟨some 14,.call {callee:=.value (.func 171),args:=#[.tmp 11,.tmp 13],argTypes:=#[9,9]},3, "value.go:23",#[⟨6,.data⟩,⟨8,.data⟩,⟨4,.chain⟩],none⟩) rfl (fun K hK=>?_) AllReadyH.nil
 go_simp
 refine HS.out.mono ?_
 rintro e w' ⟨rfl,rfl⟩
 refine hK.out _ _ H.out.2 (fun hH=>?_)
 clear hK K
 (try simp only [Act.put,ja,jb,jc])
 refine tr (rs:=[10]) ?_
 refine AllReadyH.cons (o:=⟨some 15,.buildSlice 242 2 #[(0,.tmp 9),(1,.tmp 14)],242, "value.go:23",#[⟨4,.data⟩,⟨9,.data⟩],none⟩) rfl (fun K hK=>?_) AllReadyH.nil
 go_simp
 refine hK.out _ _ ⟨allocB H.out.2.1 _,allocB H.out.2.2 _⟩ (fun hH=>?_)
 clear hK K
 (try simp only [Act.put,ja,jb,jc])
 refine tr (rs:=[11]) ?_
 refine AllReadyH.cons (o:=⟨some 16,.call {callee:=.value (.func 169),args:=#[.tmp 15],argTypes:=#[242]},3, "value.go:23",#[⟨10,.data⟩,⟨9,.chain⟩],none⟩) rfl (fun K hK=>?_) AllReadyH.nil
 go_simp
 refine (HO.out _ _).mono ?_
 rintro e w' ⟨rfl,rfl⟩
 refine hK.out _ _ ⟨allocB H.out.2.1 _,allocB H.out.2.2 _⟩ (fun hH=>?_)
 clear hK K
 (try simp only [Act.put,ja,jb,jc])
 refine tk (i:=12) (oi:=⟨some 4,.assign (.tmp 16),3, "value.go:23",#[⟨11,.data⟩,⟨11,.chain⟩,⟨0,.phase⟩,⟨1,.phase⟩,⟨2,.phase⟩,⟨3,.phase⟩,⟨4,.phase⟩,⟨5,.phase⟩,⟨6,.phase⟩,⟨7,.phase⟩,⟨8,.phase⟩,⟨9,.phase⟩,⟨10,.phase⟩,⟨11,.phase⟩],none⟩) (v:=.int .i64 (orI (Lib.compareBytes a.policy b.policy) (Lib.compareBytes a.name b.name))) hH ?_ ?_
 ·intro w' hSw
  obtain ⟨s0,s1⟩:=hSw
  go_simp
  try with_reducible rfl
 refine wpAnyH_done (by kernel_rfl) ?_ _
 go_wp2_with fail
 go_ret
 exact ⟨rfl,(H.out.1.drew).alloc _⟩
end Go.Proofs.YtckcamlicgdklaaGreat
namespace Go.Proofs.YtckcamlicgdklaaGreat
open Go.RowKit Go.Mo Go.Sort
/-- A total: a name, a wide number. -/
def totCells (x:Nm×Int):List Value:=nmCells x.1 ++ [.int .i64 (hiW x.2),.int .u64 (loW x.2)]
theorem tot_policy {w:World} {g:Nat} {x:Nm×Int} {T:TypeId} (h:w.heap[g]?=some (.cells (totCells x).toArray T (0,0))):(loadVar 27 ⟨g,0,none⟩).run Tryz.prog w=.ok (.agg (x.1.policy.map by8).toArray) w:=
 run_loadVar_mid w g 0 27 (x.1.policy.map by8) _ (fun j v hv=>by
   rw [Nat.zero_add,cellB h]
   have hj:j<(x.1.policy.map by8).length:=(List.getElem?_eq_some_iff.1 hv).1
   simp only [totCells,nmCells,List.getElem?_toArray,List.append_assoc]
   rw [List.getElem?_append_left hj]; exact hv) Tryz.underlying27 rfl (by rw [size27]; simp [x.1.len])
theorem tot_name {w:World} {g:Nat} {x:Nm×Int} {T:TypeId} (h:w.heap[g]?=some (.cells (totCells x).toArray T (0,0))):w.cell? ⟨g,32,none⟩=some (.string ⟨x.1.name.toArray⟩):=by
 rw [cellB h]
 have:=x.1.len
 simp [totCells,nmCells,this]
set_option maxRecDepth 100000 in
set_option maxHeartbeats 1000000 in
theorem less_calls (x y:Nm×Int) (w:World):Calls Tryz.prog 117 #[.agg (totCells x).toArray,.agg (totCells y).toArray] w fun e w'=>e=.returned (.int .i64 (ordN x.1 y.1))/\Gr w w':=by
 obtain ⟨w0,hw0⟩:∃ w0,(w.alloc (.cells (totCells x).toArray 78)).alloc (.cells (totCells y).toArray 78)=w0:=⟨_,rfl⟩
 have hg0:Gr w w0:=by rw [← hw0]; exact ((Gr.refl w).alloc _).alloc _
 have ha0:w0.heap[w.heap.size]?=some (.cells (totCells x).toArray 78 (0,0)):=by rw [← hw0]; exact allocB (newB w _) _
 have hb0:w0.heap[w.heap.size+1]?=some (.cells (totCells y).toArray 78 (0,0)):=by
  rw [← hw0]; have:=newB (w.alloc (.cells (totCells x).toArray 78)) (.cells (totCells y).toArray 78); rwa [World.size_alloc] at this
 have HP:=hh (And.intro (tot_policy ha0) (tot_policy hb0))
 have s0:=tot_name ha0
 have s1:=tot_name hb0
 have HO:=hh (order_calls x.1 y.1 w0)
 have H:=hh hg0
 clear hg0 ha0 hb0
 go_enter Tryz.func117,Tryz.ntmps117
 go_wp2_with (first
 |(refine wpList_exec rfl (exec_load_row _ _ 27 _ rfl w.heap.size rfl _ HP.out.1) ?_)
 |(refine wpList_exec rfl (exec_load_row _ _ 27 _ rfl (w.heap.size+1) rfl _ HP.out.2) ?_)
 |(refine wpList_exec rfl (exec_build93 _ _ rfl x.1 rfl rfl) ?_)
 |(refine wpList_exec rfl (exec_build93 _ _ rfl y.1 rfl rfl) ?_)
 |(go_at_call 118; refine HO.out.mono ?_; rintro e w' ⟨rfl,hg⟩))
 go_ret
 exact ⟨rfl,H.out.trans hg⟩
end Go.Proofs.YtckcamlicgdklaaGreat
namespace Go.Proofs.YtckcamlicgdklaaGreat
open Go.RowKit Go.Mo Go.Sort
def zero88:Array Value:=(List.replicate 32 (Value.int .u8 0) ++ [Value.string ⟨#[]⟩,.int .i64 0,.int .u64 0]).toArray
theorem built_eq88 (parts:List (Nat×Value)):Tryz.prog.built 78 parts=Instr.fill (#[(0,32),(32,1),(33,2)][·]?) zero88 parts:=by kernel_rfl
theorem built88 (x:Nm×Int):Tryz.prog.built 78 [(0,.agg (x.1.policy.map by8).toArray),(1,.string ⟨x.1.name.toArray⟩),(2,wideV x.2)]=some (totCells x).toArray:=by
 obtain ⟨a,z⟩:=x
 have hl:=a.len
 have hz:zero88.size=35:=by simp [zero88]
 rw [built_eq88]
 have e0:(#[(0,32),(32,1),(33,2)]:Array (Nat×Nat))[0]?=some (0,32):=rfl
 have e1:(#[(0,32),(32,1),(33,2)]:Array (Nat×Nat))[1]?=some (32,1):=rfl
 have e2:(#[(0,32),(32,1),(33,2)]:Array (Nat×Nat))[2]?=some (33,2):=rfl
 have hc0:(Value.agg (a.policy.map by8).toArray).cells=(a.policy.map by8).toArray:=rfl
 have hc1:(Value.string ⟨a.name.toArray⟩).cells=#[.string ⟨a.name.toArray⟩]:=rfl
 have hc2:(wideV z).cells=#[.int .i64 (hiW z),.int .u64 (loW z)]:=rfl
 simp only [Instr.fill,e0,e1,e2,hc0,hc1,hc2]
 have hs0:(a.policy.map by8).toArray.size=32:=by simp [hl]
 rw [if_neg (by simp [hl,hz])]
 have hf:((a.policy.map by8).toArray.zipIdx.foldl (fun cs x=>cs.setIfInBounds (0+x.2) x.1) zero88)=((a.policy.map by8).zipIdx 0).foldl (fun cs p=>cs.setIfInBounds (0+p.2) p.1) zero88:=by
  simp [Array.foldl]
 rw [hf]
 have hget:=foldl_set 0 (a.policy.map by8) 0 zero88
 have hsz:(((a.policy.map by8).zipIdx 0).foldl (fun cs p=>cs.setIfInBounds (0+p.2) p.1) zero88).size=35:=by
  rw [← hz]
  generalize (a.policy.map by8).zipIdx 0=l
  generalize zero88=z
  induction l generalizing z with
 |nil=>rfl
 |cons x l ih=>rw [List.foldl_cons,ih]; simp
 rw [if_neg (by rw [hsz]; simp)]
 generalize hM:((a.policy.map by8).zipIdx 0).foldl (fun cs p=>cs.setIfInBounds (0+p.2) p.1) zero88=M at hget hsz ⊢
 have hl2:(Array.foldl (fun cs (x:Value×Nat)=>cs.setIfInBounds (32+x.2) x.1) M #[Value.string ⟨a.name.toArray⟩].zipIdx)=M.setIfInBounds 32 (.string ⟨a.name.toArray⟩):=rfl
 rw [hl2]
 rw [if_neg (by simp [hsz])]
 have hl3:∀ M:Array Value,(Array.foldl (fun cs (x:Value×Nat)=>cs.setIfInBounds (33+x.2) x.1) M #[Value.int .i64 (hiW z),.int .u64 (loW z)].zipIdx)=(M.setIfInBounds 33 (.int .i64 (hiW z))).setIfInBounds 34 (.int .u64 (loW z)):=fun _=>rfl
 rw [hl3]
 congr 1
 apply Array.ext_getElem?
 intro i
 rw [Array.getElem?_setIfInBounds,Array.getElem?_setIfInBounds,Array.getElem?_setIfInBounds]
 simp only [Array.size_setIfInBounds,hsz]
 have hg:=hget i (by simp [hl,hz])
 simp only [Nat.zero_add,Nat.zero_le,true_and,List.length_map,hl,Nat.add_zero,Nat.sub_zero] at hg
 by_cases h34:34=i
 ·subst h34
  simp [totCells,nmCells,hl]
 by_cases h33:33=i
 ·subst h33
  simp [totCells,nmCells,hl]
 by_cases h1:32=i
 ·subst h1
  simp [totCells,nmCells,hl]
 ·rw [if_neg h34,if_neg h33,if_neg h1,hg]
  by_cases h2:i<32
  ·rw [if_pos h2]
   simp only [totCells,nmCells,List.getElem?_toArray,List.append_assoc]
   rw [List.getElem?_append_left (by simp [hl,h2])]
  ·rw [if_neg h2]
   rw [Array.getElem?_eq_none (by omega)]
   simp only [totCells,nmCells,List.getElem?_toArray]
   rw [List.getElem?_eq_none (by simp [hl]; omega)]
theorem exec_build88 (act:Act) (o:Oper) {w:World} {a b c:Operand} (ho:o.op=.build 78 #[(0,a),(1,b),(2,c)]) (x:Nm×Int) (hx:act.eval a=.agg (x.1.policy.map by8).toArray) (hy:act.eval b=.string ⟨x.1.name.toArray⟩) (hz:act.eval c=.agg #[.int .i64 (hiW x.2),.int .u64 (loW x.2)]):(execOp act.eval o).run Tryz.prog w=.ok (.value (.agg (totCells x).toArray)) w:=by
 have hb:=run_build (P:=Tryz.prog) w 78 #[(0,.agg (x.1.policy.map by8).toArray),(1,.string ⟨x.1.name.toArray⟩),(2,wideV x.2)] _ (built88 x)
 unfold wideV at hb
 unfold execOp
 simp only [ho,List.map_toArray,List.map_cons,List.map_nil,hx,hy,hz,Sem.run_bind,Sem.run_pure,hb,Result.andThen_ok]
/-- Is a wide number none? -/
def nzW (z:Int):Bool:=!(hiW z == 0 && loW z == 0)
theorem exec_neq57 (act:Act) (o:Oper) {w:World} {x y:Operand} {R:TypeId} (ho:o.op=.binOp .neq 48 x y R) (z:Int) (hx:act.eval x=.agg #[.int .i64 (hiW z),.int .u64 (loW z)]) (hy:act.eval y=.agg #[.int .i64 0,.int .u64 0]):(execOp act.eval o).run Tryz.prog w=.ok (.value (.bool (nzW z))) w:=by
 unfold execOp
 simp only [ho,hx,hy,Sem.run_bind,Sem.run_pure]
 go_simp
 unfold nzW
 by_cases h1:hiW z=0 <;> by_cases h2:loW z=0 <;> simp [h1,h2]
end Go.Proofs.YtckcamlicgdklaaGreat
namespace Go.Proofs.YtckcamlicgdklaaGreat
open Go.RowKit Go.Mo Go.Sort
theorem cb_swap:∀ p q:Bs,Lib.compareBytes q p=- Lib.compareBytes p q
|[],[]=>rfl
|[],_ :: _=>rfl
|_ :: _,[]=>rfl
|a :: p,b :: q=>by
  have ih:=cb_swap p q
  unfold Lib.compareBytes
  by_cases h1:a<b
  ·have h2:¬ b<a:=UInt8.lt_asymm h1
   simp [h1,h2]
  ·by_cases h2:b<a
   ·simp [h1,h2]
   ·simp [h1,h2,ih]
theorem cb_zero:∀ p q:Bs,Lib.compareBytes p q=0 ↔ p=q
|[],[]=>by simp [Lib.compareBytes]
|[],_ :: _=>by simp [Lib.compareBytes]
|_ :: _,[]=>by simp [Lib.compareBytes]
|a :: p,b :: q=>by
  have ih:=cb_zero p q
  unfold Lib.compareBytes
  by_cases h1:a<b
  ·have:a≠b:=UInt8.ne_of_lt h1
   simp [h1,this]
  ·by_cases h2:b<a
   ·have:b≠a:=UInt8.ne_of_lt h2
    simp [h1,h2,Ne.symm this]
   ·have e:a=b:=UInt8.le_antisymm (UInt8.not_lt.1 h2) (UInt8.not_lt.1 h1)
    subst e
    simp [h1,ih]
theorem cb_trans:∀ p q r:Bs,Lib.compareBytes p q<0->Lib.compareBytes q r<0->Lib.compareBytes p r<0
|[],[],r,h,_=>by simp [Lib.compareBytes] at h
|[],_ :: _,[],_,h=>by simp [Lib.compareBytes] at h
|[],_ :: _,_ :: _,_,_=>by simp [Lib.compareBytes]
|_ :: _,[],r,h,_=>by simp [Lib.compareBytes] at h
|_ :: _,_ :: _,[],_,h=>by simp [Lib.compareBytes] at h
|a :: p,b :: q,c :: r,h,k=>by
  have ih:=cb_trans p q r
  unfold Lib.compareBytes at h k ⊢
  by_cases h1:a<b
  ·by_cases k1:b<c
   ·simp [UInt8.lt_trans h1 k1]
   ·by_cases k2:c<b
    ·simp [k1,k2] at k
    ·have e:b=c:=UInt8.le_antisymm (UInt8.not_lt.1 k2) (UInt8.not_lt.1 k1)
     subst e
     simp [h1]
  ·by_cases h2:b<a
   ·simp [h1,h2] at h
   ·have e:a=b:=UInt8.le_antisymm (UInt8.not_lt.1 h2) (UInt8.not_lt.1 h1)
    subst e
    simp only [h1,if_false] at h
    by_cases k1:a<c
    ·simp [k1]
    ·by_cases k2:c<a
     ·simp [k1,k2] at k
     ·simp only [k1,k2,if_false] at k ⊢
      exact ih h k
theorem ordN_swap (a b:Nm):ordN b a=- ordN a b:=by
 unfold ordN orI
 have h1:=cb_swap a.policy b.policy
 have h2:=cb_swap a.name b.name
 rw [h1,h2]
 by_cases h:Lib.compareBytes a.policy b.policy=0
 ·rw [if_pos (by omega),if_pos h]
 ·rw [if_neg (by omega),if_neg h]
theorem ordN_zero (a b:Nm):ordN a b=0 ↔ a=b:=by
 unfold ordN orI
 have h1:=cb_zero a.policy b.policy
 have h2:=cb_zero a.name b.name
 constructor
 ·intro h
  by_cases k:Lib.compareBytes a.policy b.policy=0
  ·rw [if_pos k] at h
   obtain ⟨p,n,_,_⟩:=a
   obtain ⟨p',n',_,_⟩:=b
   have e1:=h1.1 k
   have e2:=h2.1 h
   simp only at e1 e2
   subst e1 e2
   rfl
  ·rw [if_neg k] at h
   exact absurd h k
 ·rintro rfl
  rw [if_pos (h1.2 rfl)]
  exact h2.2 rfl
theorem ordN_trans (a b c:Nm) (h:ordN a b<0) (k:ordN b c<0):ordN a c<0:=by
 unfold ordN orI at *
 by_cases h1:Lib.compareBytes a.policy b.policy=0
 ·rw [if_pos h1] at h
  have e:=(cb_zero _ _).1 h1
  by_cases k1:Lib.compareBytes b.policy c.policy=0
  ·rw [if_pos k1] at k
   rw [if_pos (by rw [e]; exact k1)]
   exact cb_trans _ _ _ h k
  ·rw [if_neg k1] at k
   rw [e,if_neg k1]; exact k
 ·rw [if_neg h1] at h
  by_cases k1:Lib.compareBytes b.policy c.policy=0
  ·have e:=(cb_zero _ _).1 k1
   rw [← e,if_neg h1]; exact h
  ·rw [if_neg k1] at k
   have:=cb_trans _ _ _ h k
   rw [if_neg (by omega)]; exact this
/-- Names in order: a is ahead of b. -/
def ltN (a b:Nm):Prop:=ordN a b<0
theorem ltN_irrefl (a:Nm):¬ ltN a a:=by
 have:=(ordN_zero a a).2 rfl
 unfold ltN; omega
theorem ltN_trans {a b c:Nm} (h:ltN a b) (k:ltN b c):ltN a c:=ordN_trans a b c h k
theorem ltN_total {a b:Nm} (h:¬ ltN a b) (k:a≠b):ltN b a:=by
 have h1:=ordN_swap a b
 have h2:=ordN_zero a b
 unfold ltN at *
 have:ordN a b≠0:=fun q=>k (h2.1 q)
 omega
abbrev cmpT (x y:Nm×Int):Int:=ordN x.1 y.1
theorem swoT:SWO (ltOf cmpT) where
 irrefl x:=by
  simp only [ltOf,decide_eq_false_iff_not]
  exact ltN_irrefl x.1
 trans x y z h k:=by
  simp only [ltOf,decide_eq_true_eq] at *
  exact ordN_trans _ _ _ h k
 ntrans x y z h k:=by
  simp only [ltOf,decide_eq_false_iff_not] at *
  intro q
  have q':ltN x.1 z.1:=q
  by_cases e:x.1=y.1
  ·rw [e] at q'; exact k q'
  ·have h':ltN y.1 x.1:=ltN_total h e
   exact k (ltN_trans h' q')
end Go.Proofs.YtckcamlicgdklaaGreat
namespace Go.Proofs.YtckcamlicgdklaaGreat
open Go.RowKit Go.Mo Go.Sort
theorem info88:(Tryz.prog.info? 78).map (fun i=>(i.zero,i.size,i.bytes))=some (some (.agg zero88),35,64):=by kernel_rfl
def shownN (w:World) (r:Nat):Nat:=match w.heap[r]? with|some (.mapIter _ _ seen _)=>seen.size|_=>0
theorem shown_iterN {w:World} {r b n:Nat} {seen:List Nat} (h:w.heap[r]?=some (iterN b n seen)):shownN w r=seen.length:=by simp [shownN,h,iterN]
theorem nodup_snoc {l:List Nat} {i:Nat} (h:l.Nodup) (hi:i ∉ l):(l ++ [i]).Nodup:=by
 rw [List.nodup_append]
 refine ⟨h,by simp,?_⟩
 intro a ha b hb
 simp at hb
 subst hb
 rintro rfl
 exact hi ha
theorem seen_le:∀ (n:Nat) (seen:List Nat),seen.Nodup->(∀ i∈seen,i<n)->seen.length<=n
|0,seen,_,h=>by
  cases seen with
 |nil=>simp
 |cons x r=>exact absurd (h x (by simp)) (by omega)
|n+1,seen,hnd,h=>by
  by_cases hm:n∈seen
  ·have h1:=seen_le n (seen.erase n) (hnd.erase n) (fun i hi=>by
    have:=hnd.mem_erase_iff.1 hi
    have h2:=h i this.2
    have h3:=this.1
    omega)
   rw [List.length_erase_of_mem hm] at h1
   omega
  ·have h1:=seen_le n seen hnd (fun i hi=>by
    have h2:=h i hi
    have h3:i≠n:=fun e=>hm (e ▸ hi)
    omega)
   omega
/-- What of a book was shown, and is not 0. -/
def sel (l:List (Nm×Int)) (seen:List Nat):List (Nm×Int):=(seen.filterMap (l[·]?)).filter (nzW ·.2)
theorem sel_snoc {l:List (Nm×Int)} {seen:List Nat} {i:Nat} {x:Nm×Int} (h:l[i]?=some x):sel l (seen ++ [i])=sel l seen ++ (if nzW x.2 then [x] else []):=by
 unfold sel
 rw [List.filterMap_append,List.filter_append]
 congr 1
 simp only [List.filterMap_cons,List.filterMap_nil,h]
 by_cases hz:nzW x.2=true <;> simp [hz]
theorem range_get (l:List (Nm×Int)):(List.range l.length).filterMap (l[·]?)=l:=by
 induction l with
|nil=>rfl
|cons x l ih=>
  rw [List.length_cons,List.range_succ_eq_map,List.filterMap_cons]
  simp only [List.getElem?_cons_zero,List.filterMap_map]
  congr 1
theorem sel_all {l:List (Nm×Int)} {seen:List Nat} (hnd:seen.Nodup) (hlt:∀ i∈seen,i<l.length) (hall:∀ i,i<l.length->i∈seen):(sel l seen).Perm (l.filter (nzW ·.2)):=by
 have hp:seen.Perm (List.range l.length):=(List.perm_ext_iff_of_nodup hnd List.nodup_range).2 fun i=>⟨fun h=>List.mem_range.2 (hlt i h),fun h=>hall i (List.mem_range.1 h)⟩
 have:=(hp.filterMap (l[·]?)).filter (nzW ·.2)
 rwa [range_get] at this
theorem sel_le (l:List (Nm×Int)) (seen:List Nat):(sel l seen).length<=seen.length:=
 Nat.le_trans (List.length_filter_le _ _) (List.length_filterMap_le _ _)
/-- The cells of totals. -/
def totsCells (ds:List (Nm×Int)):List Value:=ds.flatMap totCells
theorem totCells_length (x:Nm×Int):(totCells x).length=35:=by simp [totCells,nmCells,x.1.len]
theorem totsCells_length (ds:List (Nm×Int)):(totsCells ds).length=ds.length * 35:=by
 induction ds with
|nil=>rfl
|cons x ds ih=>simp only [totsCells,List.flatMap_cons,List.length_append,totCells_length,List.length_cons] at *; omega
theorem totCells_one (x:Nm×Int):∀ u∈totCells x,u.oneCell'=true:=by
 intro u hu
 simp only [totCells,nmCells,List.mem_append,List.mem_map,List.mem_cons,List.not_mem_nil,or_false] at hu
 rcases hu with (⟨y,_,rfl⟩|rfl)|(rfl|rfl) <;> rfl
theorem ownsRow_block {w w':World} {B s n:Nat} {e:TypeId} {v:Value} {xs:List Value} (h:w.ownsRow B e s v n xs) (hb:∀ k,v.ownBlock=some k->w'.heap[k]?=w.heap[k]?):w'.ownsRow B e s v n xs:=by
 obtain ⟨hl,⟨rfl,rfl⟩|⟨g,cap,cur,rfl,h1,h2,h3⟩⟩:=h
 ·exact ⟨hl,.inl ⟨rfl,rfl⟩⟩
 ·exact ⟨hl,.inr ⟨g,cap,cur,rfl,h1,(hb g rfl).trans h2,h3⟩⟩
theorem ownsRow_lt {w:World} {B s n:Nat} {e:TypeId} {v:Value} {xs:List Value} (h:w.ownsRow B e s v n xs) {k:Nat} (hk:v.ownBlock=some k):k<w.heap.size:=by
 obtain ⟨hl,⟨rfl,rfl⟩|⟨g,cap,cur,rfl,h1,h2,h3⟩⟩:=h
 ·cases hk
 ·cases hk; exact ltB h2
/-- v is a row of totals that was made behind the world w. -/
def OutAt (w wr:World) (v:Value) (ds:List (Nm×Int)):Prop:=wr.ownsRow 0 78 35 v ds.length (totsCells ds)/\∀ k,v.ownBlock=some k->w.heap.size<k
theorem OutAt.tr {w wr w':World} {v:Value} {ds:List (Nm×Int)} {S:Nat->Prop} (h:OutAt w wr v ds) (hm:Mod S wr w') (hS:∀ k,w.heap.size<k->¬ S k):OutAt w w' v ds:=
 ⟨ownsRow_block h.1 (fun k hk=>hm.block k (ownsRow_lt h.1 hk) (hS k (h.2 k hk))),h.2⟩
theorem wpList_execW {ops:Array Oper} {rest:List Oper} {o:Oper} {a:Act} {w w':World} {Q:Exit->Act->World->Prop} (hgd:o.guard=none) {v:Value} (hv:(execOp a.eval o).run Tryz.prog w=.ok (.value v) w') (h:wpList Tryz.prog ops Q rest (a.put o.dst v) w'):wpList Tryz.prog ops Q (o :: rest) a w:=by
 refine wpList_plain hgd fun K hK=>?_
 unfold Oper.wp
 rw [hv]
 exact hK _ _ h
theorem fill_whole (cs:List Value) (z:Array Value) (hz:z.size=cs.length) (sl:Nat->Option (Nat×Nat)) (h0:sl 0=some (0,cs.length)):Instr.fill sl z [(0,.agg cs.toArray)]=some cs.toArray:=by
 have hc0:(Value.agg cs.toArray).cells=cs.toArray:=rfl
 simp only [Instr.fill,h0,hc0]
 rw [if_neg (by simp [hz])]
 have hf:(cs.toArray.zipIdx.foldl (fun acc x=>acc.setIfInBounds (0+x.2) x.1) z)=(cs.zipIdx 0).foldl (fun acc p=>acc.setIfInBounds (0+p.2) p.1) z:=by
  simp [Array.foldl]
 rw [hf]
 congr 1
 apply Array.ext_getElem?
 intro i
 rw [foldl_set 0 cs 0 z i (by omega)]
 simp only [Nat.zero_add,Nat.add_zero,Nat.zero_le,true_and,Nat.sub_zero,List.getElem?_toArray]
 by_cases h:i<cs.length
 ·rw [if_pos h]
 ·rw [if_neg h,Array.getElem?_eq_none (by omega),List.getElem?_eq_none (by omega)]
theorem exec_slice1 (act:Act) (o:Oper) {w:World} {a:Operand} (ho:o.op=.buildSlice 33 1 #[(0,a)]) (x:Nm×Int) (ha:act.eval a=.agg (totCells x).toArray):(execOp act.eval o).run Tryz.prog w=.ok (.value (.slice (some ⟨w.heap.size,0,none⟩) 1 1)) (w.alloc (.cells (totCells x).toArray 78)):=by
 obtain ⟨i88,hi,hz0,hz1,hz2⟩:=info_parts info88
 unfold execOp
 simp only [ho,List.map_toArray,List.map_cons,List.map_nil,ha]
 simp only [Sem.run_bind,run_buildSlice (P:=Tryz.prog) w 33 78 1 #[(0,.agg (totCells x).toArray)] (totCells x).toArray i88 _ Tryz.underlying33 hi hz0 (by rw [hz1]; omega) (by rw [hz1]; omega) (by
  refine fill_whole (totCells x) _ ?_ _ ?_
  ·simp [hz1,totCells_length]
  ·simp [hz1,totCells_length]),Result.andThen_ok,Sem.run_pure]
end Go.Proofs.YtckcamlicgdklaaGreat
