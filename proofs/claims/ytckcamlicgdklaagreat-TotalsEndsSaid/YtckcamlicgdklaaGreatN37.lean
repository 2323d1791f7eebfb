/- Small laws for the walk of TotalsParts. The references of chapter 5: put, some. -/
import Derived.Test.YtckcamlicgdklaaGreatN33
import Derived.Test.YtckcamlicgdklaaGreatN20
import Derived.Test.YtckcamlicgdklaaGreatN36
import Derived.Test.YtckcamlicgdklaaGreatN25
namespace Go.Proofs.YtckcamlicgdklaaGreat
open Go.RowKit Go.Mo Go.Sort
theorem zv57 (w:World):(zeroValue 48).run Tryz.prog w=.ok (.agg #[.int .i64 0,.int .u64 0]) w:=by kernel_rfl
theorem WideAt.tr {w w':World} {v:Value} {zs:List Int} (h:WideAt w v zs) (hm:Mod N0 w w'):WideAt w' v zs:=by
 obtain ⟨a,c,rfl,h⟩:=h
 refine ⟨a,c,rfl,fun i z hz=>?_⟩
 obtain ⟨L,off,rfl,hL,h1,h2⟩:=h i z hz
 exact ⟨L,off,rfl,Nat.lt_of_lt_of_le hL hm.size,(hm.cell (p:=⟨L,_,none⟩) hL (fun q=>q)).trans h1,(hm.cell (p:=⟨L,_,none⟩) hL (fun q=>q)).trans h2⟩
theorem wides_two (w:World) (a b:Int):WideAt (w.alloc (.cells #[.int .i64 (hiW a),.int .u64 (loW a),.int .i64 (hiW b),.int .u64 (loW b)] 48)) (.slice (some ⟨w.heap.size,0,none⟩) 2 2) [a,b]:=by
 have hB:=newB w (.cells #[.int .i64 (hiW a),.int .u64 (loW a),.int .i64 (hiW b),.int .u64 (loW b)] 48)
 refine ⟨some ⟨w.heap.size,0,none⟩,2,rfl,fun i y hy=>?_⟩
 have hi:i<2:=by have:=(List.getElem?_eq_some_iff.1 hy).1; simpa using this
 have:i=0∨i=1:=by omega
 rcases this with rfl|rfl
 ·simp at hy; subst hy
  exact ⟨_,0,rfl,ltB hB,by rw [cellB hB]; rfl,by rw [cellB hB]; rfl⟩
 ·simp at hy; subst hy
  exact ⟨_,0,rfl,ltB hB,by rw [cellB hB]; rfl,by rw [cellB hB]; rfl⟩
theorem info57:(Tryz.prog.info? 48).map (fun i=>(i.zero,i.size,i.bytes))=some (some (.agg #[.int .i64 0,.int .u64 0]),2,16):=by kernel_rfl
theorem exec_wides2 (act:Act) (o:Oper) {w:World} {x y:Operand} (ho:o.op=.buildSlice 97 2 #[(0,x),(1,y)]) (a b:Int) (hx:act.eval x=wideV a) (hy:act.eval y=wideV b) :
  (execOp act.eval o).run Tryz.prog w=.ok (.value (.slice (some ⟨w.heap.size,0,none⟩) 2 2)) (w.alloc (.cells #[.int .i64 (hiW a),.int .u64 (loW a),.int .i64 (hiW b),.int .u64 (loW b)] 48)):=by
 obtain ⟨i57,hi,hz0,hz1,hz2⟩:=info_parts info57
 have:=exec_slicesL act o (w:=w) [(0,x),(1,y)] ho [wideV a,wideV b] (by simp [hx,hy]) (E:=48) (s:=2) Tryz.underlying97 hi hz0 hz1 (by omega) rfl (by omega) (by omega) (by
  intro v hv
  simp only [List.mem_cons,List.not_mem_nil,or_false] at hv
  rcases hv with rfl|rfl <;> rfl)
 simpa [Value.cells,wideV] using this
theorem exec_row1 (act:Act) (o:Oper) {w:World} {x:Operand} (ho:o.op=.buildSlice 58 1 #[(0,x)]) (u:Value) (hx:act.eval x=u) (hu:u.cells=#[u]) :
  (execOp act.eval o).run Tryz.prog w=.ok (.value (.slice (some ⟨w.heap.size,0,none⟩) 1 1)) (w.alloc (.cells #[u] 33)):=by
 obtain ⟨i33,hi,hz0,hz1,hz2⟩:=info_parts info33
 have:=exec_slicesL act o (w:=w) [(0,x)] ho [u] (by simp [hx]) (E:=33) (s:=1) Tryz.underlying58 hi hz0 hz1 (by omega) rfl (by omega) (by omega) (by
  intro v hv
  simp only [List.mem_cons,List.not_mem_nil,or_false] at hv
  subst hv; rw [hu]; rfl)
 simpa [hu] using this
theorem exec_val1 (act:Act) (o:Oper) {w:World} {x:Operand} (ho:o.op=.buildSlice 92 1 #[(0,x)]) (u v:Value) (hx:act.eval x=.agg #[u,v]) :
  (execOp act.eval o).run Tryz.prog w=.ok (.value (.slice (some ⟨w.heap.size,0,none⟩) 1 1)) (w.alloc (.cells #[u,v] 65)):=by
 obtain ⟨i43,hi,hz0,hz1,hz2⟩:=info_parts info43
 have:=exec_slicesL act o (w:=w) [(0,x)] ho [.agg #[u,v]] (by simp [hx]) (E:=65) (s:=2) Tryz.underlying92 hi hz0 hz1 (by omega) rfl (by omega) (by omega) (by
  intro y hy
  simp only [List.mem_cons,List.not_mem_nil,or_false] at hy
  subst hy; rfl)
 simpa [Value.cells] using this
theorem load57_box {w:World} {b:Nat} {z:Int} (h:w.heap[b]?=some (.cells #[.int .i64 (hiW z),.int .u64 (loW z)] 48 (0,0))):(loadVar 48 ⟨b,0,none⟩).run Tryz.prog w=.ok (wideV z) w:=
 run_loadVar_mid w b 0 48 [.int .i64 (hiW z),.int .u64 (loW z)] _ (fun j v hv=>by rw [Nat.zero_add,cellB h,List.getElem?_toArray]; exact hv) Tryz.underlying48 rfl (by rw [size57]; rfl)
theorem load40_box {w:World} {b:Nat} {a:Adr} (h:w.heap[b]?=some (.cells (adrCells a).toArray 41 (0,0))):(loadVar 41 ⟨b,0,none⟩).run Tryz.prog w=.ok (.agg (adrCells a).toArray) w:=load40 h
theorem exec_neqW (act:Act) (o:Oper) {w:World} {x y:Operand} {R:TypeId} (ho:o.op=.binOp .neq 48 x y R) (z:Int) (hx:act.eval x=wideV z) (hy:act.eval y=wideV z):(execOp act.eval o).run Tryz.prog w=.ok (.value (.bool false)) w:=by
 unfold wideV at hx hy
 unfold execOp
 simp only [ho,hx,hy,Sem.run_bind,Sem.run_pure]
 go_simp
theorem load51_box {w:World} {b:Nat} {xs:List Value} (hl:xs.length=102) (h:w.heap[b]?=some (.cells xs.toArray 73 (0,0))):(loadVar 73 ⟨b,0,none⟩).run Tryz.prog w=.ok (.agg xs.toArray) w:=
 run_loadVar_mid w b 0 73 xs _ (fun j v hv=>by rw [Nat.zero_add,cellB h,List.getElem?_toArray]; exact hv) Tryz.underlying73 rfl (by rw [size51,hl])
theorem EntsAt.at {w:World} {sa:Option Addr} {n sc:Nat} {es:List Ent} (h:EntsAt w (.slice sa n sc) es) {k:Nat} {y:Ent} (hy:es[k]?=some y):In64 y.val.coin/\∃ L off a2 c2,sa=some ⟨L,off,none⟩/\L<w.heap.size/\AssetsAt w (.slice a2 y.val.assets.length c2) y.val.assets/\∀ j u,(entCells y a2 c2)[j]?=some u->w.cell? ⟨L,off+k * 102+j,none⟩=some u:=by
 obtain ⟨a,c,e,_,h⟩:=h
 simp only [Value.slice.injEq] at e
 obtain ⟨rfl,_,_⟩:=e
 exact h k y hy
theorem owns_shape {w:World} {B s n:Nat} {e:TypeId} {v:Value} {xs:List Value} (h:w.ownsRow B e s v n xs):∃ a c,v=.slice a n c:=by
 obtain ⟨_,⟨rfl,rfl⟩|⟨g,cap,cur,rfl,_⟩⟩:=h
 ·exact ⟨_,_,rfl⟩
 ·exact ⟨_,_,rfl⟩
theorem le_sum {l:List Nat}:∀ {n:Nat},n∈l->n<=l.sum:=by
 induction l with
|nil=>intro n h; simp at h
|cons m l ih=>
  intro n h
  rw [List.sum_cons]
  rcases List.mem_cons.1 h with e|e
  ·omega
  ·have:=ih e; omega
end Go.Proofs.YtckcamlicgdklaaGreat
namespace Go.Proofs.YtckcamlicgdklaaGreat
open Go.RowKit Go.Mo Go.Sort
abbrev Tl:=List (Nm×Int)
/-- One step of the reference's put. -/
def putStep (x:Nm×Int) (s:Tl×Bool) (y:Nm×Int):Tl×Bool:=
 if ordN x.1 y.1<0 then (if s.2 then (s.1 ++ [y],true) else (s.1 ++ [x] ++ [y],true))
 else if ordN x.1 y.1=0 then (s.1 ++ [(y.1,y.2+x.2)],true) else (s.1 ++ [y],s.2)
def putTo (x:Nm×Int) (l:Tl):Tl×Bool:=l.foldl (putStep x) ([],false)
def putL (l:Tl) (x:Nm×Int):Tl:=if (putTo x l).2 then (putTo x l).1 else (putTo x l).1 ++ [x]
def nb:Bool->Nat
|true=>0
|false=>1
theorem putTo_len (x:Nm×Int):∀ (l:Tl) (s:Tl×Bool),(l.foldl (putStep x) s).1.length+nb (l.foldl (putStep x) s).2<=s.1.length+l.length+nb s.2
|[],s=>by simp
|y :: l,s=>by
  have h:=putTo_len x l (putStep x s y)
  rw [List.foldl_cons,List.length_cons]
  have:(putStep x s y).1.length+nb (putStep x s y).2<=s.1.length+1+nb s.2:=by
   obtain ⟨s1,s2⟩:=s
   unfold putStep
   cases s2 <;> (repeat' split) <;> simp_all [nb]
  omega
theorem putL_len (l:Tl) (x:Nm×Int):(putL l x).length<=l.length+1:=by
 have h:=putTo_len x l ([],false)
 unfold putL
 unfold putTo
 generalize l.foldl (putStep x) ([],false)=r at h ⊢
 obtain ⟨r1,r2⟩:=r
 cases r2 <;> simp_all [nb]
theorem putTo_lt (x:Nm×Int) (l:Tl):(putTo x l).1.length<=l.length+1:=by
 have h:=putTo_len x l ([],false)
 unfold putTo
 simp [nb] at h
 omega
theorem putTo_snoc {l:Tl} {k:Nat} {x y:Nm×Int} {s:Tl×Bool} (hy:l[k]?=some y) (h:putTo x (l.take k)=s):putTo x (l.take (k+1))=putStep x s y:=by
 rw [List.take_add_one,hy]
 unfold putTo at h ⊢
 rw [List.foldl_append,h]
 rfl
theorem tot_pol (x:Nm×Int):((totCells x).drop 0).take 32=x.1.policy.map by8:=by
 have:=x.1.len
 simp [totCells,nmCells,this]
theorem tot_nm (x:Nm×Int):(totCells x)[32]?=some (.string ⟨x.1.name.toArray⟩):=by
 have:=x.1.len
 simp [totCells,nmCells,this]
theorem tot_sum (x:Nm×Int):((totCells x).drop 33).take 2=[.int .i64 (hiW x.2),.int .u64 (loW x.2)]:=by
 have:=x.1.len
 simp [totCells,nmCells,List.drop_append,List.take_append,this]
theorem tot_patch (x:Nm×Int) (z:Int):patch (totCells x) 33 [.int .i64 (hiW z),.int .u64 (loW z)]=totCells (x.1,z):=by
 have:=x.1.len
 have e1:List.take 33 (x.1.policy.map by8)=x.1.policy.map by8:=List.take_of_length_le (by simp [this])
 have e2:List.drop 35 (x.1.policy.map by8)=[]:=List.drop_of_length_le (by simp [this])
 simp [patch,totCells,nmCells,List.drop_append,List.take_append,this,e1,e2]
theorem load_str {w:World} {p:Addr} {s:ByteArray} (h:w.cell? p=some (.string s)):(loadVar 9 p).run Tryz.prog w=.ok (.string s) w:=by
 go_simp
theorem zi78':∃ z:Array Value,(∀ w,(zeroValue 78).run Tryz.prog w=.ok (.agg z) w)/\z.size=35:=⟨_,Tryz.zeroValue78,by kernel_rfl⟩
/-- A total in cells at L, o: its parts are read. -/
theorem tot_loads {w:World} {L o:Nat} {y:Nm×Int} (h:∀ j u,(totCells y)[j]?=some u->w.cell? ⟨L,o+j,none⟩=some u) :
  (loadVar 27 ⟨L,o,none⟩).run Tryz.prog w=.ok (.agg (y.1.policy.map by8).toArray) w/\(loadVar 9 ⟨L,o+32,none⟩).run Tryz.prog w=.ok (.string ⟨y.1.name.toArray⟩) w/\(loadVar 48 ⟨L,o+33,none⟩).run Tryz.prog w=.ok (wideV y.2) w/\(loadVar 78 ⟨L,o,none⟩).run Tryz.prog w=.ok (.agg (totCells y).toArray) w:=by
 have hl:=totCells_length y
 refine ⟨?_,load_str (h 32 _ (tot_nm y)),?_,load88_at h⟩
 ·have:=load_mid h 27 0 32 _ Tryz.underlying27 rfl zs27 (by omega)
  rwa [tot_pol,Nat.add_zero] at this
 ·have:=load_mid h 48 33 2 _ Tryz.underlying48 rfl zs48 (by omega)
  rwa [tot_sum] at this
theorem box_tot {w:World} {b:Nat} {y:Nm×Int} {T:TypeId} (h:w.heap[b]?=some (.cells (totCells y).toArray T (0,0))) (j:Nat) (u:Value) (hu:(totCells y)[j]?=some u):w.cell? ⟨b,0+j,none⟩=some u:=by
 rw [Nat.zero_add,cellB h,List.getElem?_toArray,hu]
theorem one_at {w:World} {g:Nat} {y:Nm×Int} (h:w.heap[g]?=some (.cells (totCells y).toArray 78 (0,0))):TotsAt w (.slice (some ⟨g,0,none⟩) 1 1) [y]:=by
 refine ⟨_,1,rfl,(fun q=>by cases q),by simp,fun i x hx=>?_⟩
 have hi:i<1:=by have:=(List.getElem?_eq_some_iff.1 hx).1; simpa using this
 have e:i=0:=by omega
 subst e
 simp at hx
 subst hx
 exact ⟨g,0,rfl,ltB h,fun j u hu=>by simpa using box_tot h j u hu⟩
theorem OutAt.nil (w wr:World):OutAt w wr (.slice none 0 0) []:=⟨World.ownsRow_nil wr 0 78 35,fun k h=>by cases h⟩
theorem OutAt.push {w w1 wr wa w6:World} {v v6:Value} {ds:Tl} {x:Nm×Int} (h:OutAt w wr v ds) (hw:Mod N0 w1 wr) (h1:w1.heap.size<=w.heap.size+1) (h2:w.heap.size<wa.heap.size) (hm:Mod N0 wr wa)
  (ho:w6.ownsRow 0 78 35 v6 (ds.length+[x].length) (totsCells ds ++ totsCells [x])) (hg:wa.grownBy w6 v.ownBlock) (hat:∀ q,v6.ownBlock=some q->v.ownBlock=some q∨wa.heap.size<=q):OutAt w w6 v6 (ds ++ [x])/\Mod N0 w1 w6:=by
 refine ⟨⟨by simpa [totsCells] using ho,fun q hq=>?_⟩,?_⟩
 ·rcases hat q hq with e|e
  ·exact h.2 q e
  ·omega
 ·exact (hw.tr hm).trans ((Mod.refl (fun q=>v.ownBlock=some q) wa).grown hg (fun q hq _=>hq)) (fun q e hl=>by have:=h.2 q e; omega)
set_option maxRecDepth 100000 in
theorem some_calls (w:World) (v:Value) (ds:Tl) (h:TotsAt w v ds) (hn:ds.length<=900000):Calls Tryz.prog 59 #[v] w fun e w'=>∃ v',e=.returned v'/\OutAt w w' v' (ds.filter (nzW ·.2))/\Mod N0 w w':=by
 obtain ⟨a,c,rfl,_,hl,hel⟩:=h
 have HE:=hh hel
 have HN0:=hh hn
 clear hel hn
 go_enter Tryz.func59,Tryz.ntmps59
 go_wp2_with fail
 go_loopw [3,4] (fun v3 i wr=>∃ (k:Nat) (v':Value) (ts:Tl),k<=ds.length/\v'=v3/\i=.int .i64 k/\(ds.take k).filter (nzW ·.2)=ts/\OutAt w wr v' ts/\Mod N0 w wr) (fun _ i _=>ds.length - (intOf i).toNat)
 case atStart=>exact ⟨0,_,_,by omega,rfl,rfl,rfl,OutAt.nil w w,Mod.refl _ w⟩
 case round=>
  obtain ⟨k,v3,ts,hk,rfl,rfl,hts,ho,hm⟩:=hrel
  have HO3:=hh ho
  have HM:=hh hm
  have HTS:=hh hts
  clear ho hm hts
  by_cases hlt:k<ds.length
  ·obtain ⟨y,hy⟩:∃ y,ds[k]?=some y:=⟨_,List.getElem?_eq_getElem hlt⟩
   obtain ⟨L,off,rfl,hL,hc⟩:=HE.out k y hy
   have HLD:=hh (tot_loads (w:=wr) (fun j u hu=>(HM.out.cell (p:=⟨L,_,none⟩) hL (fun q=>q)).trans (hc j u hu)))
   have HY:=hh hy
   clear hc hy
   have hts1:(ds.take (k+1)).filter (nzW ·.2)=ts ++ (if nzW y.2 then [y] else []):=by
    rw [List.take_add_one,HY.out,List.filter_append,HTS.out]
    by_cases hz:nzW y.2=true <;> simp [hz]
   go_upto_region 5 with fail
   refine wp_region_lit ?_
   refine ex (v:=.slice (some ⟨L,off,none⟩) ds.length c) ?_
   refine ex (v:=.int .i64 k) ?_
   refine ex (v:=.pointer (some ⟨L,off+k * 35,none⟩)) ?_
   refine ex (v:=.pointer (some ⟨L,off+k * 35+33,none⟩)) ?_
   refine wx (exec_load_pt _ _ 48 _ rfl ⟨L,off+k * 35+33,none⟩ rfl HLD.out.2.2.1) ?_
   refine ex (v:=.agg #[.int .i64 0,.int .u64 0]) ?_
   cases hz:nzW y.2 with
  |true=>
    rw [hz] at hts1
    have HT1:=hh hts1
    clear hts1
    refine wx (exec_neq57b _ _ rfl y.2 hz rfl rfl) ?_
    have HZ:=hh hz
    clear hz
    go_upto_region 6 with fail
    refine wp_region_lit ?_
    refine ex (v:=v3) ?_
    refine ex (v:=.slice (some ⟨L,off,none⟩) ds.length c) ?_
    refine ex (v:=.int .i64 k) ?_
    refine ex (v:=.pointer (some ⟨L,off+k * 35,none⟩)) ?_
    refine wx (exec_load_pt _ _ 78 _ rfl ⟨L,off+k * 35,none⟩ rfl HLD.out.2.2.2) ?_
    refine ww (exec_slice1 _ _ rfl y rfl) ?_
    have hN:=one_at (newB wr (.cells (totCells y).toArray 78))
    have hmA:=(Mod.refl N0 wr).alloc (.cells (totCells y).toArray 78)
    have hszA:(wr.alloc (.cells (totCells y).toArray 78)).heap.size=wr.heap.size+1:=by simp
    generalize wr.alloc (.cells (totCells y).toArray 78)=wa at hN hmA hszA ⊢
    generalize hga:wr.heap.size=ga at hN hszA ⊢
    have HN:=hh (And.intro hN (And.intro hmA (And.intro hszA hga)))
    have HO:=hh ((HO3.out).tr hmA (fun _ _ q=>q))
    clear hN hmA hszA hga
    refine wpList_append_tots rfl _ _ rfl rfl rfl HO.out.1 HN.out.1 (by have h1:=HTS.out; rw [← h1]; have:=List.length_filter_le (fun x:Nm×Int=>nzW x.2) (ds.take k); have:=HN0.out; simp at this ⊢; simp at *; omega) ?_
    intro v6 w6 ho6 hg6 hat6
    have HF:=hh (OutAt.push HO.out ((HM.out).tr HN.out.2.1) (by omega) (by have:=HN.out.2.2.1; have:=HN.out.2.2.2; have:=(HM.out).size; omega) (Mod.refl _ _) ho6 hg6 hat6)
    clear ho6 hg6 hat6 HN HO
    (try simp only [Act.put,ja,jb,jc])
    go_wp2_with fail
    go_roundw
    case rel=>exact ⟨k+1,_,_,by omega,rfl,by simp,HT1.out,HF.out.1,HF.out.2⟩
    case measure=>simp [intOf]; omega
  |false=>
    rw [hz] at hts1
    have HT1:=hh hts1
    clear hts1
    refine wx (exec_neq57b _ _ rfl y.2 hz rfl rfl) ?_
    have HZ:=hh hz
    clear hz
    go_wp2_with fail
    go_roundw
    case rel=>exact ⟨k+1,_,_,by omega,rfl,by simp,by simpa using HT1.out,HO3.out,HM.out⟩
    case measure=>simp [intOf]; omega
  ·have e:k=ds.length:=by omega
   subst e
   have h1:=HTS.out
   rw [List.take_length] at h1
   have HT1:=hh h1
   clear h1
   go_wp2_with fail
   go_ret
   exact ⟨_,rfl,by rw [HT1.out]; exact HO3.out,HM.out⟩
end Go.Proofs.YtckcamlicgdklaaGreat
