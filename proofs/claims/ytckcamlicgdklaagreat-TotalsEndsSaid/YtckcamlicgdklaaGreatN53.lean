/- TotalsEnds: what holds between its steps. -/
import Derived.Test.YtckcamlicgdklaaGreatN52
namespace Go.Proofs.YtckcamlicgdklaaGreat
open Go.RowKit Go.Mo Go.Sort
def numsL:List Int:=[-9223372036854775808,-1,0,1,5,9223372036854775807]
theorem nums64 {i:Nat} {z:Int} (h:numsL[i]?=some z):In64 z:=by
 have:=List.mem_of_getElem? h
 simp only [numsL,List.mem_cons,List.not_mem_nil,or_false] at this
 unfold In64
 rcases this with rfl|rfl|rfl|rfl|rfl|rfl <;> omega
theorem max64:In64 9223372036854775807:=by unfold In64; omega
theorem as_built (b:UInt8) (z:Int):Tryz.prog.built 76 [(1,.string ⟨[b].toArray⟩),(2,.int .i64 z)]=some (asCells (nmX b) z).toArray:=by kernel_rfl
theorem exec_as (act:Act) (o:Oper) {w:World} {x y:Operand} (ho:o.op=.build 76 #[(1,x),(2,y)]) (b:UInt8) (z:Int) (hx:act.eval x=.string ⟨[b].toArray⟩) (hy:act.eval y=.int .i64 z):(execOp act.eval o).run Tryz.prog w=.ok (.value (.agg (asCells (nmX b) z).toArray)) w:=
 exec_buildL act o [(1,x),(2,y)] ho [(1,.string ⟨[b].toArray⟩),(2,.int .i64 z)] (by simp [hx,hy]) _ (as_built b z)
theorem info76:∃ z:Array Value,(Tryz.prog.info? 76).map (fun i=>(i.zero,i.size,i.bytes))=some (some (.agg z),34,56):=by
 obtain ⟨z,_,_⟩:∃ z:Array Value,(∀ w,(zeroValue 76).run Tryz.prog w=.ok (.agg z) w)/\True:=⟨_,zv97,trivial⟩
 exact ⟨zero97,by kernel_rfl⟩
theorem exec_as2 (act:Act) (o:Oper) {w:World} {x y:Operand} (ho:o.op=.buildSlice 63 2 #[(0,x),(1,y)]) (b b':UInt8) (z z':Int) (hx:act.eval x=.agg (asCells (nmX b) z).toArray) (hy:act.eval y=.agg (asCells (nmX b') z').toArray) :
  (execOp act.eval o).run Tryz.prog w=.ok (.value (.slice (some ⟨w.heap.size,0,none⟩) 2 2)) (w.alloc (.cells ([asCells (nmX b) z,asCells (nmX b') z'].flatten).toArray 76)):=by
 obtain ⟨zz,hz⟩:=info76
 obtain ⟨i76,hi,hz0,hz1,hz2⟩:=info_parts hz
 have:=exec_slicesL act o (w:=w) [(0,x),(1,y)] ho [.agg (asCells (nmX b) z).toArray,.agg (asCells (nmX b') z').toArray] (by simp [hx,hy]) (E:=76) (s:=34) Tryz.underlying63 hi hz0 hz1 (by omega) rfl (by omega) (by omega) (by
  intro v hv
  simp only [List.mem_cons,List.not_mem_nil,or_false] at hv
  rcases hv with rfl|rfl <;> simp [Value.cells,asCells_length])
 simpa [Value.cells] using this
theorem ent_set (n:Nat) (c:Int) (l:List (Nm×Int)) (a:Option Addr) (k:Nat):(entCells (entE n c) none 0).set 67 (.slice a l.length k)=entCells (entA n c l) a k:=by
 have h1:(entE n c).pre.length=33:=(entE n c).hpre
 have h2:(entE n c).adr.length=33:=(entE n c).hadr
 simp only [entCells,outCells,entA]
 rw [List.set_append_right _ _ (by omega),List.set_append_right _ _ (by simp only [Ent.adr] at h2 ⊢; omega),h1]
 simp only [Ent.adr] at h2 ⊢
 rw [h2]
 rfl
/-- The blocks that a round lays, behind its eleventh region. -/
structure W4 (W:World) (ni nk mx:Int) (la lb le lm:Nat):Prop where
 a:W.heap[la]?=some (.cells ([asCells (nmX 120) nk,asCells (nmX 120) ni].flatten).toArray 76 (0,0))
 b:W.heap[lb]?=some (.cells ([asCells (nmX 120) 5,asCells (nmX 97) ni].flatten).toArray 76 (0,0))
 e:W.heap[le]?=some (.cells ([entCells (entA 1 ni [(nmX 120,nk),(nmX 120,ni)]) (some ⟨la,0,none⟩) 2,entCells (entA 2 nk [(nmX 120,5),(nmX 97,ni)]) (some ⟨lb,0,none⟩) 2,entCells (entE 1 mx) none 0,entCells (entE 1 mx) none 0].flatten).toArray 73 (0,0))
 m:W.heap[lm]?=some (.cells (totCells (nmX 120,5)).toArray 78 (0,0))
theorem W4.tr {W W':World} {ni nk mx:Int} {la lb le lm:Nat} (h:W4 W ni nk mx la lb le lm) (hm:Mod N0 W W'):W4 W' ni nk mx la lb le lm:=
 ⟨(hm.block _ (ltB h.a) (fun q=>q)).trans h.a,(hm.block _ (ltB h.b) (fun q=>q)).trans h.b,(hm.block _ (ltB h.e) (fun q=>q)).trans h.e,(hm.block _ (ltB h.m) (fun q=>q)).trans h.m⟩
theorem five64:In64 5:=by unfold In64; omega
theorem zero64:In64 0:=by unfold In64; omega
theorem entE_A (n:Nat) (c:Int):entE n c=entA n c []:=rfl
section
variable {W:World} {ni nk mx:Int} {la lb le lm:Nat}
theorem W4.r_e0 (h:W4 W ni nk mx la lb le lm) (h1:In64 ni) (h2:In64 nk):R1 W 11 73 (entCells (entA 1 ni [(nmX 120,nk),(nmX 120,ni)]) (some ⟨la,0,none⟩) 2):=
 r1_ent 1 (.inl rfl) [(nmX 120,nk),(nmX 120,ni)] (some ⟨la,0,none⟩) 2 h1 (r1_assets la 120 120 h2 h1 h.a)
theorem W4.r_e1 (h:W4 W ni nk mx la lb le lm) (h1:In64 ni) (h2:In64 nk):R1 W 11 73 (entCells (entA 2 nk [(nmX 120,5),(nmX 97,ni)]) (some ⟨lb,0,none⟩) 2):=
 r1_ent 2 (.inr rfl) [(nmX 120,5),(nmX 97,ni)] (some ⟨lb,0,none⟩) 2 h2 (r1_assets lb 120 97 five64 h1 h.b)
theorem r_e2 (h3:In64 mx):R1 W 11 73 (entCells (entE 1 mx) none 0):=by
 rw [entE_A]
 exact r1_ent 1 (.inl rfl) [] none 0 h3 (r1_of (by kernel_rfl))
theorem W4.r_ents (h:W4 W ni nk mx la lb le lm) (h1:In64 ni) (h2:In64 nk) (h3:In64 mx) (n:Nat) (hn:n<=4):R1 W 12 28 [.slice (some ⟨le,0,none⟩) n 4]:=
 r1_entries le (entCells_length _ _ _) (entCells_length _ _ _) (entCells_length _ _ _) (h.r_e0 h1 h2) (h.r_e1 h1 h2) (r_e2 h3) h.e n hn
theorem W4.state1 (h:W4 W ni nk mx la lb le lm) (h1:In64 ni) (h2:In64 nk) (h3:In64 mx):Rd W 36 (stL (.slice (some ⟨le,0,none⟩) 4 4) (.int .i64 nk) (.int .i64 ni) (.slice (some ⟨lm,0,none⟩) 1 1)):=
 (r1_state h2 h1 (h.r_ents h1 h2 h3 4 (by omega)) (r1_minted lm h.m)).rd
theorem W4.state3 (h:W4 W ni nk mx la lb le lm) (h1:In64 ni) (h2:In64 nk) (h3:In64 mx):Rd W 36 (stL (.slice (some ⟨le,0,none⟩) 1 4) (.int .i64 nk) (.int .i64 0) (.slice none 0 0)):=
 (r1_state h2 zero64 (h.r_ents h1 h2 h3 1 (by omega)) (r1_of (by kernel_rfl))).rd
theorem W4.gen (h:W4 W ni nk mx la lb le lm) (h1:In64 ni) (h2:In64 nk) {lo:Nat} (ho:W.heap[lo]?=some (.cells ([outCells (entA 1 ni [(nmX 120,nk),(nmX 120,ni)]) (some ⟨la,0,none⟩) 2,outCells (entE 0 nk) none 0].flatten).toArray 71 (0,0))):Rd W 39 (gnL (.slice (some ⟨lo,0,none⟩) 2 2)):=
 have o0:R1 W 10 71 (outCells (entA 1 ni [(nmX 120,nk),(nmX 120,ni)]) (some ⟨la,0,none⟩) 2):=r1_out 1 (.inr (.inl rfl)) [(nmX 120,nk),(nmX 120,ni)] (some ⟨la,0,none⟩) 2 h1 (r1_assets la 120 120 h2 h1 h.a)
 have o1:R1 W 10 71 (outCells (entE 0 nk) none 0):=by
  rw [entE_A]
  exact r1_out 0 (.inl rfl) [] none 0 h2 (r1_of (by kernel_rfl))
 (r1_gen (r1_outs lo (outCells_length _ _ _) (outCells_length _ _ _) o0 o1 ho)).rd
end
end Go.Proofs.YtckcamlicgdklaaGreat
