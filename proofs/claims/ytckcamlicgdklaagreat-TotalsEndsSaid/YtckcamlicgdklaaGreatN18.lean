/- totals.Whole, where the coins are the genesis'. -/
import Derived.Test.YtckcamlicgdklaaGreatN16
import Derived.Test.YtckcamlicgdklaaGreatN17
namespace Go.Proofs.YtckcamlicgdklaaGreat
open Go.RowKit Go.Mo Go.Sort
theorem ss36':(Tryz.prog.info? 36).map (·.size)=some 182:=by kernel_rfl
theorem load36_box {w:World} {b:Nat} {cs:List Value} (hl:cs.length=182) (h:w.heap[b]?=some (.cells cs.toArray 36 (0,0))):(loadVar 36 ⟨b,0,none⟩).run Tryz.prog w=.ok (.agg cs.toArray) w:=
 run_loadVar_mid w b 0 36 cs _ (fun j v hv=>by rw [Nat.zero_add,cellB h,List.getElem?_toArray]; exact hv) Tryz.underlying36 rfl (by rw [ss36',hl])
/-- What Whole tells where the coins are the same: the assets' lists. -/
def WholePost (w:World) (es os:List Ent) (mint:List (Nm×Int)) (e:Ending) (w':World):Prop:=
 ∃ d d2 m,e=.returned (.bool (decide (d.map tN=m.map tN)))/\d.Perm ((bookV (es.map (·.val))).filter (nzW ·.2))/\srtT d/\d2.Perm ((bookV (os.map (·.val))).filter (nzW ·.2))/\srtT d2/\m.Perm ((bookA [] (d2 ++ mint)).filter (nzW ·.2))/\srtT m/\Mod N0 w w'
theorem perm_le {vs:List Val} {d:List (Nm×Int)} (h:d.Perm ((bookV vs).filter (nzW ·.2))):d.length<=(bookV vs).length:=by
 rw [h.length_eq]; exact List.length_filter_le _ _
/-- Two rows of totals, laid side by side in a new block. -/
theorem rows_two {w:World} {u v:Value} {d e:List (Nm×Int)} (h1:TotsAt w u d) (h2:TotsAt w v e):RowsAt (w.alloc (.cells #[u,v] 33)) (.slice (some ⟨w.heap.size,0,none⟩) 2 2) [d,e]:=by
 have hB:=newB w (.cells #[u,v] 33)
 have hm:Mod N0 w (w.alloc (.cells #[u,v] 33)):=(Mod.refl _ w).alloc _
 refine ⟨_,_,rfl,by simp,fun i r hr=>?_⟩
 have hi:i<2:=by have:=(List.getElem?_eq_some_iff.1 hr).1; simpa using this
 have:i=0∨i=1:=by omega
 rcases this with rfl|rfl
 ·simp at hr; subst hr
  exact ⟨_,0,u,rfl,ltB hB,by rw [cellB hB]; rfl,h1.tr hm⟩
 ·simp at hr; subst hr
  exact ⟨_,0,v,rfl,ltB hB,by rw [cellB hB]; rfl,h2.tr hm⟩
theorem info33:(Tryz.prog.info? 33).map (fun i=>(i.zero,i.size,i.bytes))=some (some (.slice none 0 0),1,24):=by kernel_rfl
theorem exec_rows2 (act:Act) (o:Oper) {w:World} {a b:Operand} (ho:o.op=.buildSlice 58 2 #[(0,a),(1,b)]) (u v:Value) (ha:act.eval a=u) (hb:act.eval b=v) (hu:u.cells=#[u]) (hv:v.cells=#[v]):(execOp act.eval o).run Tryz.prog w=.ok (.value (.slice (some ⟨w.heap.size,0,none⟩) 2 2)) (w.alloc (.cells #[u,v] 33)):=by
 obtain ⟨i33,hi,hz0,hz1,hz2⟩:=info_parts info33
 have:=exec_slicesL act o (w:=w) [(0,a),(1,b)] ho [u,v] (by simp [ha,hb]) (E:=33) (s:=1) Tryz.underlying58 hi hz0 hz1 (by omega) rfl (by omega) (by omega) (by intro x hx; simp at hx; rcases hx with rfl|rfl; rw [hu]; rfl; rw [hv]; rfl)
 simpa [hu,hv] using this
theorem step_execW {ops:Array Oper} {o:Oper} {a:Act} {w w':World} {K:Act->World->Prop} {Q:Exit->Act->World->Prop} {E:Prop} (hgd:Region.wanted o (yielded ops a.tmps)=true) {v:Value} (hv:(execOp a.eval o).run Tryz.prog w=.ok (.value v) w') (h:K (a.put o.dst v) w'):if Region.wanted o (yielded ops a.tmps)=true then Oper.wp Tryz.prog o a w K Q else E:=by
 rw [if_pos hgd]
 unfold Oper.wp
 rw [hv]
 exact h
theorem rows_tr {w w':World} {v:Value} {rows:List (List (Nm×Int))} (h:RowsAt w v rows) (hm:Mod N0 w w'):RowsAt w' v rows:=by
 obtain ⟨a,c,rfl,hl,h⟩:=h
 refine ⟨a,c,rfl,hl,fun i r hr=>?_⟩
 obtain ⟨L,off,rv,rfl,hL,hc,hT⟩:=h i r hr
 exact ⟨L,off,rv,rfl,Nat.lt_of_lt_of_le hL hm.size,(hm.cell (p:=⟨L,_,none⟩) hL (fun q=>q)).trans hc,hT.tr hm⟩
theorem bookA_len (xs:List (Nm×Int)):(bookA [] xs).length<=xs.length:=by
 have:=bookA_length xs []; simpa using this
theorem perm_le' {xs d:List (Nm×Int)} (h:d.Perm ((bookA [] xs).filter (nzW ·.2))):d.length<=xs.length:=tots_length h
end Go.Proofs.YtckcamlicgdklaaGreat
