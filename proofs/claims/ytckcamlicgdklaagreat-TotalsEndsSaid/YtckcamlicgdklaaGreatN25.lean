/- Copies of structs: patches; terms, bundles, outputs. -/
import Derived.Test.YtckcamlicgdklaaGreatN24
namespace Go.Proofs.YtckcamlicgdklaaGreat
open Go.RowKit Go.Mo
def patch (cs:List Value) (o:Nat) (new:List Value):List Value:=cs.take o ++ new ++ cs.drop (o+new.length)
theorem patch_length {cs:List Value} {o:Nat} {new:List Value} (h:o+new.length<=cs.length):(patch cs o new).length=cs.length:=by
 simp [patch]; omega
theorem patch_get {cs:List Value} {o:Nat} {new:List Value} (h:o+new.length<=cs.length) (j:Nat):(patch cs o new)[j]?=if o<=j/\j<o+new.length then new[j - o]? else cs[j]?:=by
 unfold patch
 have h1:(cs.take o).length=o:=by simp; omega
 rw [List.append_assoc,List.getElem?_append,h1]
 by_cases h2:j<o
 ·rw [if_pos h2,if_neg (by omega),List.getElem?_take,if_pos h2]
 ·rw [if_neg h2,List.getElem?_append]
  by_cases h3:j - o<new.length
  ·rw [if_pos h3,if_pos (by omega)]
  ·rw [if_neg h3,if_neg (by omega),List.getElem?_drop]
   congr 1
   omega
theorem patch_apart (cs:List Value) (o:Nat) (new:List Value) (o' m':Nat) (h:o'+m'<=o/\o<=cs.length∨o+new.length<=o'/\o<=cs.length):((patch cs o new).drop o').take m'=(cs.drop o').take m':=by
 refine List.ext_getElem? fun j=>?_
 simp only [List.getElem?_take,List.getElem?_drop]
 split
 ·unfold patch
  have h1:(cs.take o).length=o:=by simp; omega
  rw [List.append_assoc,List.getElem?_append,h1]
  rcases h with h|h
  ·rw [if_pos (by omega),List.getElem?_take,if_pos (by omega)]
  ·rw [if_neg (by omega),List.getElem?_append,if_neg (by omega),List.getElem?_drop]
   congr 1
   omega
 ·rfl
theorem patch_same' {new:List Value} {m:Nat} (hn:new.length=m) (cs:List Value) (o:Nat) (h:o<=cs.length):((patch cs o new).drop o).take m=new:=by
 unfold patch
 have h1:(cs.take o).length=o:=by simp; omega
 rw [List.append_assoc,List.drop_append_of_le_length (by omega),List.drop_of_length_le (by omega),List.nil_append,List.take_append_of_le_length (by omega),List.take_of_length_le (by omega)]
theorem patch_ones {cs new:List Value} {o:Nat} (h:∀ u∈cs,u.oneCell'=true) (hn:∀ u∈new,u.oneCell'=true):∀ u∈patch cs o new,u.oneCell'=true:=by
 intro u hu
 unfold patch at hu
 simp only [List.mem_append] at hu
 rcases hu with (h1|h1)|h1
 ·exact h u (List.mem_of_mem_take h1)
 ·exact hn u h1
 ·exact h u (List.mem_of_mem_drop h1)
theorem setCell_box {w:World} {b:Nat} {cs:List Value} {T:TypeId} (h:w.heap[b]?=some (.cells cs.toArray T (0,0))) (o:Nat) (v:Value) (ho:o<cs.length):(w.setCell ⟨b,o,none⟩ v).heap[b]?=some (.cells (patch cs o [v]).toArray T (0,0)):=by
 rw [setB h o v]
 have:cs.toArray.setIfInBounds o v=(patch cs o [v]).toArray:=by
  rw [List.setIfInBounds_toArray]
  congr 1
  refine List.ext_getElem? fun j=>?_
  rw [patch_get (by simp; omega),List.getElem?_set]
  by_cases hj:o=j
  ·subst hj
   simp [ho]
  ·rw [if_neg hj,if_neg (by simp; omega)]
 rw [this]
theorem setCells_box {b:Nat} {T:TypeId}:∀ (new:List Value) (w:World) (cs:List Value) (o:Nat),w.heap[b]?=some (.cells cs.toArray T (0,0))->o+new.length<=cs.length->(w.setCells b o new).heap[b]?=some (.cells (patch cs o new).toArray T (0,0))
|[],w,cs,o,h,_=>by
  have:patch cs o []=cs:=by simp [patch]
  rw [this]; exact h
|v :: r,w,cs,o,h,hl=>by
  simp only [List.length_cons] at hl
  have h1:=setCell_box h o v (by omega)
  have hp:(patch cs o [v]).length=cs.length:=patch_length (by simp; omega)
  have:=setCells_box r _ (patch cs o [v]) (o+1) h1 (by rw [hp]; omega)
  have e:patch (patch cs o [v]) (o+1) r=patch cs o (v :: r):=by
   refine List.ext_getElem? fun j=>?_
   rw [patch_get (by rw [hp]; omega),patch_get (by simp; omega),patch_get (by simp; omega)]
   simp only [List.length_cons,List.length_nil]
   by_cases h2:o+1<=j/\j<o+1+r.length
   ·rw [if_pos h2,if_pos (by omega),show j - o=(j - (o+1))+1 by omega,List.getElem?_cons_succ]
   ·rw [if_neg h2]
    by_cases h3:j=o
    ·subst h3
     rw [if_pos (by omega),if_pos (by omega)]
     simp
    ·rw [if_neg (by omega),if_neg (by omega)]
  rw [e] at this
  exact this
theorem setCells_mod:∀ (w:World) (b:Nat) (new:List Value) (o:Nat),Mod (fun q=>q=b) w (w.setCells b o new)
|w,_,[],_=>Mod.refl _ w
|w,b,v :: r,o=>((Mod.refl (fun q=>q=b) w).setCell (p:=⟨b,o,none⟩) (fun _=>rfl) v).trans (setCells_mod _ b r (o+1)) (fun _ e _=>e)
theorem there_box {w:World} {b:Nat} {cs:List Value} {T:TypeId} (h:w.heap[b]?=some (.cells cs.toArray T (0,0))) {o m:Nat} (hl:o+m<=cs.length):w.there b o m:=fun j hj=>
 ⟨by rw [cellB h,List.getElem?_toArray,List.getElem?_eq_getElem (by omega)]; rfl,frozB h _⟩
theorem exec_store_pt (act:Act) (o:Oper) {w w':World} {T:TypeId} {x y:Operand} (ho:o.op=.store T x y) {p:Addr} (hx:act.eval x=.pointer (some p)) {v:Value} (hy:act.eval y=v) (h:(storeVar T p v).run Tryz.prog w=.ok () w'):(execOp act.eval o).run Tryz.prog w=.ok .skip w':=by
 unfold execOp
 simp only [ho,hx,hy,Instr.storeAt,Instr.sureAddr,Sem.run_bind,Sem.run_pure,h,Result.andThen_ok]
theorem exec_box (act:Act) (o:Oper) {w:World} (T:TypeId) (cs:List Value) {x:Operand} (ho:o.op=.box T x) (hx:act.eval x=.agg cs.toArray):(execOp act.eval o).run Tryz.prog w=.ok (.value (.pointer (some ⟨w.heap.size,0,none⟩))) (w.alloc (.cells cs.toArray T)):=by
 unfold execOp
 simp only [ho,hx]
 go_simp
theorem eqx_put {N n:Nat} {w0 w:World} {Q:Nat->Prop} {cs p:List Value} {f g:Field} (hf:some g=some f) (ft:TypeId) (o m:Nat) (h1:g.type=ft) (h2:g.offset=o) (h3:Tryz.prog.cellsOf ft=m) (h:EqX N w0 Q w n ft ((cs.drop o).take m) ((p.drop o).take m)) :
  Eqv Tryz.prog deepT N (Rd w0) Q w n f.type ((cs.drop f.offset).take (Tryz.prog.cellsOf f.type)) ((p.drop f.offset).take (Tryz.prog.cellsOf f.type)):=by
 cases hf
 rw [h1,h2,h3]
 exact h
theorem store_slice33 {w:World} {b o:Nat} {a:Option Addr} {n c:Nat} {old:Value} (hc:w.cell? ⟨b,o,none⟩=some old) (hz:w.frozen? ⟨b,o,none⟩=false):(storeVar 33 ⟨b,o,none⟩ (.slice a n c)).run Tryz.prog w=.ok () (w.setCell ⟨b,o,none⟩ (.slice a n c)):=by
 go_simp
theorem store_slice63 {w:World} {b o:Nat} {a:Option Addr} {n c:Nat} {old:Value} (hc:w.cell? ⟨b,o,none⟩=some old) (hz:w.frozen? ⟨b,o,none⟩=false):(storeVar 63 ⟨b,o,none⟩ (.slice a n c)).run Tryz.prog w=.ok () (w.setCell ⟨b,o,none⟩ (.slice a n c)):=by
 go_simp
theorem store_slice67 {w:World} {b o:Nat} {a:Option Addr} {n c:Nat} {old:Value} (hc:w.cell? ⟨b,o,none⟩=some old) (hz:w.frozen? ⟨b,o,none⟩=false):(storeVar 67 ⟨b,o,none⟩ (.slice a n c)).run Tryz.prog w=.ok () (w.setCell ⟨b,o,none⟩ (.slice a n c)):=by
 go_simp
theorem store_slice150 {w:World} {b o:Nat} {a:Option Addr} {n c:Nat} {old:Value} (hc:w.cell? ⟨b,o,none⟩=some old) (hz:w.frozen? ⟨b,o,none⟩=false):(storeVar 150 ⟨b,o,none⟩ (.slice a n c)).run Tryz.prog w=.ok () (w.setCell ⟨b,o,none⟩ (.slice a n c)):=by
 go_simp
theorem store_slice248 {w:World} {b o:Nat} {a:Option Addr} {n c:Nat} {old:Value} (hc:w.cell? ⟨b,o,none⟩=some old) (hz:w.frozen? ⟨b,o,none⟩=false):(storeVar 248 ⟨b,o,none⟩ (.slice a n c)).run Tryz.prog w=.ok () (w.setCell ⟨b,o,none⟩ (.slice a n c)):=by
 go_simp
theorem store_slice28 {w:World} {b o:Nat} {a:Option Addr} {n c:Nat} {old:Value} (hc:w.cell? ⟨b,o,none⟩=some old) (hz:w.frozen? ⟨b,o,none⟩=false):(storeVar 28 ⟨b,o,none⟩ (.slice a n c)).run Tryz.prog w=.ok () (w.setCell ⟨b,o,none⟩ (.slice a n c)):=by
 go_simp
theorem store_slice29 {w:World} {b o:Nat} {a:Option Addr} {n c:Nat} {old:Value} (hc:w.cell? ⟨b,o,none⟩=some old) (hz:w.frozen? ⟨b,o,none⟩=false):(storeVar 29 ⟨b,o,none⟩ (.slice a n c)).run Tryz.prog w=.ok () (w.setCell ⟨b,o,none⟩ (.slice a n c)):=by
 go_simp
theorem store_slice34 {w:World} {b o:Nat} {a:Option Addr} {n c:Nat} {old:Value} (hc:w.cell? ⟨b,o,none⟩=some old) (hz:w.frozen? ⟨b,o,none⟩=false):(storeVar 34 ⟨b,o,none⟩ (.slice a n c)).run Tryz.prog w=.ok () (w.setCell ⟨b,o,none⟩ (.slice a n c)):=by
 go_simp
theorem store_slice37 {w:World} {b o:Nat} {a:Option Addr} {n c:Nat} {old:Value} (hc:w.cell? ⟨b,o,none⟩=some old) (hz:w.frozen? ⟨b,o,none⟩=false):(storeVar 37 ⟨b,o,none⟩ (.slice a n c)).run Tryz.prog w=.ok () (w.setCell ⟨b,o,none⟩ (.slice a n c)):=by
 go_simp
theorem store_slice153 {w:World} {b o:Nat} {a:Option Addr} {n c:Nat} {old:Value} (hc:w.cell? ⟨b,o,none⟩=some old) (hz:w.frozen? ⟨b,o,none⟩=false):(storeVar 153 ⟨b,o,none⟩ (.slice a n c)).run Tryz.prog w=.ok () (w.setCell ⟨b,o,none⟩ (.slice a n c)):=by
 go_simp
theorem store_slice154 {w:World} {b o:Nat} {a:Option Addr} {n c:Nat} {old:Value} (hc:w.cell? ⟨b,o,none⟩=some old) (hz:w.frozen? ⟨b,o,none⟩=false):(storeVar 154 ⟨b,o,none⟩ (.slice a n c)).run Tryz.prog w=.ok () (w.setCell ⟨b,o,none⟩ (.slice a n c)):=by
 go_simp
theorem store_slice155 {w:World} {b o:Nat} {a:Option Addr} {n c:Nat} {old:Value} (hc:w.cell? ⟨b,o,none⟩=some old) (hz:w.frozen? ⟨b,o,none⟩=false):(storeVar 155 ⟨b,o,none⟩ (.slice a n c)).run Tryz.prog w=.ok () (w.setCell ⟨b,o,none⟩ (.slice a n c)):=by
 go_simp
theorem store_slice156 {w:World} {b o:Nat} {a:Option Addr} {n c:Nat} {old:Value} (hc:w.cell? ⟨b,o,none⟩=some old) (hz:w.frozen? ⟨b,o,none⟩=false):(storeVar 156 ⟨b,o,none⟩ (.slice a n c)).run Tryz.prog w=.ok () (w.setCell ⟨b,o,none⟩ (.slice a n c)):=by
 go_simp
theorem store_slice257 {w:World} {b o:Nat} {a:Option Addr} {n c:Nat} {old:Value} (hc:w.cell? ⟨b,o,none⟩=some old) (hz:w.frozen? ⟨b,o,none⟩=false):(storeVar 257 ⟨b,o,none⟩ (.slice a n c)).run Tryz.prog w=.ok () (w.setCell ⟨b,o,none⟩ (.slice a n c)):=by
 go_simp
theorem resC56 {tmps:Array Value} {b:Nat} {W:World} {v:Value} (ht:tmps[2]?.getD undef=.pointer (some ⟨b,0,none⟩)) (hl:(loadVar 69 ⟨b,0,none⟩).run Tryz.prog W=.ok v W):(results Tryz.f56 tmps).run Tryz.prog W=.ok v W:=by
 simp [results,Tryz.results56,ht,hl,asAddr]
theorem resC55 {tmps:Array Value} {b:Nat} {W:World} {v:Value} (ht:tmps[2]?.getD undef=.pointer (some ⟨b,0,none⟩)) (hl:(loadVar 65 ⟨b,0,none⟩).run Tryz.prog W=.ok v W):(results Tryz.f55 tmps).run Tryz.prog W=.ok v W:=by
 simp [results,Tryz.results55,ht,hl,asAddr]
theorem resC29 {tmps:Array Value} {b:Nat} {W:World} {v:Value} (ht:tmps[2]?.getD undef=.pointer (some ⟨b,0,none⟩)) (hl:(loadVar 71 ⟨b,0,none⟩).run Tryz.prog W=.ok v W):(results Tryz.f29 tmps).run Tryz.prog W=.ok v W:=by
 simp [results,Tryz.results29,ht,hl,asAddr]
theorem resC52 {tmps:Array Value} {b:Nat} {W:World} {v:Value} (ht:tmps[2]?.getD undef=.pointer (some ⟨b,0,none⟩)) (hl:(loadVar 73 ⟨b,0,none⟩).run Tryz.prog W=.ok v W):(results Tryz.f52 tmps).run Tryz.prog W=.ok v W:=by
 simp [results,Tryz.results52,ht,hl,asAddr]
theorem resC164 {tmps:Array Value} {b:Nat} {W:World} {v:Value} (ht:tmps[2]?.getD undef=.pointer (some ⟨b,0,none⟩)) (hl:(loadVar 264 ⟨b,0,none⟩).run Tryz.prog W=.ok v W):(results Tryz.f164 tmps).run Tryz.prog W=.ok v W:=by
 simp [results,Tryz.results164,ht,hl,asAddr]
theorem resC165 {tmps:Array Value} {b:Nat} {W:World} {v:Value} (ht:tmps[2]?.getD undef=.pointer (some ⟨b,0,none⟩)) (hl:(loadVar 269 ⟨b,0,none⟩).run Tryz.prog W=.ok v W):(results Tryz.f165 tmps).run Tryz.prog W=.ok v W:=by
 simp [results,Tryz.results165,ht,hl,asAddr]
theorem resC163 {tmps:Array Value} {b:Nat} {W:World} {v:Value} (ht:tmps[2]?.getD undef=.pointer (some ⟨b,0,none⟩)) (hl:(loadVar 275 ⟨b,0,none⟩).run Tryz.prog W=.ok v W):(results Tryz.f163 tmps).run Tryz.prog W=.ok v W:=by
 simp [results,Tryz.results163,ht,hl,asAddr]
theorem resC106 {tmps:Array Value} {b:Nat} {W:World} {v:Value} (ht:tmps[2]?.getD undef=.pointer (some ⟨b,0,none⟩)) (hl:(loadVar 152 ⟨b,0,none⟩).run Tryz.prog W=.ok v W):(results Tryz.f106 tmps).run Tryz.prog W=.ok v W:=by
 simp [results,Tryz.results106,ht,hl,asAddr]
theorem resC54 {tmps:Array Value} {b:Nat} {W:World} {v:Value} (ht:tmps[2]?.getD undef=.pointer (some ⟨b,0,none⟩)) (hl:(loadVar 158 ⟨b,0,none⟩).run Tryz.prog W=.ok v W):(results Tryz.f54 tmps).run Tryz.prog W=.ok v W:=by
 simp [results,Tryz.results54,ht,hl,asAddr]
theorem resC104 {tmps:Array Value} {b:Nat} {W:World} {v:Value} (ht:tmps[2]?.getD undef=.pointer (some ⟨b,0,none⟩)) (hl:(loadVar 140 ⟨b,0,none⟩).run Tryz.prog W=.ok v W):(results Tryz.f104 tmps).run Tryz.prog W=.ok v W:=by
 simp [results,Tryz.results104,ht,hl,asAddr]
theorem resC105 {tmps:Array Value} {b:Nat} {W:World} {v:Value} (ht:tmps[2]?.getD undef=.pointer (some ⟨b,0,none⟩)) (hl:(loadVar 143 ⟨b,0,none⟩).run Tryz.prog W=.ok v W):(results Tryz.f105 tmps).run Tryz.prog W=.ok v W:=by
 simp [results,Tryz.results105,ht,hl,asAddr]
theorem resC53 {tmps:Array Value} {b:Nat} {W:World} {v:Value} (ht:tmps[2]?.getD undef=.pointer (some ⟨b,0,none⟩)) (hl:(loadVar 145 ⟨b,0,none⟩).run Tryz.prog W=.ok v W):(results Tryz.f53 tmps).run Tryz.prog W=.ok v W:=by
 simp [results,Tryz.results53,ht,hl,asAddr]
theorem resC8 {tmps:Array Value} {b:Nat} {W:World} {v:Value} (ht:tmps[2]?.getD undef=.pointer (some ⟨b,0,none⟩)) (hl:(loadVar 36 ⟨b,0,none⟩).run Tryz.prog W=.ok v W):(results Tryz.f8 tmps).run Tryz.prog W=.ok v W:=by
 simp [results,Tryz.results8,ht,hl,asAddr]
set_option maxRecDepth 100000 in
set_option maxHeartbeats 1000000 in
theorem copyTerm {w0:World} (cs:List Value) (hr:Rd w0 69 cs) (w:World) (hm:Mod N0 w0 w):Calls Tryz.prog 56 #[.agg cs.toArray] w fun e w'=>CpR w0 3 69 w cs e w':=by
 have hl:=hr.len Tryz.underlying69
 rw [zc69] at hl
 obtain ⟨u0,hu0,hru0⟩:=hr.cellAt Tryz.underlying69 0 rfl 67 0 rfl rfl zc67 zc69 (by omega)
 obtain ⟨a0,l0,c0,rfl,_⟩:=id (hru0.slice Tryz.underlying67 zc212 (by omega))
 have HU0:=hh hu0
 have HR0:=hh hru0
 clear hu0 hru0
 obtain ⟨z,hzv,_,hzs⟩:=zi69
 have hA0:((w.alloc (.cells cs.toArray 69)).alloc (.cells z 69)).heap[w.heap.size]?=some (.cells cs.toArray 69 (0,0)):=allocB (newB w _) _
 have hZ0:((w.alloc (.cells cs.toArray 69)).alloc (.cells z 69)).heap[w.heap.size+1]?=some (.cells z 69 (0,0)):=by
  have:=newB (w.alloc (.cells cs.toArray 69)) (.cells z 69); rwa [World.size_alloc] at this
 have hM0:Mod N0 w ((w.alloc (.cells cs.toArray 69)).alloc (.cells z 69)):=((Mod.refl _ w).alloc _).alloc _
 have HZV:=hh (And.intro hzv hzs)
 have HL:=hh hl
 have HM:=hh hm
 have HON:=hh (ones69 hr)
 have HN:=hh hm.size
 clear hzv hzs hl hm hr
 go_enter Tryz.func56,Tryz.ntmps56
 go_upto_region 0 with fail
 refine wp_region_lit ?_
 refine ww (exec_box _ _ 69 cs rfl rfl) ?_
 refine ww (exec_alloc _ _ 69 z rfl HZV.out.1) ?_
 rw [World.size_alloc]
 generalize (w.alloc (.cells cs.toArray 69)).alloc (.cells z 69)=w1 at hA0 hZ0 hM0 ⊢
 have HA0:=hh hA0
 have HZ0:=hh hZ0
 have HM0:=hh hM0
 clear hA0 hZ0 hM0
 go_upto_region 1 with fail
 refine wp_region_lit ?_
 refine ex (v:=.pointer (some ⟨w.heap.size,0,none⟩)) ?_
 have hsub:(cs.drop 0).take 1=(cs.drop 0).take 1:=by
  rfl
 have hc:cs[0]?=some (.slice a0 l0 c0):=flat_cell hsub HU0.out
 have s:w1.cell? ⟨w.heap.size,0,none⟩=some (.slice a0 l0 c0):=(cellB HA0.out 0).trans (by rw [List.getElem?_toArray]; exact hc)
 refine ex (v:=.slice a0 l0 c0) ?_
 clear s hc
 clear hsub
 have HCC:=hh (copyNodes (.slice a0 l0 c0) HR0.out w1 (HM.out.tr HM0.out))
 go_wp2_with fail
 refine HCC.out.mono ?_
 rintro e w1x ⟨x0,rfl,one0,heq0,hm0⟩
 rename_i hK
 refine hK _ _ ?_
 clear hK
 (try simp only [Act.put,ja,jb,jc])
 obtain ⟨_,_,sa,xa0,sl,sc,xc0,hsl,rfl,_⟩:=id (heq0.slice rfl Tryz.underlying67 zc212)
 simp only [Value.slice.injEq] at hsl
 obtain ⟨hsa,rfl,hsc⟩:=hsl
 clear hsa hsc
 have hAx:=(hm0.block _ (ltB HA0.out) (fun q=>q)).trans HA0.out
 have hZx:=(hm0.block _ (ltB HZ0.out) (fun q=>q)).trans HZ0.out
 have hMx:=HM0.out.tr hm0
 have hst:=store_slice67 (w:=w1x) (a:=xa0) (n:=l0) (c:=xc0) ((cellB hAx 0).trans (by rw [List.getElem?_toArray]; exact List.getElem?_eq_getElem (by rw [HL.out]; omega))) (frozB hAx 0)
 have hAn:=setCell_box hAx 0 (.slice xa0 l0 xc0) (by rw [HL.out]; omega)
 have hmn:Mod (fun q=>q=w.heap.size) w1x (w1x.setCell ⟨w.heap.size,0,none⟩ (.slice xa0 l0 xc0)):=(Mod.refl (fun q=>q=w.heap.size) w1x).setCell (p:=⟨w.heap.size,0,none⟩) (fun _=>rfl) _
 generalize (w1x.setCell ⟨w.heap.size,0,none⟩ (.slice xa0 l0 xc0))=w2 at hst hAn hmn
 have hZn:=(hmn.block _ (ltB hZx) (fun q=>by omega)).trans hZx
 have hMn:Mod N0 w w2:=hMx.trans hmn (fun q e hl=>by omega)
 have HQ0:=hh (EqX.keep (Q':=fun q=>w.heap.size+1<q) heq0 hmn (fun q e=>by subst e; exact ⟨HN.out,fun h=>by have:=ltB HA0.out; omega⟩) (fun q _ h=>by have:=ltB HZ0.out; first|omega|(simp only at h ⊢; omega)) (show 2<=2 by omega))
 have HA1:=hh hAn
 have HZ1:=hh hZn
 have HM1:=hh hMn
 have HPL1:=hh (show (patch cs 0 [.slice xa0 l0 xc0]).length=1 from (patch_length (by rw [show ([.slice xa0 l0 xc0]:List Value).length=1 from rfl,HL.out]; omega)).trans HL.out)
 have HXL0:=hh (show ([.slice xa0 l0 xc0]:List Value).length=1 from rfl)
 have HX10:=hh (show ∀ u∈([.slice xa0 l0 xc0]:List Value),u.oneCell'=true from fun u hu=>by simp at hu; subst hu; rfl)
 have HST:=hh hst
 clear hAx hZx hMx hAn hmn hZn hMn hst heq0 hm0 one0 HCC
 refine ex (v:=.pointer (some ⟨w.heap.size,0,none⟩)) ?_
 refine wpList_execS rfl (exec_store_pt _ _ rfl rfl rfl HST.out) ?_
 (try simp only [Act.put])
 clear HST
 have hld:=load_box HA1.out 69 0 1 _ Tryz.underlying69 rfl zs69 (by rw [HPL1.out]; omega)
 rw [List.drop_zero,List.take_of_length_le (by rw [HPL1.out]; omega)] at hld
 have hon:∀ u∈(patch cs 0 [.slice xa0 l0 xc0]),u.oneCell'=true:=(patch_ones HON.out HX10.out)
 have hst:=run_storeVar_row (P:=Tryz.prog) w2 (w.heap.size+1) 69 69 z (patch cs 0 [.slice xa0 l0 xc0]).toArray HZ1.out (by rw [zs69]; simp [HPL1.out]) (by rw [HZV.out.2]; simp [HPL1.out]) (by rw [List.all_toArray,List.all_eq_true]; exact hon)
 have hR:=setRow_same (cs:=(patch cs 0 [.slice xa0 l0 xc0]).toArray) HZ1.out
 have hmr:Mod (fun q=>q=w.heap.size+1) w2 (w2.setRow (w.heap.size+1) (patch cs 0 [.slice xa0 l0 xc0]).toArray):=Mod_setRow (Mod.refl (fun q=>q=w.heap.size+1) w2) (fun _=>rfl) _
 generalize w2.setRow (w.heap.size+1) (patch cs 0 [.slice xa0 l0 xc0]).toArray=wf at hst hR hmr
 have hmf:Mod N0 w wf:=HM1.out.trans hmr (fun q e hl=>by omega)
 have HQ0:=hh (EqX.keep (Q':=fun q=>w.heap.size<=q) HQ0.out hmr (fun q e=>by subst e; exact ⟨by have:=HN.out; omega,fun h=>by first|omega|(simp only at h; omega)⟩) (fun q _ h=>by first|omega|(simp only at h ⊢; omega)) (Nat.le_refl _))
 have hret:=load_box hR 69 0 1 _ Tryz.underlying69 rfl zs69 (by rw [HPL1.out]; omega)
 rw [List.drop_zero,List.take_of_length_le (by rw [HPL1.out]; omega)] at hret
 have HF:=hh (And.intro hst (And.intro hret (And.intro hmf (And.intro hon hld))))
 clear hst hR hmr hmf hon hld hret
 go_upto_region 2 with fail
 refine wp_region_lit ?_
 refine wx (exec_load_pt _ _ 69 _ rfl ⟨w.heap.size,0,none⟩ rfl HF.out.2.2.2.2) ?_
 refine wpList_execS rfl (exec_store_pt _ _ rfl rfl rfl HF.out.1) ?_
 (try simp only [Act.put])
 go_wp2_with fail
 refine bodyPost_ret (v:=.agg (patch cs 0 [.slice xa0 l0 xc0]).toArray) (resC56 rfl HF.out.2.1) rfl ⟨(patch cs 0 [.slice xa0 l0 xc0]),rfl,HF.out.2.2.2.1,?_,HF.out.2.2.1⟩
 refine Eqv.structI (n:=2) rfl Tryz.underlying69 (by rw [zc69]; exact HL.out) (by rw [zc69]; exact HPL1.out) (fun i f hf=>?_)
 match i,hf with
|0,hf=>
  have e:((patch cs 0 [.slice xa0 l0 xc0]).drop 0).take 1=[.slice xa0 l0 xc0]:=by
   exact patch_same' HXL0.out _ _ (by have:=HL.out; omega)
  exact eqx_put hf 67 0 1 rfl rfl zc67 (by rw [e,take_one HU0.out]; exact HQ0.out)
|i+1,hf=>simp at hf
set_option maxRecDepth 100000 in
set_option maxHeartbeats 1000000 in
theorem copyValue {w0:World} (cs:List Value) (hr:Rd w0 65 cs) (w:World) (hm:Mod N0 w0 w):Calls Tryz.prog 55 #[.agg cs.toArray] w fun e w'=>CpR w0 3 65 w cs e w':=by
 have hl:=hr.len Tryz.underlying65
 rw [zc65] at hl
 obtain ⟨u1,hu1,hru1⟩:=hr.cellAt Tryz.underlying65 1 rfl 63 1 rfl rfl zc63 zc65 (by omega)
 obtain ⟨a1,l1,c1,rfl,_⟩:=id (hru1.slice Tryz.underlying63 zc76 (by omega))
 have HU1:=hh hu1
 have HR1:=hh hru1
 clear hu1 hru1
 obtain ⟨z,hzv,_,hzs⟩:=zi65
 have hA0:((w.alloc (.cells cs.toArray 65)).alloc (.cells z 65)).heap[w.heap.size]?=some (.cells cs.toArray 65 (0,0)):=allocB (newB w _) _
 have hZ0:((w.alloc (.cells cs.toArray 65)).alloc (.cells z 65)).heap[w.heap.size+1]?=some (.cells z 65 (0,0)):=by
  have:=newB (w.alloc (.cells cs.toArray 65)) (.cells z 65); rwa [World.size_alloc] at this
 have hM0:Mod N0 w ((w.alloc (.cells cs.toArray 65)).alloc (.cells z 65)):=((Mod.refl _ w).alloc _).alloc _
 have HZV:=hh (And.intro hzv hzs)
 have HL:=hh hl
 have HM:=hh hm
 have HON:=hh (ones65 hr)
 have HN:=hh hm.size
 clear hzv hzs hl hm hr
 go_enter Tryz.func55,Tryz.ntmps55
 go_upto_region 0 with fail
 refine wp_region_lit ?_
 refine ww (exec_box _ _ 65 cs rfl rfl) ?_
 refine ww (exec_alloc _ _ 65 z rfl HZV.out.1) ?_
 rw [World.size_alloc]
 generalize (w.alloc (.cells cs.toArray 65)).alloc (.cells z 65)=w1 at hA0 hZ0 hM0 ⊢
 have HA0:=hh hA0
 have HZ0:=hh hZ0
 have HM0:=hh hM0
 clear hA0 hZ0 hM0
 go_upto_region 1 with fail
 refine wp_region_lit ?_
 refine ex (v:=.pointer (some ⟨w.heap.size,1,none⟩)) ?_
 have hsub:(cs.drop 1).take 1=(cs.drop 1).take 1:=by
  rfl
 have hc:cs[1]?=some (.slice a1 l1 c1):=flat_cell hsub HU1.out
 have s:w1.cell? ⟨w.heap.size,1,none⟩=some (.slice a1 l1 c1):=(cellB HA0.out 1).trans (by rw [List.getElem?_toArray]; exact hc)
 refine ex (v:=.slice a1 l1 c1) ?_
 clear s hc
 clear hsub
 have HCC:=hh (copyAssets (.slice a1 l1 c1) HR1.out w1 (HM.out.tr HM0.out))
 go_wp2_with fail
 refine HCC.out.mono ?_
 rintro e w1x ⟨x1,rfl,one1,heq1,hm1⟩
 rename_i hK
 refine hK _ _ ?_
 clear hK
 (try simp only [Act.put,ja,jb,jc])
 obtain ⟨_,_,sa,xa1,sl,sc,xc1,hsl,rfl,_⟩:=id (heq1.slice rfl Tryz.underlying63 zc76)
 simp only [Value.slice.injEq] at hsl
 obtain ⟨hsa,rfl,hsc⟩:=hsl
 clear hsa hsc
 have hAx:=(hm1.block _ (ltB HA0.out) (fun q=>q)).trans HA0.out
 have hZx:=(hm1.block _ (ltB HZ0.out) (fun q=>q)).trans HZ0.out
 have hMx:=HM0.out.tr hm1
 have hst:=store_slice63 (w:=w1x) (a:=xa1) (n:=l1) (c:=xc1) ((cellB hAx 1).trans (by rw [List.getElem?_toArray]; exact List.getElem?_eq_getElem (by rw [HL.out]; omega))) (frozB hAx 1)
 have hAn:=setCell_box hAx 1 (.slice xa1 l1 xc1) (by rw [HL.out]; omega)
 have hmn:Mod (fun q=>q=w.heap.size) w1x (w1x.setCell ⟨w.heap.size,1,none⟩ (.slice xa1 l1 xc1)):=(Mod.refl (fun q=>q=w.heap.size) w1x).setCell (p:=⟨w.heap.size,1,none⟩) (fun _=>rfl) _
 generalize (w1x.setCell ⟨w.heap.size,1,none⟩ (.slice xa1 l1 xc1))=w2 at hst hAn hmn
 have hZn:=(hmn.block _ (ltB hZx) (fun q=>by omega)).trans hZx
 have hMn:Mod N0 w w2:=hMx.trans hmn (fun q e hl=>by omega)
 have HQ1:=hh (EqX.keep (Q':=fun q=>w.heap.size+1<q) heq1 hmn (fun q e=>by subst e; exact ⟨HN.out,fun h=>by have:=ltB HA0.out; omega⟩) (fun q _ h=>by have:=ltB HZ0.out; first|omega|(simp only at h ⊢; omega)) (show 2<=2 by omega))
 have HA1:=hh hAn
 have HZ1:=hh hZn
 have HM1:=hh hMn
 have HPL1:=hh (show (patch cs 1 [.slice xa1 l1 xc1]).length=2 from (patch_length (by rw [show ([.slice xa1 l1 xc1]:List Value).length=1 from rfl,HL.out]; omega)).trans HL.out)
 have HXL1:=hh (show ([.slice xa1 l1 xc1]:List Value).length=1 from rfl)
 have HX11:=hh (show ∀ u∈([.slice xa1 l1 xc1]:List Value),u.oneCell'=true from fun u hu=>by simp at hu; subst hu; rfl)
 have HST:=hh hst
 clear hAx hZx hMx hAn hmn hZn hMn hst heq1 hm1 one1 HCC
 refine ex (v:=.pointer (some ⟨w.heap.size,1,none⟩)) ?_
 refine wpList_execS rfl (exec_store_pt _ _ rfl rfl rfl HST.out) ?_
 (try simp only [Act.put])
 clear HST
 have hld:=load_box HA1.out 65 0 2 _ Tryz.underlying65 rfl zs65 (by rw [HPL1.out]; omega)
 rw [List.drop_zero,List.take_of_length_le (by rw [HPL1.out]; omega)] at hld
 have hon:∀ u∈(patch cs 1 [.slice xa1 l1 xc1]),u.oneCell'=true:=(patch_ones HON.out HX11.out)
 have hst:=run_storeVar_row (P:=Tryz.prog) w2 (w.heap.size+1) 65 65 z (patch cs 1 [.slice xa1 l1 xc1]).toArray HZ1.out (by rw [zs65]; simp [HPL1.out]) (by rw [HZV.out.2]; simp [HPL1.out]) (by rw [List.all_toArray,List.all_eq_true]; exact hon)
 have hR:=setRow_same (cs:=(patch cs 1 [.slice xa1 l1 xc1]).toArray) HZ1.out
 have hmr:Mod (fun q=>q=w.heap.size+1) w2 (w2.setRow (w.heap.size+1) (patch cs 1 [.slice xa1 l1 xc1]).toArray):=Mod_setRow (Mod.refl (fun q=>q=w.heap.size+1) w2) (fun _=>rfl) _
 generalize w2.setRow (w.heap.size+1) (patch cs 1 [.slice xa1 l1 xc1]).toArray=wf at hst hR hmr
 have hmf:Mod N0 w wf:=HM1.out.trans hmr (fun q e hl=>by omega)
 have HQ1:=hh (EqX.keep (Q':=fun q=>w.heap.size<=q) HQ1.out hmr (fun q e=>by subst e; exact ⟨by have:=HN.out; omega,fun h=>by first|omega|(simp only at h; omega)⟩) (fun q _ h=>by first|omega|(simp only at h ⊢; omega)) (Nat.le_refl _))
 have hret:=load_box hR 65 0 2 _ Tryz.underlying65 rfl zs65 (by rw [HPL1.out]; omega)
 rw [List.drop_zero,List.take_of_length_le (by rw [HPL1.out]; omega)] at hret
 have HF:=hh (And.intro hst (And.intro hret (And.intro hmf (And.intro hon hld))))
 clear hst hR hmr hmf hon hld hret
 go_upto_region 2 with fail
 refine wp_region_lit ?_
 refine wx (exec_load_pt _ _ 65 _ rfl ⟨w.heap.size,0,none⟩ rfl HF.out.2.2.2.2) ?_
 refine wpList_execS rfl (exec_store_pt _ _ rfl rfl rfl HF.out.1) ?_
 (try simp only [Act.put])
 go_wp2_with fail
 refine bodyPost_ret (v:=.agg (patch cs 1 [.slice xa1 l1 xc1]).toArray) (resC55 rfl HF.out.2.1) rfl ⟨(patch cs 1 [.slice xa1 l1 xc1]),rfl,HF.out.2.2.2.1,?_,HF.out.2.2.1⟩
 refine Eqv.structI (n:=2) rfl Tryz.underlying65 (by rw [zc65]; exact HL.out) (by rw [zc65]; exact HPL1.out) (fun i f hf=>?_)
 match i,hf with
|0,hf=>
  have e:((patch cs 1 [.slice xa1 l1 xc1]).drop 0).take 1=(cs.drop 0).take 1:=by
   have hh:=HL.out; have hh1:=HPL1.out
   rw [patch_apart _ _ _ _ _ (by rw [HXL1.out]; omega)]
  exact eqx_put hf 2 0 1 rfl rfl zc2 (by rw [e]; exact Eqv.flatI 1 rfl)
|1,hf=>
  have e:((patch cs 1 [.slice xa1 l1 xc1]).drop 1).take 1=[.slice xa1 l1 xc1]:=by
   exact patch_same' HXL1.out _ _ (by have:=HL.out; omega)
  exact eqx_put hf 63 1 1 rfl rfl zc63 (by rw [e,take_one HU1.out]; exact HQ1.out)
|i+2,hf=>simp at hf
set_option maxRecDepth 100000 in
set_option maxHeartbeats 1000000 in
theorem copyOutput {w0:World} (cs:List Value) (hr:Rd w0 71 cs) (w:World) (hm:Mod N0 w0 w):Calls Tryz.prog 29 #[.agg cs.toArray] w fun e w'=>CpR w0 4 71 w cs e w':=by
 have hl:=hr.len Tryz.underlying71
 rw [zc71] at hl
 have HR1:=hh (hr.fieldAt Tryz.underlying71 1 rfl 65 33 2 rfl rfl zc65)
 have HR4:=hh (hr.fieldAt Tryz.underlying71 4 rfl 69 68 1 rfl rfl zc69)
 obtain ⟨z,hzv,_,hzs⟩:=zi71
 have hA0:((w.alloc (.cells cs.toArray 71)).alloc (.cells z 71)).heap[w.heap.size]?=some (.cells cs.toArray 71 (0,0)):=allocB (newB w _) _
 have hZ0:((w.alloc (.cells cs.toArray 71)).alloc (.cells z 71)).heap[w.heap.size+1]?=some (.cells z 71 (0,0)):=by
  have:=newB (w.alloc (.cells cs.toArray 71)) (.cells z 71); rwa [World.size_alloc] at this
 have hM0:Mod N0 w ((w.alloc (.cells cs.toArray 71)).alloc (.cells z 71)):=((Mod.refl _ w).alloc _).alloc _
 have HZV:=hh (And.intro hzv hzs)
 have HL:=hh hl
 have HM:=hh hm
 have HON:=hh (ones71 hr)
 have HN:=hh hm.size
 clear hzv hzs hl hm hr
 go_enter Tryz.func29,Tryz.ntmps29
 go_upto_region 0 with fail
 refine wp_region_lit ?_
 refine ww (exec_box _ _ 71 cs rfl rfl) ?_
 refine ww (exec_alloc _ _ 71 z rfl HZV.out.1) ?_
 rw [World.size_alloc]
 generalize (w.alloc (.cells cs.toArray 71)).alloc (.cells z 71)=w1 at hA0 hZ0 hM0 ⊢
 have HA0:=hh hA0
 have HZ0:=hh hZ0
 have HM0:=hh hM0
 clear hA0 hZ0 hM0
 go_upto_region 1 with fail
 refine wp_region_lit ?_
 refine ex (v:=.pointer (some ⟨w.heap.size,33,none⟩)) ?_
 have hsub:(cs.drop 33).take 2=(cs.drop 33).take 2:=by
  rfl
 have hld:=load_box HA0.out 65 33 2 _ Tryz.underlying65 rfl zs65 (by have:=HL.out; omega)
 rw [hsub] at hld
 refine wx (exec_load_pt _ _ 65 _ rfl ⟨w.heap.size,33,none⟩ rfl hld) ?_
 clear hld
 clear hsub
 have HCC:=hh (copyValue ((cs.drop 33).take 2) HR1.out w1 (HM.out.tr HM0.out))
 go_wp2_with fail
 refine HCC.out.mono ?_
 rintro e w1x ⟨x1,rfl,one1,heq1,hm1⟩
 rename_i hK
 refine hK _ _ ?_
 clear hK
 (try simp only [Act.put,ja,jb,jc])
 have hxl:x1.length=2:=by
  obtain ⟨_,_,_,h,_⟩:=heq1.struct rfl Tryz.underlying65
  rw [h,zc65]
 have hAx:=(hm1.block _ (ltB HA0.out) (fun q=>q)).trans HA0.out
 have hZx:=(hm1.block _ (ltB HZ0.out) (fun q=>q)).trans HZ0.out
 have hMx:=HM0.out.tr hm1
 have hst:=run_storeVar_mid (P:=Tryz.prog) w1x w.heap.size 33 65 x1.toArray (there_box hAx (by simp only [List.size_toArray]; rw [hxl,HL.out]; omega)) (by rw [zs65]; simp [hxl]) (by rw [List.all_toArray,List.all_eq_true]; exact one1)
 have hAn:=setCells_box x1 w1x cs 33 hAx (by rw [hxl,HL.out]; omega)
 have hmn:=setCells_mod w1x w.heap.size x1 33
 have hst:(storeVar 65 ⟨w.heap.size,33,none⟩ (.agg x1.toArray)).run Tryz.prog w1x=.ok () (w1x.setCells w.heap.size 33 x1):=by simpa using hst
 generalize (w1x.setCells w.heap.size 33 x1)=w2 at hst hAn hmn
 have hZn:=(hmn.block _ (ltB hZx) (fun q=>by omega)).trans hZx
 have hMn:Mod N0 w w2:=hMx.trans hmn (fun q e hl=>by omega)
 have HQ1:=hh (EqX.keep (Q':=fun q=>w.heap.size+1<q) heq1 hmn (fun q e=>by subst e; exact ⟨HN.out,fun h=>by have:=ltB HA0.out; omega⟩) (fun q _ h=>by have:=ltB HZ0.out; first|omega|(simp only at h ⊢; omega)) (show 3<=3 by omega))
 have HA1:=hh hAn
 have HZ1:=hh hZn
 have HM1:=hh hMn
 have HPL1:=hh (show (patch cs 33 x1).length=69 from (patch_length (by rw [hxl,HL.out]; omega)).trans HL.out)
 have HXL1:=hh (show (x1:List Value).length=2 from hxl)
 have HX11:=hh (show ∀ u∈(x1:List Value),u.oneCell'=true from one1)
 have HST:=hh hst
 clear hAx hZx hMx hAn hmn hZn hMn hst heq1 hm1 one1 HCC hxl
 refine ex (v:=.pointer (some ⟨w.heap.size,33,none⟩)) ?_
 refine wpList_execS rfl (exec_store_pt _ _ rfl rfl rfl HST.out) ?_
 (try simp only [Act.put])
 clear HST
 go_upto_region 2 with fail
 refine wp_region_lit ?_
 refine ex (v:=.pointer (some ⟨w.heap.size,68,none⟩)) ?_
 have hsub:((patch cs 33 x1).drop 68).take 1=(cs.drop 68).take 1:=by
  have hh:=HL.out; have hh1:=HPL1.out
  rw [patch_apart _ _ _ _ _ (by rw [HXL1.out]; omega)]
 have hld:=load_box HA1.out 69 68 1 _ Tryz.underlying69 rfl zs69 (by have:=HL.out; have:=HPL1.out; omega)
 rw [hsub] at hld
 refine wx (exec_load_pt _ _ 69 _ rfl ⟨w.heap.size,68,none⟩ rfl hld) ?_
 clear hld
 clear hsub
 have HCC:=hh (copyTerm ((cs.drop 68).take 1) HR4.out w2 (HM.out.tr HM1.out))
 go_wp2_with fail
 refine HCC.out.mono ?_
 rintro e w2x ⟨x4,rfl,one4,heq4,hm4⟩
 rename_i hK
 refine hK _ _ ?_
 clear hK
 (try simp only [Act.put,ja,jb,jc])
 have hxl:x4.length=1:=by
  obtain ⟨_,_,_,h,_⟩:=heq4.struct rfl Tryz.underlying69
  rw [h,zc69]
 have hAx:=(hm4.block _ (ltB HA1.out) (fun q=>q)).trans HA1.out
 have hZx:=(hm4.block _ (ltB HZ1.out) (fun q=>q)).trans HZ1.out
 have hMx:=HM1.out.tr hm4
 have hst:=run_storeVar_mid (P:=Tryz.prog) w2x w.heap.size 68 69 x4.toArray (there_box hAx (by simp only [List.size_toArray]; rw [hxl,HPL1.out]; omega)) (by rw [zs69]; simp [hxl]) (by rw [List.all_toArray,List.all_eq_true]; exact one4)
 have hAn:=setCells_box x4 w2x (patch cs 33 x1) 68 hAx (by rw [hxl,HPL1.out]; omega)
 have hmn:=setCells_mod w2x w.heap.size x4 68
 have hst:(storeVar 69 ⟨w.heap.size,68,none⟩ (.agg x4.toArray)).run Tryz.prog w2x=.ok () (w2x.setCells w.heap.size 68 x4):=by simpa using hst
 generalize (w2x.setCells w.heap.size 68 x4)=w3 at hst hAn hmn
 have hZn:=(hmn.block _ (ltB hZx) (fun q=>by omega)).trans hZx
 have hMn:Mod N0 w w3:=hMx.trans hmn (fun q e hl=>by omega)
 have HQ1:=hh (EqX.keep (EqX.keep HQ1.out hm4 (fun q e=>e.elim) (fun q _ h=>h) (Nat.le_refl _)) hmn (fun q e=>by subst e; exact ⟨HN.out,fun h=>by first|omega|(simp only at h; omega)⟩) (fun q _ h=>h) (Nat.le_refl _))
 have HQ4:=hh (EqX.keep (Q':=fun q=>w.heap.size+1<q) heq4 hmn (fun q e=>by subst e; exact ⟨HN.out,fun h=>by have:=ltB HA1.out; omega⟩) (fun q _ h=>by have:=ltB HZ1.out; first|omega|(simp only at h ⊢; omega)) (show 3<=3 by omega))
 have HA2:=hh hAn
 have HZ2:=hh hZn
 have HM2:=hh hMn
 have HPL2:=hh (show (patch (patch cs 33 x1) 68 x4).length=69 from (patch_length (by rw [hxl,HPL1.out]; omega)).trans HPL1.out)
 have HXL4:=hh (show (x4:List Value).length=1 from hxl)
 have HX14:=hh (show ∀ u∈(x4:List Value),u.oneCell'=true from one4)
 have HST:=hh hst
 clear hAx hZx hMx hAn hmn hZn hMn hst heq4 hm4 one4 HCC hxl
 refine ex (v:=.pointer (some ⟨w.heap.size,68,none⟩)) ?_
 refine wpList_execS rfl (exec_store_pt _ _ rfl rfl rfl HST.out) ?_
 (try simp only [Act.put])
 clear HST
 have hld:=load_box HA2.out 71 0 69 _ Tryz.underlying71 rfl zs71 (by rw [HPL2.out]; omega)
 rw [List.drop_zero,List.take_of_length_le (by rw [HPL2.out]; omega)] at hld
 have hon:∀ u∈(patch (patch cs 33 x1) 68 x4),u.oneCell'=true:=(patch_ones (patch_ones HON.out HX11.out) HX14.out)
 have hst:=run_storeVar_row (P:=Tryz.prog) w3 (w.heap.size+1) 71 71 z (patch (patch cs 33 x1) 68 x4).toArray HZ2.out (by rw [zs71]; simp [HPL2.out]) (by rw [HZV.out.2]; simp [HPL2.out]) (by rw [List.all_toArray,List.all_eq_true]; exact hon)
 have hR:=setRow_same (cs:=(patch (patch cs 33 x1) 68 x4).toArray) HZ2.out
 have hmr:Mod (fun q=>q=w.heap.size+1) w3 (w3.setRow (w.heap.size+1) (patch (patch cs 33 x1) 68 x4).toArray):=Mod_setRow (Mod.refl (fun q=>q=w.heap.size+1) w3) (fun _=>rfl) _
 generalize w3.setRow (w.heap.size+1) (patch (patch cs 33 x1) 68 x4).toArray=wf at hst hR hmr
 have hmf:Mod N0 w wf:=HM2.out.trans hmr (fun q e hl=>by omega)
 have HQ1:=hh (EqX.keep (Q':=fun q=>w.heap.size<=q) HQ1.out hmr (fun q e=>by subst e; exact ⟨by have:=HN.out; omega,fun h=>by first|omega|(simp only at h; omega)⟩) (fun q _ h=>by first|omega|(simp only at h ⊢; omega)) (Nat.le_refl _))
 have HQ4:=hh (EqX.keep (Q':=fun q=>w.heap.size<=q) HQ4.out hmr (fun q e=>by subst e; exact ⟨by have:=HN.out; omega,fun h=>by first|omega|(simp only at h; omega)⟩) (fun q _ h=>by first|omega|(simp only at h ⊢; omega)) (Nat.le_refl _))
 have hret:=load_box hR 71 0 69 _ Tryz.underlying71 rfl zs71 (by rw [HPL2.out]; omega)
 rw [List.drop_zero,List.take_of_length_le (by rw [HPL2.out]; omega)] at hret
 have HF:=hh (And.intro hst (And.intro hret (And.intro hmf (And.intro hon hld))))
 clear hst hR hmr hmf hon hld hret
 go_upto_region 3 with fail
 refine wp_region_lit ?_
 refine wx (exec_load_pt _ _ 71 _ rfl ⟨w.heap.size,0,none⟩ rfl HF.out.2.2.2.2) ?_
 refine wpList_execS rfl (exec_store_pt _ _ rfl rfl rfl HF.out.1) ?_
 (try simp only [Act.put])
 go_wp2_with fail
 refine bodyPost_ret (v:=.agg (patch (patch cs 33 x1) 68 x4).toArray) (resC29 rfl HF.out.2.1) rfl ⟨(patch (patch cs 33 x1) 68 x4),rfl,HF.out.2.2.2.1,?_,HF.out.2.2.1⟩
 refine Eqv.structI (n:=3) rfl Tryz.underlying71 (by rw [zc71]; exact HL.out) (by rw [zc71]; exact HPL2.out) (fun i f hf=>?_)
 match i,hf with
|0,hf=>
  have e:((patch (patch cs 33 x1) 68 x4).drop 0).take 33=(cs.drop 0).take 33:=by
   have hh:=HL.out; have hh1:=HPL1.out; have hh2:=HPL2.out
   rw [patch_apart _ _ _ _ _ (by rw [HXL4.out]; omega)]
   rw [patch_apart _ _ _ _ _ (by rw [HXL1.out]; omega)]
  exact eqx_put hf 41 0 33 rfl rfl zc41 (by rw [e]; exact Eqv.flatI 2 rfl)
|1,hf=>
  have e:((patch (patch cs 33 x1) 68 x4).drop 33).take 2=x1:=by
   have hh:=HL.out; have hh1:=HPL1.out; have hh2:=HPL2.out
   rw [patch_apart _ _ _ _ _ (by rw [HXL4.out]; omega)]
   exact patch_same' HXL1.out _ _ (by have:=HL.out; omega)
  exact eqx_put hf 65 33 2 rfl rfl zc65 (by rw [e]; exact HQ1.out)
|2,hf=>
  have e:((patch (patch cs 33 x1) 68 x4).drop 35).take 1=(cs.drop 35).take 1:=by
   have hh:=HL.out; have hh1:=HPL1.out; have hh2:=HPL2.out
   rw [patch_apart _ _ _ _ _ (by rw [HXL4.out]; omega)]
   rw [patch_apart _ _ _ _ _ (by rw [HXL1.out]; omega)]
  exact eqx_put hf 66 35 1 rfl rfl zc66 (by rw [e]; exact Eqv.flatI 2 rfl)
|3,hf=>
  have e:((patch (patch cs 33 x1) 68 x4).drop 36).take 32=(cs.drop 36).take 32:=by
   have hh:=HL.out; have hh1:=HPL1.out; have hh2:=HPL2.out
   rw [patch_apart _ _ _ _ _ (by rw [HXL4.out]; omega)]
   rw [patch_apart _ _ _ _ _ (by rw [HXL1.out]; omega)]
  exact eqx_put hf 27 36 32 rfl rfl zc27 (by rw [e]; exact Eqv.flatI 2 rfl)
|4,hf=>
  have e:((patch (patch cs 33 x1) 68 x4).drop 68).take 1=x4:=by
   exact patch_same' HXL4.out _ _ (by have:=HL.out; have:=HPL1.out; omega)
  exact eqx_put hf 69 68 1 rfl rfl zc69 (by rw [e]; exact HQ4.out)
|i+5,hf=>simp at hf
end Go.Proofs.YtckcamlicgdklaaGreat
