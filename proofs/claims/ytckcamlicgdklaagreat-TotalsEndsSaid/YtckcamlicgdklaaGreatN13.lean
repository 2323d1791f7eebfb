/- Equality of two totals. SameTotals. slices.Equal at totals. -/
import Derived.Test.YtckcamlicgdklaaGreatN12
namespace Go.Proofs.YtckcamlicgdklaaGreat
open Go.RowKit Go.Mo Go.Sort
theorem Tryz.c88:Tryz.prog.cellsOf 78=35:=by kernel_rfl
theorem Tryz.c57:Tryz.prog.cellsOf 48=2:=by kernel_rfl
theorem Tryz.k88:Tryz.prog.keyTypeAt 4 78=true:=by kernel_rfl
def totLits (x:Nm×Int):List Lit:=x.1.policy.map lit8 ++ [.string x.1.name,.int .i64 (hiW x.2),.int .u64 (loW x.2)]
theorem keyLits_int {P:Program} {D:Nat} {t:TypeId} {k:IntKind} {n:Int} (hu:P.underlying t=some (.int k)) (hw:(Lit.int k n).wf=true):P.keyLits (D+1) t [.int k n]=some [.int k n]:=by
 unfold Program.keyLits
 simp only [hu,hw,and_self,if_true]
theorem wf_hi (z:Int):(Lit.int .i64 (hiW z)).wf=true:=wrap64_wf _
theorem wf_lo (z:Int):(Lit.int .u64 (loW z)).wf=true:=by
 simp only [Lit.wf,IntKind.min,IntKind.max,IntKind.signed,IntKind.bits,loW,Bool.and_eq_true]
 simp
 omega
theorem keyLits_wide (D:Nat) (z:Int):Tryz.prog.keyLits (D+2) 48 [.int .i64 (hiW z),.int .u64 (loW z)]=some [.int .i64 (hiW z),.int .u64 (loW z)]:=by
 rw [keyLits_struct Tryz.underlying48 (by rw [Tryz.c57]; rfl) (by simp)]
 have c2:Tryz.prog.cellsOf 2=1:=by kernel_rfl
 have c30:Tryz.prog.cellsOf 30=1:=by kernel_rfl
 simp [c2,c30,keyLits_int Tryz.underlying2 (wf_hi z),keyLits_int Tryz.underlying30 (wf_lo z)]
theorem keyLits_tot (D:Nat) (x:Nm×Int):Tryz.prog.keyLits (D+3) 78 (totCells x)=some (totLits x):=by
 obtain ⟨a,z⟩:=x
 have hl:=a.len
 have hs:=a.size
 have hm:(a.policy.map by8).length=32:=by rw [List.length_map,hl]
 rw [keyLits_struct Tryz.underlying78 (by rw [Tryz.c88]; simp [totCells,nmCells,hl]) (by simp)]
 have h1:((totCells (a,z)).drop 0).take (Tryz.prog.cellsOf 27)=a.policy.map by8:=by
  rw [Tryz.c27,List.drop_zero,totCells,nmCells,List.append_assoc,List.take_append_of_le_length (by simp [hl]),List.take_of_length_le (by simp [hl])]
 have h2:((totCells (a,z)).drop 32).take (Tryz.prog.cellsOf 9)=[.string ⟨a.name.toArray⟩]:=by
  rw [Tryz.c9,totCells,nmCells,List.append_assoc,List.drop_append_of_le_length (by simp [hl]),List.drop_of_length_le (by simp [hl])]; rfl
 have h3:((totCells (a,z)).drop 33).take (Tryz.prog.cellsOf 48)=[.int .i64 (hiW z),.int .u64 (loW z)]:=by
  rw [Tryz.c57,totCells,List.drop_append_of_le_length (by simp [nmCells,hl]),List.drop_of_length_le (by simp [nmCells,hl])]; rfl
 simp only [List.mapM_cons,List.mapM_nil,h1,h2,h3,keyLits_policy D a.policy hl,keyLits_wide,keyLits_string (s:=⟨a.name.toArray⟩) Tryz.underlying9 (by simpa [ByteArray.size] using hs)]
 simp [totLits]
theorem tot_formed (x:Nm×Int):(Value.agg (totCells x).toArray).formed Tryz.prog 78=true:=by
 have:=x.1.len
 simp [Value.formed,Tryz.underlying78,Tryz.c88,totCells,nmCells,this]
/-- A total as it is written. -/
def tN (x:Nm×Int):Nm×Int×Int:=(x.1,hiW x.2,loW x.2)
theorem tot_lits (x y:Nm×Int):totLits x=totLits y ↔ tN x=tN y:=by
 unfold totLits tN
 constructor
 ·intro h
  have hl:(x.1.policy.map lit8).length=(y.1.policy.map lit8).length:=by rw [List.length_map,List.length_map,x.1.len,y.1.len]
  obtain ⟨h1,h2⟩:=List.append_inj h hl
  simp only [List.cons.injEq,Lit.string.injEq,Lit.int.injEq,true_and,and_true] at h2
  have hn:x.1=y.1:=(nm_lits x.1 y.1).1 (by rw [h1,h2.1])
  rw [hn,h2.2.1,h2.2.2]
 ·intro h
  simp only [Prod.mk.injEq] at h
  rw [h.1,h.2.1,h.2.2]
theorem tot_eq (x y:Nm×Int) (w:World):(Op.equal 78 (.agg (totCells x).toArray) (.agg (totCells y).toArray)).run Tryz.prog w=.ok (decide (tN x=tN y)) w:=by
 obtain ⟨r,hr,hiff⟩:=run_equalIn_deep (P:=Tryz.prog) 9996 4 78 Tryz.k88 w 3 3 _ _ _ _ (tot_formed x) (tot_formed y) (by simpa [Value.cells] using keyLits_tot 0 x) (by simpa [Value.cells] using keyLits_tot 0 y)
 rw [tot_lits] at hiff
 have:r=decide (tN x=tN y):=by
  cases r with
 |true=>simp [hiff.1 rfl]
 |false=>
   have:¬ tN x=tN y:=fun e=>by have:=hiff.2 e; cases this
   simp [this]
 rw [← this]
 exact hr
theorem exec_neq88 (act:Act) (o:Oper) {w:World} {a b:Operand} {R:TypeId} (ho:o.op=.binOp .neq 78 a b R) (x y:Nm×Int) (hx:act.eval a=.agg (totCells x).toArray) (hy:act.eval b=.agg (totCells y).toArray):(execOp act.eval o).run Tryz.prog w=.ok (.value (.bool (!decide (tN x=tN y)))) w:=by
 have h:=tot_eq x y w
 unfold execOp
 simp only [ho,hx,hy,Sem.run_bind,Sem.run_pure]
 have hgt:Tryz.prog.eqGuardType Tryz.prog.depth 78=false:=by kernel_rfl
 have hg:(eqGuard .neq 78 a b (.agg (totCells x).toArray) (.agg (totCells y).toArray)).run Tryz.prog w=.ok () w:=by
  unfold eqGuard
  simp [hgt]
 have hb:(binOp .neq 78 (.agg (totCells x).toArray) (.agg (totCells y).toArray)).run Tryz.prog w=.ok (.bool (!decide (tN x=tN y))) w:=by
  unfold binOp
  simp [h]
 rw [hg]
 simp only [Result.andThen_ok,hb]
end Go.Proofs.YtckcamlicgdklaaGreat
namespace Go.Proofs.YtckcamlicgdklaaGreat
open Go.RowKit Go.Mo Go.Sort
/-- v is a slice of the totals ds. -/
def TotsAt (w:World) (v:Value) (ds:List (Nm×Int)):Prop:=
 ∃ a c,v=.slice a ds.length c/\(a=none->c=0)/\ds.length<=1000000/\∀ i x,ds[i]?=some x->∃ L off,a=some ⟨L,off,none⟩/\L<w.heap.size/\∀ j u,(totCells x)[j]?=some u->w.cell? ⟨L,off+i * 35+j,none⟩=some u
theorem TotsAt.tr {w w':World} {v:Value} {ds:List (Nm×Int)} (h:TotsAt w v ds) (hm:Mod N0 w w'):TotsAt w' v ds:=by
 obtain ⟨a,c,rfl,hac,hl,h⟩:=h
 refine ⟨a,c,rfl,hac,hl,fun i x hx=>?_⟩
 obtain ⟨L,off,rfl,hL,h2⟩:=h i x hx
 exact ⟨L,off,rfl,Nat.lt_of_lt_of_le hL hm.size,fun j u hu=>(hm.cell (p:=⟨L,_,none⟩) hL (fun q=>q)).trans (h2 j u hu)⟩
theorem tots_at {w:World} {v:Value} {ds:List (Nm×Int)} (h:w.ownsRow 0 78 35 v ds.length (totsCells ds)) (hl:ds.length<=1000000):TotsAt w v ds:=by
 obtain ⟨_,⟨rfl,h0⟩|⟨g,cap,cur,rfl,_,hg,hc,_,hcs,ht⟩⟩:=h
 ·have:ds=[]:=List.eq_nil_of_length_eq_zero h0
  subst this
  exact ⟨none,0,rfl,fun _=>rfl,hl,fun i x hx=>by simp at hx⟩
 ·refine ⟨some ⟨g,0,none⟩,cap,rfl,(fun q=>by cases q),hl,fun i x hx=>⟨g,0,rfl,ltB hg,fun j u hu=>?_⟩⟩
  have hi:i<ds.length:=(List.getElem?_eq_some_iff.1 hx).1
  have hj:j<35:=by have:=(List.getElem?_eq_some_iff.1 hu).1; rwa [totCells_length] at this
  have hlt:i * 35+j<ds.length * 35:=by omega
  rw [Nat.zero_add,cellB hg]
  have e:=tots_get ds (i * 35+j) hlt
  rw [← ht,List.getElem?_take,if_pos hlt,Array.getElem?_toList] at e
  rw [e]
  have e1:(i * 35+j) / 35=i:=by omega
  have e2:(i * 35+j) % 35=j:=by omega
  rw [e1,e2]
  have hx':ds[i]! = x:=by rw [getElem!_pos ds i hi]; exact (List.getElem?_eq_some_iff.1 hx).2
  rw [hx']
  have hjl:j<(totCells x).length:=by rw [totCells_length]; exact hj
  rw [getElem!_pos _ j hjl,← hu,List.getElem?_eq_getElem hjl]
theorem load88_at {w:World} {L o:Nat} {x:Nm×Int} (h:∀ j u,(totCells x)[j]?=some u->w.cell? ⟨L,o+j,none⟩=some u):(loadVar 78 ⟨L,o,none⟩).run Tryz.prog w=.ok (.agg (totCells x).toArray) w:=
 run_loadVar_mid w L o 78 (totCells x) _ h Tryz.underlying78 rfl (by obtain ⟨i,hi,_,hs,_⟩:=info_parts info88; rw [hi,totCells_length]; simp [hs])
theorem map_take_succ {d1 d2:List (Nm×Int)} {k:Nat} {x y:Nm×Int} (hx:d1[k]?=some x) (hy:d2[k]?=some y) (h:(d1.take k).map tN=(d2.take k).map tN) (e:tN x=tN y):(d1.take (k+1)).map tN=(d2.take (k+1)).map tN:=by
 rw [List.take_add_one,List.take_add_one,hx,hy,List.map_append,List.map_append,h]
 simp [e]
theorem map_ne {d1 d2:List (Nm×Int)} {k:Nat} {x y:Nm×Int} (hx:d1[k]?=some x) (hy:d2[k]?=some y) (e:¬ tN x=tN y):¬ d1.map tN=d2.map tN:=fun h=>by
 have h1:(d1.map tN)[k]?=some (tN x):=by rw [List.getElem?_map,hx]; rfl
 have h2:(d2.map tN)[k]?=some (tN y):=by rw [List.getElem?_map,hy]; rfl
 rw [h,h2] at h1
 exact e (Option.some.inj h1).symm
set_option maxRecDepth 100000 in
set_option maxHeartbeats 4000000 in
theorem same_calls (w:World) (v1 v2:Value) (d1 d2:List (Nm×Int)) (h1:TotsAt w v1 d1) (h2:TotsAt w v2 d2) :
  Calls Tryz.prog 13 #[v1,v2] w fun e w'=>e=.returned (.bool (decide (d1.map tN=d2.map tN)))/\Mod N0 w w':=by
 obtain ⟨a1,c1,rfl,_,hl1,h1⟩:=h1
 obtain ⟨a2,c2,rfl,_,hl2,h2⟩:=h2
 have HE:=hh (And.intro h1 h2)
 clear h1 h2
 by_cases hlen:d1.length=d2.length
 ·have hb:((d1.length:Int) != (d2.length:Int))=false:=by simp [hlen]
  have HLEN:=hh hlen
  clear hlen
  go_enter Tryz.func13,Tryz.ntmps13
  go_wp2_with fail
  go_loopw [5] (fun i wr=>∃ k:Nat,k<=d1.length/\i=.int .i64 k/\(d1.take k).map tN=(d2.take k).map tN/\Mod N0 w wr) (fun i _=>d1.length - (intOf i).toNat)
  case atStart=>exact ⟨0,by omega,rfl,rfl,Mod.refl _ w⟩
  case round=>
   obtain ⟨k,hk,rfl,heq,hm⟩:=hrel
   by_cases hlt:k<d1.length
   ·obtain ⟨x,hx⟩:∃ x,d1[k]?=some x:=⟨_,List.getElem?_eq_getElem hlt⟩
    have hlt2:k<d2.length:=by have:=HLEN.out; omega
    obtain ⟨y,hy⟩:∃ y,d2[k]?=some y:=⟨_,List.getElem?_eq_getElem hlt2⟩
    obtain ⟨L1,o1,rfl,hL1,hc1⟩:=HE.out.1 k x hx
    obtain ⟨L2,o2,rfl,hL2,hc2⟩:=HE.out.2 k y hy
    have HC:=hh (And.intro (fun (W:World) (hW:Mod N0 w W)=>load88_at (fun j u hu=>(hW.cell (p:=⟨L1,_,none⟩) hL1 (fun q=>q)).trans (hc1 j u hu))) (fun (W:World) (hW:Mod N0 w W)=>load88_at (fun j u hu=>(hW.cell (p:=⟨L2,_,none⟩) hL2 (fun q=>q)).trans (hc2 j u hu))))
    have HX:=hh (And.intro hx (And.intro hy heq))
    have HM:=hh hm
    clear hc1 hc2 hx hy heq hm
    go_upto_region 6 with fail
    refine wp_region_held_drew (S:=fun W=>Mod N0 w W) (by kernel_rfl) HM.out.drew (fun hH=>?_)
    refine tq (i:=0) (oi:=⟨some 17,.move (.tmp 0),33, "same.go:706",#[],none⟩) (v:=.slice (some ⟨L1,o1,none⟩) d1.length c1) hH ?_
    refine tq (i:=1) (oi:=⟨some 18,.move (.tmp 5),3, "same.go:706",#[],none⟩) (v:=.int .i64 k) hH ?_
    refine tq (i:=2) (oi:=⟨some 19,.indexAddr 33 (.tmp 17) (.tmp 18),0, "same.go:706",#[⟨0,.data⟩,⟨1,.data⟩],none⟩) (v:=.pointer (some ⟨L1,o1+k * 35,none⟩)) hH ?_
    refine tk (i:=3) (oi:=⟨some 20,.load 78 (.tmp 19),78, "same.go:706",#[⟨2,.data⟩],none⟩) (v:=.agg (totCells x).toArray) hH (fun w' hSw=>by exact exec_load_at _ _ 78 _ rfl ⟨L1,o1+k * 35,none⟩ rfl (HC.out.1 _ hSw)) ?_
    refine tq (i:=4) (oi:=⟨some 21,.move (.tmp 1),33, "same.go:706",#[],none⟩) (v:=.slice (some ⟨L2,o2,none⟩) d2.length c2) hH ?_
    refine tq (i:=5) (oi:=⟨some 22,.move (.tmp 5),3, "same.go:706",#[],none⟩) (v:=.int .i64 k) hH ?_
    refine tq (i:=6) (oi:=⟨some 23,.indexAddr 33 (.tmp 21) (.tmp 22),0, "same.go:706",#[⟨4,.data⟩,⟨5,.data⟩],none⟩) (v:=.pointer (some ⟨L2,o2+k * 35,none⟩)) hH ?_
    refine tk (i:=7) (oi:=⟨some 24,.load 78 (.tmp 23),78, "same.go:706",#[⟨6,.data⟩],none⟩) (v:=.agg (totCells y).toArray) hH (fun w' hSw=>by exact exec_load_at _ _ 78 _ rfl ⟨L2,o2+k * 35,none⟩ rfl (HC.out.2 _ hSw)) ?_
    refine tk (i:=8) (oi:=⟨some 25,.binOp .neq 78 (.tmp 20) (.tmp 24) 78,4, "same.go:706",#[⟨3,.data⟩,⟨7,.data⟩],none⟩) (v:=.bool (!decide (tN x=tN y))) hH (fun w' hSw=>by exact exec_neq88 _ _ rfl x y rfl rfl) ?_
    refine wpAnyH_done (by kernel_rfl) ?_ _
    by_cases hxy:tN x=tN y
    ·have e:(!decide (tN x=tN y))=false:=by simp [hxy]
     rw [e]
     have HXY:=hh hxy
     clear e hxy
     go_wp2_with fail
     go_roundw
     case rel=>exact ⟨k+1,by omega,by simp,map_take_succ HX.out.1 HX.out.2.1 HX.out.2.2 HXY.out,HM.out.drew⟩
     case measure=>simp [intOf]; omega
    ·have e:(!decide (tN x=tN y))=true:=by simp [hxy]
     rw [e]
     have HXY:=hh (map_ne HX.out.1 HX.out.2.1 hxy)
     clear e hxy
     go_wp2_with fail
     go_ret
     exact ⟨by rw [decide_eq_false HXY.out]; rfl,HM.out.drew⟩
   ·have e:k=d1.length:=by omega
    subst e
    rw [List.take_length,HLEN.out,List.take_length] at heq
    have HQ:=hh heq
    have HM:=hh hm
    clear heq hm
    go_wp2_with fail
    go_ret
    exact ⟨by rw [decide_eq_true HQ.out]; rfl,HM.out⟩
 ·have hb:((d1.length:Int) != (d2.length:Int))=true:=by simp; omega
  have hne:¬ d1.map tN=d2.map tN:=fun h=>by
   have:=congrArg List.length h
   simp at this
   exact hlen this
  have HN:=hh hne
  clear hne hlen
  go_enter Tryz.func13,Tryz.ntmps13
  go_wp2_with fail
  go_ret
  exact ⟨by rw [decide_eq_false HN.out]; rfl,Mod.refl _ w⟩
end Go.Proofs.YtckcamlicgdklaaGreat
namespace Go.Proofs.YtckcamlicgdklaaGreat
open Go.RowKit Go.Mo Go.Sort
set_option maxRecDepth 100000 in
set_option maxHeartbeats 4000000 in
theorem equal_calls (w:World) (v1 v2:Value) (d1 d2:List (Nm×Int)) (h1:TotsAt w v1 d1) (h2:TotsAt w v2 d2) :
  Calls Tryz.prog 38 #[v1,v2] w fun e w'=>e=.returned (.bool (decide (d1.map tN=d2.map tN)))/\Mod N0 w w':=by
 obtain ⟨a1,c1,rfl,_,hl1,h1⟩:=h1
 obtain ⟨a2,c2,rfl,_,hl2,h2⟩:=h2
 have HE:=hh (And.intro h1 h2)
 clear h1 h2
 by_cases hlen:d1.length=d2.length
 ·have hb:((d1.length:Int) != (d2.length:Int))=false:=by simp [hlen]
  have HLEN:=hh hlen
  clear hlen
  go_enter Tryz.func38,Tryz.ntmps38
  go_wp2_with fail
  go_loopw [13] (fun i wr=>∃ k:Nat,k<=d1.length/\i=.int .i64 k/\(d1.take k).map tN=(d2.take k).map tN/\Mod N0 w wr) (fun i _=>d1.length - (intOf i).toNat)
  case atStart=>exact ⟨0,by omega,rfl,rfl,Mod.refl _ w⟩
  case round=>
   obtain ⟨k,hk,rfl,heq,hm⟩:=hrel
   by_cases hlt:k<d1.length
   ·obtain ⟨x,hx⟩:∃ x,d1[k]?=some x:=⟨_,List.getElem?_eq_getElem hlt⟩
    have hlt2:k<d2.length:=by have:=HLEN.out; omega
    obtain ⟨y,hy⟩:∃ y,d2[k]?=some y:=⟨_,List.getElem?_eq_getElem hlt2⟩
    obtain ⟨L1,o1,rfl,hL1,hc1⟩:=HE.out.1 k x hx
    obtain ⟨L2,o2,rfl,hL2,hc2⟩:=HE.out.2 k y hy
    have HC:=hh (And.intro (fun (W:World) (hW:Mod N0 w W)=>load88_at (fun j u hu=>(hW.cell (p:=⟨L1,_,none⟩) hL1 (fun q=>q)).trans (hc1 j u hu))) (fun (W:World) (hW:Mod N0 w W)=>load88_at (fun j u hu=>(hW.cell (p:=⟨L2,_,none⟩) hL2 (fun q=>q)).trans (hc2 j u hu))))
    have HX:=hh (And.intro hx (And.intro hy heq))
    have HM:=hh hm
    clear hc1 hc2 hx hy heq hm
    go_upto_region 6 with fail
    refine wp_region_held_drew (S:=fun W=>Mod N0 w W) (by kernel_rfl) HM.out.drew (fun hH=>?_)
    refine tq (i:=0) (oi:=⟨some 16,.move (.tmp 0),33, "slices.go:25",#[],none⟩) (v:=.slice (some ⟨L1,o1,none⟩) d1.length c1) hH ?_
    refine tq (i:=1) (oi:=⟨some 17,.move (.tmp 5),3, "slices.go:25",#[],none⟩) (v:=.int .i64 k) hH ?_
    refine tq (i:=2) (oi:=⟨some 18,.indexAddr 33 (.tmp 16) (.tmp 17),0, "slices.go:25",#[⟨0,.data⟩,⟨1,.data⟩],none⟩) (v:=.pointer (some ⟨L1,o1+k * 35,none⟩)) hH ?_
    refine tk (i:=3) (oi:=⟨some 19,.load 78 (.tmp 18),78, "slices.go:25",#[⟨2,.data⟩],none⟩) (v:=.agg (totCells x).toArray) hH (fun w' hSw=>by exact exec_load_at _ _ 78 _ rfl ⟨L1,o1+k * 35,none⟩ rfl (HC.out.1 _ hSw)) ?_
    refine tq (i:=4) (oi:=⟨some 20,.move (.tmp 1),33, "slices.go:25",#[],none⟩) (v:=.slice (some ⟨L2,o2,none⟩) d2.length c2) hH ?_
    refine tq (i:=5) (oi:=⟨some 21,.move (.tmp 5),3, "slices.go:25",#[],none⟩) (v:=.int .i64 k) hH ?_
    refine tq (i:=6) (oi:=⟨some 22,.indexAddr 33 (.tmp 20) (.tmp 21),0, "slices.go:25",#[⟨4,.data⟩,⟨5,.data⟩],none⟩) (v:=.pointer (some ⟨L2,o2+k * 35,none⟩)) hH ?_
    refine tk (i:=7) (oi:=⟨some 23,.load 78 (.tmp 22),78, "slices.go:25",#[⟨6,.data⟩],none⟩) (v:=.agg (totCells y).toArray) hH (fun w' hSw=>by exact exec_load_at _ _ 78 _ rfl ⟨L2,o2+k * 35,none⟩ rfl (HC.out.2 _ hSw)) ?_
    refine tk (i:=8) (oi:=⟨some 24,.binOp .neq 78 (.tmp 19) (.tmp 23) 78,4, "slices.go:25",#[⟨3,.data⟩,⟨7,.data⟩],none⟩) (v:=.bool (!decide (tN x=tN y))) hH (fun w' hSw=>by exact exec_neq88 _ _ rfl x y rfl rfl) ?_
    refine wpAnyH_done (by kernel_rfl) ?_ _
    by_cases hxy:tN x=tN y
    ·have e:(!decide (tN x=tN y))=false:=by simp [hxy]
     rw [e]
     have HXY:=hh hxy
     clear e hxy
     go_wp2_with fail
     go_roundw
     case rel=>exact ⟨k+1,by omega,by simp,map_take_succ HX.out.1 HX.out.2.1 HX.out.2.2 HXY.out,HM.out.drew⟩
     case measure=>simp [intOf]; omega
    ·have e:(!decide (tN x=tN y))=true:=by simp [hxy]
     rw [e]
     have HXY:=hh (map_ne HX.out.1 HX.out.2.1 hxy)
     clear e hxy
     go_wp2_with fail
     go_ret
     exact ⟨by rw [decide_eq_false HXY.out]; rfl,HM.out.drew⟩
   ·have e:k=d1.length:=by omega
    subst e
    rw [List.take_length,HLEN.out,List.take_length] at heq
    have HQ:=hh heq
    have HM:=hh hm
    clear heq hm
    go_wp2_with fail
    go_ret
    exact ⟨by rw [decide_eq_true HQ.out]; rfl,HM.out⟩
 ·have hb:((d1.length:Int) != (d2.length:Int))=true:=by simp; omega
  have hne:¬ d1.map tN=d2.map tN:=fun h=>by
   have:=congrArg List.length h
   simp at this
   exact hlen this
  have HN:=hh hne
  clear hne hlen
  go_enter Tryz.func38,Tryz.ntmps38
  go_wp2_with fail
  go_ret
  exact ⟨by rw [decide_eq_false HN.out]; rfl,Mod.refl _ w⟩
end Go.Proofs.YtckcamlicgdklaaGreat
