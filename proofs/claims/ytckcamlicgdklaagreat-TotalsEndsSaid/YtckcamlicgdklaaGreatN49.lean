/- TotalsTell: what holds between its first steps. TotalsTell: each answer of the program's and of the document's, in one form. -/
import Derived.Test.YtckcamlicgdklaaGreatN29
import Derived.Test.YtckcamlicgdklaaGreatN34
import Derived.Test.YtckcamlicgdklaaGreatN35
import Derived.Test.YtckcamlicgdklaaGreatN43
import Derived.Test.YtckcamlicgdklaaGreatN48
namespace Go.Proofs.YtckcamlicgdklaaGreat
open Go.RowKit Go.Mo Go.Sort
/-- Region 3 in whatever order: what is made so far. -/
structure R3 (w w1 W:World) (cs:List Value) (b7 b8:Option Nat) (cc:Option (List Value)):Prop where
 mod:Mod N0 w1 W
 h7:∀ b,b7=some b->w1.heap.size<=b/\∃ z:Array Value,W.heap[b]?=some (.cells z 36 (0,0))/\z.size=182
 h8:∀ b,b8=some b->w1.heap.size<=b/\∃ z:Array Value,W.heap[b]?=some (.cells z 39 (0,0))/\z.size=14
 ne:∀ a b,b7=some a->b8=some b->a≠b
 eq:∀ cs',cc=some cs'->(∀ u∈cs',u.oneCell'=true)/\∃ n,EqX w.heap.size w (fun q=>w1.heap.size<=q/\some q≠b7/\some q≠b8) W n 36 cs cs'
section
variable {w w1 W W':World} {cs gs:List Value} {b7 b8:Option Nat} {cc:Option (List Value)}
theorem R3.start (hm:Mod N0 w1 W):R3 w w1 W cs none none none:=
 ⟨hm,(fun _ e=>by cases e),(fun _ e=>by cases e),(fun _ _ e=>by cases e),(fun _ e=>by cases e)⟩
theorem R3.a7 (h:R3 w w1 W cs none b8 cc) {z:Array Value} (hz:z.size=182):R3 w w1 (W.alloc (.cells z 36)) cs (some W.heap.size) b8 cc:=by
 refine ⟨h.mod.alloc _,fun b e=>?_,fun b e=>?_,fun a b e1 e2=>?_,fun cs' e=>?_⟩
 ·cases e
  exact ⟨h.mod.size,z,newB W _,hz⟩
 ·obtain ⟨h1,z',h2,h3⟩:=h.h8 b e
  exact ⟨h1,z',allocB h2 _,h3⟩
 ·cases e1
  obtain ⟨h1,z',h2,h3⟩:=h.h8 b e2
  have:=ltB h2
  omega
 ·obtain ⟨h1,nn,h2⟩:=h.eq cs' e
  refine ⟨h1,nn,EqX.keep h2 ((Mod.refl N0 W).alloc _) (fun q e=>e.elim) (fun q hq hh=>⟨hh.1,fun e=>?_,hh.2.2⟩) (Nat.le_refl _)⟩
  simp only [Option.some.injEq] at e
  omega
theorem R3.a8 (h:R3 w w1 W cs b7 none cc) {z:Array Value} (hz:z.size=14):R3 w w1 (W.alloc (.cells z 39)) cs b7 (some W.heap.size) cc:=by
 refine ⟨h.mod.alloc _,fun b e=>?_,fun b e=>?_,fun a b e1 e2=>?_,fun cs' e=>?_⟩
 ·obtain ⟨h1,z',h2,h3⟩:=h.h7 b e
  exact ⟨h1,z',allocB h2 _,h3⟩
 ·cases e
  exact ⟨h.mod.size,z,newB W _,hz⟩
 ·cases e2
  obtain ⟨h1,z',h2,h3⟩:=h.h7 a e1
  have:=ltB h2
  omega
 ·obtain ⟨h1,nn,h2⟩:=h.eq cs' e
  refine ⟨h1,nn,EqX.keep h2 ((Mod.refl N0 W).alloc _) (fun q e=>e.elim) (fun q hq hh=>⟨hh.1,hh.2.1,fun e=>?_⟩) (Nat.le_refl _)⟩
  simp only [Option.some.injEq] at e
  omega
theorem R3.call (h:R3 w w1 W cs b7 b8 none) {n:Nat} {e:Ending} (hc:CpR w n 36 W cs e W'):∃ cs',e=.returned (.agg cs'.toArray)/\R3 w w1 W' cs b7 b8 (some cs'):=by
 obtain ⟨cs',he,ho,hq,hm⟩:=hc
 refine ⟨cs',he,h.mod.tr hm,fun b e=>?_,fun b e=>?_,h.ne,fun c2 e=>?_⟩
 ·obtain ⟨h1,z',h2,h3⟩:=h.h7 b e
  exact ⟨h1,z',(hm.block _ (ltB h2) (fun q=>q)).trans h2,h3⟩
 ·obtain ⟨h1,z',h2,h3⟩:=h.h8 b e
  exact ⟨h1,z',(hm.block _ (ltB h2) (fun q=>q)).trans h2,h3⟩
 ·cases e
  refine ⟨ho,_,EqX.keep hq (Mod.refl N0 W') (fun q e=>e.elim) (fun q _ hh=>⟨Nat.le_trans h.mod.size hh,fun e=>?_,fun e=>?_⟩) (Nat.le_refl _)⟩
  ·obtain ⟨_,_,h2,_⟩:=h.h7 q e.symm
   have:=ltB h2
   omega
  ·obtain ⟨_,_,h2,_⟩:=h.h8 q e.symm
   have:=ltB h2
   omega
/-- Behind region 3: the state's copy, the genesis' own. -/
structure T3 (w w1 W:World) (cs gs:List Value) (b7 b8:Nat) (cs':List Value):Prop where
 mod:Mod N0 w1 W
 c7:W.heap[b7]?=some (.cells cs'.toArray 36 (0,0))
 c8:W.heap[b8]?=some (.cells gs.toArray 39 (0,0))
 n7:w1.heap.size<=b7
 n8:w1.heap.size<=b8
 ne:b7≠b8
 eq:∃ n,EqX w.heap.size w (fun q=>w1.heap.size<=q/\q≠b7/\q≠b8) W n 36 cs cs'
theorem R3.put {p7 p8:Nat} {cs':List Value} (h:R3 w w1 W cs (some p7) (some p8) (some cs')) (hw:w.heap.size<=w1.heap.size) (hgl:gs.length=14) (hg1:∀ u∈gs,u.oneCell'=true) :
  ∃ W5 W6,(storeVar 36 ⟨p7,0,none⟩ (.agg cs'.toArray)).run Tryz.prog W=.ok () W5/\Mod N0 w1 W5/\(storeVar 39 ⟨p8,0,none⟩ (.agg gs.toArray)).run Tryz.prog W5=.ok () W6/\T3 w w1 W6 cs gs p7 p8 cs':=by
 obtain ⟨n7,z7,h7,s7⟩:=h.h7 p7 rfl
 obtain ⟨n8,z8,h8,s8⟩:=h.h8 p8 rfl
 have hne:=h.ne p7 p8 rfl rfl
 obtain ⟨ho,nn,hq⟩:=h.eq cs' rfl
 obtain ⟨_,_,_,hl',_⟩:=id (hq.struct rfl Tryz.underlying36)
 rw [zc36] at hl'
 have st7:=run_storeVar_row (P:=Tryz.prog) W p7 36 36 z7 cs'.toArray h7 (by rw [zs36]; simp [hl']) (by simp [s7,hl']) (by rw [List.all_toArray,List.all_eq_true]; exact ho)
 have c7:=setRow_same (cs:=cs'.toArray) h7
 have m7:Mod (fun q=>q=p7) W (W.setRow p7 cs'.toArray):=Mod_setRow (Mod.refl (fun q=>q=p7) W) (b:=p7) (fun _=>rfl) _
 have h8':=(m7.block p8 (ltB h8) (fun e=>hne e.symm)).trans h8
 generalize W.setRow p7 cs'.toArray=W5 at st7 c7 m7 h8'
 have st8:=run_storeVar_row (P:=Tryz.prog) W5 p8 39 39 z8 gs.toArray h8' (by rw [ss72]; simp [hgl]) (by simp [s8,hgl]) (by rw [List.all_toArray,List.all_eq_true]; exact hg1)
 have c8:=setRow_same (cs:=gs.toArray) h8'
 have m8:Mod (fun q=>q=p8) W5 (W5.setRow p8 gs.toArray):=Mod_setRow (Mod.refl (fun q=>q=p8) W5) (b:=p8) (fun _=>rfl) _
 have c7':=(m8.block p7 (ltB c7) hne).trans c7
 have k5:Mod N0 w1 W5:=h.mod.trans m7 (fun q e hl=>by omega)
 refine ⟨W5,_,st7,k5,st8,k5.trans m8 (fun q e hl=>by omega),c7',c8,n7,n8,hne,nn,?_⟩
 have q5:=EqX.keep (Q':=fun q=>w1.heap.size<=q/\q≠p7/\q≠p8) hq m7 (fun q e=>⟨by omega,fun hh=>hh.2.1 (by rw [e])⟩) (fun q _ hh=>⟨hh.1,fun e=>hh.2.1 (by rw [e]),fun e=>hh.2.2 (by rw [e])⟩) (Nat.le_refl _)
 exact EqX.keep q5 m8 (fun q e=>⟨by omega,fun hh=>hh.2.2 e⟩) (fun q _ hh=>hh) (Nat.le_refl _)
/-- Behind region 4: the copies of both. -/
structure T4 (w w1 W:World) (cs gs:List Value) (ov:Value) (b7 b8:Nat) (cs':List Value) (ov':Value):Prop where
 mod:Mod N0 w1 W
 c7:W.heap[b7]?=some (.cells cs'.toArray 36 (0,0))
 c8:W.heap[b8]?=some (.cells (gs.set 13 ov').toArray 39 (0,0))
 eq:∃ n,EqX w.heap.size w (fun q=>w1.heap.size<=q/\q≠b7/\q≠b8) W n 36 cs cs'
 eqo:∃ n,EqX w.heap.size w (fun q=>w1.heap.size<=q/\q≠b7/\q≠b8) W n 37 [ov] [ov']
theorem T3.outs {p7 p8:Nat} {cs':List Value} {ov:Value} (h:T3 w w1 W cs gs p7 p8 cs') (hw:w.heap.size<=w1.heap.size) (hgl:gs.length=14) {n:Nat} {e:Ending} (hc:CpS w n 37 W ov e W') :
  ∃ ov' W5,e=.returned ov'/\(storeVar 37 ⟨p8,13,none⟩ ov').run Tryz.prog W'=.ok () W5/\T4 w w1 W5 cs gs ov p7 p8 cs' ov':=by
 obtain ⟨ov',he,_,hq,hm⟩:=hc
 obtain ⟨a,l,c,hov,a',c',hov'⟩:∃ a l c,ov=.slice a l c/\∃ a' c',ov'=.slice a' l c':=by
  obtain ⟨_,_,a,a',l,c,c',h1,h2,_⟩:=id (hq.slice rfl Tryz.underlying37 cc49)
  exact ⟨a,l,c,h1,a',c',h2⟩
 have c7:=(hm.block p7 (ltB h.c7) (fun q=>q)).trans h.c7
 have c8:=(hm.block p8 (ltB h.c8) (fun q=>q)).trans h.c8
 have hcell:W'.cell? ⟨p8,13,none⟩=some (gs[13]'(by omega)):=by rw [cellB c8,List.getElem?_toArray,List.getElem?_eq_getElem (by omega)]
 have hfro:W'.frozen? ⟨p8,13,none⟩=false:=frozB c8 _
 have hst:(storeVar 37 ⟨p8,13,none⟩ (.slice a' l c')).run Tryz.prog W'=.ok () (W'.setCell ⟨p8,13,none⟩ (.slice a' l c')):=by go_simp
 have m8:Mod (fun q=>q=p8) W' (W'.setCell ⟨p8,13,none⟩ (.slice a' l c')):=(Mod.refl (fun q=>q=p8) W').setCell (p:=⟨p8,13,none⟩) (fun _=>rfl) _
 have n7:=h.n7
 have n8:=h.n8
 refine ⟨ov',_,he,by rw [hov']; exact hst,(h.mod.tr hm).trans m8 (fun q e hl=>by omega),(m8.block p7 (ltB c7) h.ne).trans c7,?_,?_,?_⟩
 ·rw [hov',setB c8,List.setIfInBounds_toArray]
 ·obtain ⟨nn,hqe⟩:=h.eq
  refine ⟨nn,?_⟩
  have q5:=EqX.keep (Q':=fun q=>w1.heap.size<=q/\q≠p7/\q≠p8) hqe hm (fun q e=>e.elim) (fun q _ hh=>hh) (Nat.le_refl _)
  exact EqX.keep q5 m8 (fun q e=>⟨by omega,fun hh=>hh.2.2 e⟩) (fun q _ hh=>hh) (Nat.le_refl _)
 ·refine ⟨n,?_⟩
  have q5:=EqX.keep (Q':=fun q=>w1.heap.size<=q/\q≠p7/\q≠p8) hq (Mod.refl N0 W') (fun q e=>e.elim) (fun q _ hh=>⟨Nat.le_trans h.mod.size hh,fun e=>by have:=ltB h.c7; omega,fun e=>by have:=ltB h.c8; omega⟩) (Nat.le_refl _)
  exact EqX.keep q5 m8 (fun q e=>⟨by omega,fun hh=>hh.2.2 e⟩) (fun q _ hh=>hh) (Nat.le_refl _)
end
/-- What is looked at of a state and a genesis. -/
structure Inp (W:World) (cs gs:List Value) (fees forf:Int) (es os:List Ent) (mint:Tl):Prop where
 args:∃ sv ov mv,StC cs sv fees forf/\cs[179]?=some mv/\gs[13]?=some ov/\EntsAt W sv es/\OutsAt W ov os/\TotsAt W mv mint
 f64:In64 fees
 g64:In64 forf
 be:(vAssets (es.map (·.val))).length<=6000
 bo:(vAssets (os.map (·.val))).length<=6000
 bl:os.length<=6000
 bm:mint.length<=6000
theorem Inp.tr {W W':World} {cs gs:List Value} {fees forf:Int} {es os:List Ent} {mint:Tl} (h:Inp W cs gs fees forf es os mint) (hm:Mod N0 W W'):Inp W' cs gs fees forf es os mint:=by
 obtain ⟨sv,ov,mv,h1,h2,h3,h4,h5,h6⟩:=h.args
 exact ⟨⟨sv,ov,mv,h1,h2,h3,h4.tr hm,h5.tr hm,h6.tr hm⟩,h.f64,h.g64,h.be,h.bo,h.bl,h.bm⟩
theorem vA_len (es:List Ent):(vAssets (es.map (·.val))).length=(es.map fun x=>x.val.assets.length).sum:=by
 simp [vAssets,List.length_flatMap,Function.comp_def]
theorem inp_of_rd {w:World} {cs gs:List Value} (hr:Rd w 36 cs) (hg:Rd w 39 gs)
  (h1:(∀ (a:Option Addr) (len c:Nat),cs[179]?=some (.slice a len c)->len<=6000)/\∀ (a:Option Addr) (len c:Nat),cs[44]?=some (.slice a len c)->len<=6000/\∀ ms,LensOf w a len ms->ms.sum<=6000)
  (h2:∀ (a:Option Addr) (len c:Nat),gs[13]?=some (.slice a len c)->len<=6000/\∀ ms,LensO w a len ms->ms.sum<=6000) :
  ∃ fees forf es os mint,Inp w cs gs fees forf es os mint:=by
 have hcl:=hr.len Tryz.underlying36
 rw [cc36] at hcl
 obtain ⟨sv,hsv,hrs⟩:=hr.cellAt Tryz.underlying36 2 rfl 28 44 rfl rfl cc28 cc36 (by omega)
 obtain ⟨fv,hfv,hrf⟩:=hr.cellAt Tryz.underlying36 7 rfl 2 177 rfl rfl (by kernel_rfl) cc36 (by omega)
 obtain ⟨gv,hgv,hrg⟩:=hr.cellAt Tryz.underlying36 8 rfl 2 178 rfl rfl (by kernel_rfl) cc36 (by omega)
 obtain ⟨mv,hmv,hrm⟩:=hr.cellAt Tryz.underlying36 9 rfl 33 179 rfl rfl cc33 cc36 (by omega)
 obtain ⟨ov,hov,hro⟩:=hg.cellAt Tryz.underlying39 2 rfl 37 13 rfl rfl (by kernel_rfl) zc39 (by omega)
 obtain ⟨fees,rfl,hf⟩:=hrf.int Tryz.underlying2
 obtain ⟨forf,rfl,hg2⟩:=hrg.int Tryz.underlying2
 obtain ⟨sa,es,sc,rfl,hsn,hlens,hents⟩:=ents_of_rd hrs
 obtain ⟨oa,os,oc,rfl,olens,houts⟩:=outs_of_rd hro
 obtain ⟨ma,mint,mc,rfl,hmint⟩:=tots_of_rd hrm
 obtain ⟨e1,e2⟩:=h1.2 sa _ sc hsv
 have e3:=e2 _ hlens
 obtain ⟨o1,o2⟩:=h2 oa _ oc hov
 have o3:=o2 _ olens
 have m1:=h1.1 ma _ mc hmv
 have le1:∀ x∈es,x.val.assets.length<=1000000:=fun x hx=>by
  have:=le_sum (List.mem_map_of_mem (f:=fun x:Ent=>x.val.assets.length) hx)
  have h0:x.val.assets.length<=_:=this
  omega
 have le2:∀ x∈os,x.val.assets.length<=1000000:=fun x hx=>by
  have:=le_sum (List.mem_map_of_mem (f:=fun x:Ent=>x.val.assets.length) hx)
  have h0:x.val.assets.length<=_:=this
  omega
 exact ⟨fees,forf,es,os,mint,⟨_,_,_,StC.mk hcl hsv hfv hgv,hmv,hov,hents le1 (by omega),houts le2,hmint (by omega)⟩,in64_wf hf,in64_wf hg2,by rw [vA_len]; exact e3,by rw [vA_len]; exact o3,o1,m1⟩
/-- The copy's are those of the original. -/
theorem Inp.copy {w w1 W:World} {cs gs:List Value} {fees forf:Int} {es os:List Ent} {mint:Tl} {ov ov':Value} {b7 b8:Nat} {cs':List Value} (h:Inp w cs gs fees forf es os mint) (hov:gs[13]?=some ov) (ht:T4 w w1 W cs gs ov b7 b8 cs' ov') (hm:Mod N0 w W) :
  ∃ es' os',es'.map keyE=es.map keyE/\os'.map keyE=os.map keyE/\Inp W cs' (gs.set 13 ov') fees forf es' os' mint:=by
 obtain ⟨sv,ov2,mv,hc,hmv,hov2,hE,hO,hT⟩:=h.args
 rw [hov] at hov2
 cases hov2
 obtain ⟨nn,hqe⟩:=ht.eq
 obtain ⟨no,hqo⟩:=ht.eqo
 obtain ⟨m,_,hl,hl',hfs⟩:=hqe.struct rfl Tryz.underlying36
 rw [zc36] at hl hl'
 have f2:=eqx_field hfs 2 rfl 28 44 1 rfl rfl cc28
 have f7:=(eqx_field hfs 7 rfl 2 177 1 rfl rfl (by kernel_rfl)).flat rfl
 have f8:=(eqx_field hfs 8 rfl 2 178 1 rfl rfl (by kernel_rfl)).flat rfl
 have f9:=eqx_field hfs 9 rfl 33 179 1 rfl rfl cc33
 obtain ⟨sv',hsv'⟩:∃ u,cs'[44]?=some u:=⟨_,List.getElem?_eq_getElem (by omega)⟩
 obtain ⟨mv',hmv'⟩:∃ u,cs'[179]?=some u:=⟨_,List.getElem?_eq_getElem (by omega)⟩
 rw [take_one hc.ents,take_one hsv'] at f2
 rw [take_one hmv,take_one hmv'] at f9
 obtain ⟨es',hk,hE'⟩:=ents_copy f2 hm hE
 obtain ⟨os',hk2,hO'⟩:=outs_copy hqo hm hO
 have g13:(gs.set 13 ov')[13]?=some ov':=by
  rw [List.getElem?_set]
  have:13<gs.length:=(List.getElem?_eq_some_iff.1 hov).1
  simp [this]
 have v1:=key_vals hk
 have v2:=key_vals hk2
 have l2:os'.length=os.length:=by have:=congrArg List.length hk2; simpa using this
 exact ⟨es',os',hk,hk2,⟨sv',ov',mv',StC.mk hl' hsv' (flat_cell f7 hc.fees) (flat_cell f8 hc.forf),hmv',g13,hE',hO',tots_copy f9 hm hT⟩,h.f64,h.g64,by rw [v1]; exact h.be,by rw [v2]; exact h.bo,by rw [l2]; exact h.bl,h.bm⟩
end Go.Proofs.YtckcamlicgdklaaGreat
namespace Go.Proofs.YtckcamlicgdklaaGreat
open Go.RowKit Go.Mo Go.Sort
/-- A row of totals made behind the world w. -/
def RowO (w wr:World) (u:Value) (d:Tl):Prop:=wr.ownsRow 0 78 35 u d.length (totsCells d)/\d.length<=6000/\∀ k,u.ownBlock=some k->w.heap.size<=k
theorem RowO.tr {w wr wx:World} {u:Value} {d:Tl} (h:RowO w wr u d) (hm:Mod N0 wr wx):RowO w wx u d:=
 ⟨ownsRow_block h.1 fun q hq=>hm.block q (ownsRow_lt h.1 hq) (fun e=>e),h.2⟩
theorem RowO.tots {w wr:World} {u:Value} {d:Tl} (h:RowO w wr u d):TotsAt wr u d:=tots_at h.1 (by have:=h.2.1; omega)
def flt (es:List Ent) (t:Adr):List Val:=(es.filter fun x=>decide (x.addr=t)).map (·.val)
def told (vs:List Val):Tl:=(putAll (vAssets vs)).filter (nzW ·.2)
def DD (vs:List Val):=(told vs).map tN
def merged (os:List Ent) (mint:Tl):=((putAll (told (os.map (·.val)) ++ mint)).filter (nzW ·.2)).map tN
def cbW (es os:List Ent) (fees forf:Int):Bool:=hiW (coins (es.map (·.val))+(fees+forf)) == hiW (coins (os.map (·.val))) && loW (coins (es.map (·.val))+(fees+forf)) == loW (coins (os.map (·.val)))
def Wb (es os:List Ent) (fees forf:Int) (mint:Tl):Bool:=cbW es os fees forf && decide (DD (es.map (·.val))=merged os mint)
theorem flt_le (es:List Ent) (t:Adr):(vAssets (flt es t)).length<=(vAssets (es.map (·.val))).length:=vAssets_filter _ es
theorem told_le (vs:List Val):(told vs).length<=(vAssets vs).length:=Nat.le_trans (List.length_filter_le _ _) (putAll_le _)
section
variable {W:World} {cs gs:List Value} {fees forf:Int} {es os es0 os0:List Ent} {mint:Tl}
theorem c_balance (h:Inp W cs gs fees forf es os mint) (hk:es.map keyE=es0.map keyE) (t:Adr):Calls Tryz.prog 10 #[.agg cs.toArray,.agg (adrCells t).toArray] W fun e w'=>∃ u d,e=.returned (.tuple #[wideV (coins (flt es0 t)),u])/\RowO W w' u d/\d.map tN=DD (flt es0 t)/\Mod N0 W w':=by
 obtain ⟨sv,ov,mv,h1,h2,h3,h4,h5,h6⟩:=h.args
 have hb:=flt_le es t
 have h0:=h.be
 have hk2:(es.filter fun x=>decide (x.addr=t)).map (·.val)=flt es0 t:=key_filter hk t
 have hbk:=bookV_leA (flt es t)
 refine (balance_calls W cs sv fees forf h1 t es h4 (by unfold flt at hbk hb; omega)).mono ?_
 rintro e w' ⟨u,d,he,hp,hs,ho,hn,hm⟩
 have hle:=perm_le hp
 rw [hk2] at he hp hle
 have hb0:(bookV (flt es0 t)).length<=(vAssets (flt es t)).length:=by rw [← hk2]; exact bookV_leA _
 exact ⟨u,d,he,⟨ho,by omega,fun k hk=>Nat.le_of_lt (hn k hk)⟩,vals_both hp hs,hm⟩
theorem c_refBalance (h:Inp W cs gs fees forf es os mint) (t:Adr):Calls Tryz.prog 11 #[.agg cs.toArray,.agg (adrCells t).toArray] W fun e w'=>∃ u d,e=.returned (.tuple #[wideV (coins (flt es t)),u])/\RowO W w' u d/\d.map tN=DD (flt es t)/\Mod N0 W w':=by
 obtain ⟨sv,ov,mv,h1,h2,h3,h4,h5,h6⟩:=h.args
 have hb:=flt_le es t
 have h0:=h.be
 refine (refBalance_calls W cs sv fees forf h1 t es h4 (by omega)).mono ?_
 rintro e w' ⟨u,he,ho,hm⟩
 have hl:=told_le (flt es t)
 exact ⟨u,told (flt es t),he,⟨ho.1,by omega,fun k hk=>Nat.le_of_lt (ho.2 k hk)⟩,rfl,hm⟩
theorem c_assets (h:Inp W cs gs fees forf es os mint) (hk:es.map keyE=es0.map keyE):Calls Tryz.prog 12 #[.agg cs.toArray] W fun e w'=>∃ u d,e=.returned u/\RowO W w' u d/\d.map tN=DD (es0.map (·.val))/\Mod N0 W w':=by
 obtain ⟨sv,ov,mv,h1,h2,h3,h4,h5,h6⟩:=h.args
 have h0:=h.be
 have hk2:=key_vals hk
 have hbk:=bookV_leA (es.map (·.val))
 refine (assets_calls W cs sv fees forf h1 es h4 (by omega)).mono ?_
 rintro e w' ⟨u,d,he,hp,hs,ho,hn,hm⟩
 have hle:=perm_le hp
 rw [hk2] at hp
 exact ⟨u,d,he,⟨ho,by omega,hn⟩,vals_both hp hs,hm⟩
theorem c_refAssets (h:Inp W cs gs fees forf es os mint):Calls Tryz.prog 16 #[.agg cs.toArray] W fun e w'=>∃ u d,e=.returned u/\RowO W w' u d/\d.map tN=DD (es.map (·.val))/\Mod N0 W w':=by
 obtain ⟨sv,ov,mv,h1,h2,h3,h4,h5,h6⟩:=h.args
 have h0:=h.be
 have hl:=told_le (es.map (·.val))
 have hl2:(told (es.map (·.val))).length<=6000:=Nat.le_trans hl h0
 have hb:(vAssets (es.map (·.val))).length<=900000:=Nat.le_trans h0 (by omega)
 have hc:=refAssets_calls W cs sv fees forf h1 h.f64 h.g64 es h4 hb
 refine hc.mono ?_
 rintro e w' ⟨u,he,ho,hm⟩
 have ho1:w'.ownsRow 0 78 35 u (told (es.map (·.val))).length (totsCells (told (es.map (·.val)))):=ho.1
 have ho2:∀ k,u.ownBlock=some k->W.heap.size<=k:=fun k hk=>Nat.le_of_lt (ho.2 k hk)
 have hd:(told (es.map (·.val))).map tN=DD (es.map (·.val)):=by unfold DD; rfl
 have hr:RowO W w' u (told (es.map (·.val))):=⟨ho1,hl2,ho2⟩
 clear ho1 hl2 ho2 hl hb h0 ho hc
 generalize told (es.map (·.val))=d at hd hr
 generalize DD (es.map (·.val))=D at hd ⊢
 exact ⟨u,d,he,hr,hd,hm⟩
theorem c_coins (h:Inp W cs gs fees forf es os mint) (hk:es.map keyE=es0.map keyE):Calls Tryz.prog 14 #[.agg cs.toArray] W fun e w'=>e=.returned (wideV (coins (es0.map (·.val))+(fees+forf)))/\Mod N0 W w':=by
 obtain ⟨sv,ov,mv,h1,h2,h3,h4,h5,h6⟩:=h.args
 have h0:=h.be
 have hbk:=bookV_leA (es.map (·.val))
 have:=coins_calls W cs sv fees forf h1 h.f64 h.g64 es h4 (by omega)
 rwa [key_vals hk] at this
theorem c_refCoins (h:Inp W cs gs fees forf es os mint):Calls Tryz.prog 15 #[.agg cs.toArray] W fun e w'=>e=.returned (wideV (coins (es.map (·.val))+(fees+forf)))/\Mod N0 W w':=by
 obtain ⟨sv,ov,mv,h1,h2,h3,h4,h5,h6⟩:=h.args
 have h0:=h.be
 have hb:(vAssets (es.map (·.val))).length<=900000:=Nat.le_trans h0 (by omega)
 refine (refCoins_calls W cs sv fees forf h1 h.f64 h.g64 es h4 hb).mono ?_
 rintro e w' ⟨he,hm⟩
 exact ⟨he,hm⟩
theorem c_whole (h:Inp W cs gs fees forf es os mint) (hk:es.map keyE=es0.map keyE) (hk2:os.map keyE=os0.map keyE):Calls Tryz.prog 17 #[.agg cs.toArray,.agg gs.toArray] W fun e w'=>e=.returned (.bool (Wb es0 os0 fees forf mint))/\Mod N0 W w':=by
 obtain ⟨sv,ov,mv,h1,h2,h3,h4,h5,h6⟩:=h.args
 have b1:=bookV_leA (es.map (·.val))
 have b2:=bookV_leA (os.map (·.val))
 have h7:=h.be
 have h8:=h.bo
 have h9:=h.bm
 have h10:=h.bl
 have v1:=key_vals hk
 have v2:=key_vals hk2
 by_cases hz:hiW (coins (es.map (·.val))+(fees+forf))=hiW (coins (os.map (·.val)))/\loW (coins (es.map (·.val))+(fees+forf))=loW (coins (os.map (·.val)))
 ·refine (whole_same W cs gs sv ov mv fees forf h1 h2 h3 h.f64 h.g64 es os mint h4 h5 (by omega) h6 (by unfold wideV; rw [hz.1,hz.2]) (by omega) (by omega)).mono ?_
  rintro e w' ⟨d,d2,m,rfl,p1,s1,p2,s2,p3,s3,hm⟩
  have e1:d.map tN=DD (es0.map (·.val)):=by rw [← v1]; exact vals_both p1 s1
  have e2:m.map tN=merged os0 mint:=by unfold merged told; rw [← v2]; exact merge_both (vals_tots p2 s2) (tots_put (vAssets (os.map (·.val)))) p3 s3
  have e3:cbW es0 os0 fees forf=true:=by
   unfold cbW
   rw [← v1,← v2,hz.1,hz.2]
   simp
  refine ⟨?_,hm⟩
  unfold Wb
  rw [e1,e2,e3,Bool.true_and]
 ·refine (whole_diff W cs gs sv ov mv fees forf h1 h2 h3 h.f64 h.g64 es os mint h4 h5 (by omega) h6 hz (by omega) (by omega)).mono ?_
  rintro e w' ⟨rfl,hm⟩
  have e3:cbW es0 os0 fees forf=false:=by
   unfold cbW
   rw [← v1,← v2,Bool.eq_false_iff]
   intro q
   simp only [Bool.and_eq_true,beq_iff_eq] at q
   exact hz q
  refine ⟨?_,hm⟩
  unfold Wb
  rw [e3,Bool.false_and]
theorem c_refWhole (h:Inp W cs gs fees forf es os mint):Calls Tryz.prog 18 #[.agg cs.toArray,.agg gs.toArray] W fun e w'=>e=.returned (.bool (Wb es os fees forf mint))/\Mod N0 W w':=by
 obtain ⟨sv,ov,mv,h1,h2,h3,h4,h5,h6⟩:=h.args
 have h7:=h.be
 have h8:=h.bo
 have h9:=h.bm
 have h10:=h.bl
 exact refWhole_calls W cs gs sv ov mv fees forf h1 h2 h3 h.f64 h.g64 es os mint h4 h5 (by omega) h6 (by omega) (by omega) (cbW es os fees forf) rfl
theorem c_same {w1 w2:World} {u v:Value} {d1 d2:Tl} (h1:RowO w1 W u d1) (h2:RowO w2 W v d2) (h:d1.map tN=d2.map tN):Calls Tryz.prog 13 #[u,v] W fun e w'=>e=.returned (.bool true)/\Mod N0 W w':=by
 refine (same_calls W u v d1 d2 h1.tots h2.tots).mono ?_
 rintro e w' ⟨he,hm⟩
 exact ⟨by rw [he,h]; simp,hm⟩
end
/-- Three rows laid side by side: they lie apart. -/
theorem three_apart {w1 w2 w3 W:World} {u1 u2 u3:Value} {d1 d2 d3:Tl} (h1:RowO w1 W u1 d1) (h2:RowO w2 W u2 d2) (h3:RowO w3 W u3 d3) (b1:∀ k,u1.ownBlock=some k->k<w2.heap.size) (b2:∀ k,u1.ownBlock=some k∨u2.ownBlock=some k->k<w3.heap.size) :
  ∃ (vs:Nat->Value) (ns:Nat->Nat),vs 0=u1/\vs 1=u2/\vs 2=u3/\Fl (W.alloc (.cells #[u1,u2,u3] 33)) W.heap.size 0 3 vs ns:=by
 have hm:Mod N0 W (W.alloc (.cells #[u1,u2,u3] 33)):=(Mod.refl _ W).alloc _
 have hN:=newB W (.cells #[u1,u2,u3] 33)
 refine ⟨fun k=>match k with|0=>u1|1=>u2|_=>u3,fun k=>match k with|0=>d1.length|1=>d2.length|_=>d3.length,rfl,rfl,rfl,⟨fun k hk=>?_,by simp,fun k hk=>?_,fun k hk e=>?_,fun j k hj hk hne b e1 e2=>?_,fun k hk=>?_,by omega⟩⟩
 ·rw [Nat.zero_add,cellB hN]
  match k,hk with
 |0,_=>rfl
 |1,_=>rfl
 |2,_=>rfl
 ·match k,hk with
 |0,_=>exact ⟨_,(h1.tr hm).1⟩
 |1,_=>exact ⟨_,(h2.tr hm).1⟩
 |2,_=>exact ⟨_,(h3.tr hm).1⟩
 ·match k,hk with
 |0,_=>have:=ownsRow_lt h1.1 e; omega
 |1,_=>have:=ownsRow_lt h2.1 e; omega
 |2,_=>have:=ownsRow_lt h3.1 e; omega
 ·match j,k,hj,hk with
 |0,0,_,_=>exact hne rfl
 |1,1,_,_=>exact hne rfl
 |2,2,_,_=>exact hne rfl
 |0,1,_,_=>have:=b1 b e1; have:=h2.2.2 b e2; omega
 |1,0,_,_=>have:=b1 b e2; have:=h2.2.2 b e1; omega
 |0,2,_,_=>have:=b2 b (.inl e1); have:=h3.2.2 b e2; omega
 |2,0,_,_=>have:=b2 b (.inl e2); have:=h3.2.2 b e1; omega
 |1,2,_,_=>have:=b2 b (.inr e1); have:=h3.2.2 b e2; omega
 |2,1,_,_=>have:=b2 b (.inr e2); have:=h3.2.2 b e1; omega
 ·match k,hk with
 |0,_=>have:=h1.2.1; simp only; omega
 |1,_=>have:=h2.2.1; simp only; omega
 |2,_=>have:=h3.2.1; simp only; omega
end Go.Proofs.YtckcamlicgdklaaGreat
