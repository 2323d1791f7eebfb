/- TotalsEnds: the region that makes three entries, in whatever order. -/
import Derived.Test.YtckcamlicgdklaaGreatN51
namespace Go.Proofs.YtckcamlicgdklaaGreat
open Go.RowKit Go.Mo Go.Sort
/-- Boxes of entries, as far as they are made. -/
structure R8 (w8 W:World) (o4 o5 o6:Option Nat):Prop where
 mod:Mod N0 w8 W
 h4:∀ b,o4=some b->w8.heap.size<=b/\∃ z:Array Value,W.heap[b]?=some (.cells z 73 (0,0))/\z.size=102
 h5:∀ b,o5=some b->w8.heap.size<=b/\∃ z:Array Value,W.heap[b]?=some (.cells z 73 (0,0))/\z.size=102
 h6:∀ b,o6=some b->w8.heap.size<=b/\∃ z:Array Value,W.heap[b]?=some (.cells z 73 (0,0))/\z.size=102
 n45:∀ a b,o4=some a->o5=some b->a≠b
 n46:∀ a b,o4=some a->o6=some b->a≠b
 n56:∀ a b,o5=some a->o6=some b->a≠b
def Bx (w8 W:World) (b:Nat):Prop:=w8.heap.size<=b/\∃ z:Array Value,W.heap[b]?=some (.cells z 73 (0,0))/\z.size=102
section
variable {w8 W W':World} {o4 o5 o6:Option Nat}
theorem Bx.tr {b:Nat} (h:Bx w8 W b) (hm:Mod N0 W W'):Bx w8 W' b:=by
 obtain ⟨h1,z,h2,h3⟩:=h
 exact ⟨h1,z,(hm.block _ (ltB h2) (fun q=>q)).trans h2,h3⟩
theorem Bx.ne {b:Nat} (h:Bx w8 W b):b≠W.heap.size:=by
 obtain ⟨h1,z,h2,h3⟩:=h
 have:=ltB h2
 omega
theorem R8.tr (h:R8 w8 W o4 o5 o6) (hm:Mod N0 W W'):R8 w8 W' o4 o5 o6:=
 ⟨h.mod.tr hm,fun b e=>Bx.tr (h.h4 b e) hm,fun b e=>Bx.tr (h.h5 b e) hm,fun b e=>Bx.tr (h.h6 b e) hm,h.n45,h.n46,h.n56⟩
theorem Bx.new (hm:Mod N0 w8 W) {z:Array Value} (hz:z.size=102):Bx w8 (W.alloc (.cells z 73)) W.heap.size:=⟨hm.size,z,newB W _,hz⟩
theorem R8.a4 (h:R8 w8 W none o5 o6) {z:Array Value} (hz:z.size=102):R8 w8 (W.alloc (.cells z 73)) (some W.heap.size) o5 o6:=by
 have hm:Mod N0 W (W.alloc (.cells z 73)):=(Mod.refl _ W).alloc _
 refine ⟨h.mod.tr hm,fun b e=>?_,fun b e=>Bx.tr (h.h5 b e) hm,fun b e=>Bx.tr (h.h6 b e) hm,fun a b e e'=>?_,fun a b e e'=>?_,h.n56⟩
 ·cases e; exact Bx.new h.mod hz
 ·cases e; exact (Bx.ne (h.h5 b e')).symm
 ·cases e; exact (Bx.ne (h.h6 b e')).symm
theorem R8.a5 (h:R8 w8 W o4 none o6) {z:Array Value} (hz:z.size=102):R8 w8 (W.alloc (.cells z 73)) o4 (some W.heap.size) o6:=by
 have hm:Mod N0 W (W.alloc (.cells z 73)):=(Mod.refl _ W).alloc _
 refine ⟨h.mod.tr hm,fun b e=>Bx.tr (h.h4 b e) hm,fun b e=>?_,fun b e=>Bx.tr (h.h6 b e) hm,fun a b e e'=>?_,h.n46,fun a b e e'=>?_⟩
 ·cases e; exact Bx.new h.mod hz
 ·cases e'; exact Bx.ne (h.h4 a e)
 ·cases e; exact (Bx.ne (h.h6 b e')).symm
theorem R8.a6 (h:R8 w8 W o4 o5 none) {z:Array Value} (hz:z.size=102):R8 w8 (W.alloc (.cells z 73)) o4 o5 (some W.heap.size):=by
 have hm:Mod N0 W (W.alloc (.cells z 73)):=(Mod.refl _ W).alloc _
 refine ⟨h.mod.tr hm,fun b e=>Bx.tr (h.h4 b e) hm,fun b e=>Bx.tr (h.h5 b e) hm,fun b e=>?_,h.n45,fun a b e e'=>?_,fun a b e e'=>?_⟩
 ·cases e; exact Bx.new h.mod hz
 ·cases e'; exact Bx.ne (h.h4 a e)
 ·cases e'; exact Bx.ne (h.h5 a e)
/-- The three boxes, laid out. -/
structure T8 (w8 W:World) (b4 b5 b6:Nat) (p4 p5 p6:List Value):Prop where
 mod:Mod N0 w8 W
 c4:W.heap[b4]?=some (.cells p4.toArray 73 (0,0))
 c5:W.heap[b5]?=some (.cells p5.toArray 73 (0,0))
 c6:W.heap[b6]?=some (.cells p6.toArray 73 (0,0))
 l4:w8.heap.size<=b4
 l5:w8.heap.size<=b5
 n45:b4≠b5
 n46:b4≠b6
 n56:b5≠b6
theorem R8.put {b4 b5 b6:Nat} (h:R8 w8 W (some b4) (some b5) (some b6)) (x y u:Ent) :
  ∃ W4 W5 W6,(storeVar 73 ⟨b4,0,none⟩ (.agg (entCells x none 0).toArray)).run Tryz.prog W=.ok () W4/\Mod N0 w8 W4/\(storeVar 73 ⟨b5,0,none⟩ (.agg (entCells y none 0).toArray)).run Tryz.prog W4=.ok () W5/\Mod N0 w8 W5 /\
   (storeVar 73 ⟨b6,0,none⟩ (.agg (entCells u none 0).toArray)).run Tryz.prog W5=.ok () W6/\T8 w8 W6 b4 b5 b6 (entCells x none 0) (entCells y none 0) (entCells u none 0):=by
 obtain ⟨l4,z4,k4,s4⟩:=h.h4 b4 rfl
 obtain ⟨l5,z5,k5,s5⟩:=h.h5 b5 rfl
 obtain ⟨l6,z6,k6,s6⟩:=h.h6 b6 rfl
 have n45:=h.n45 b4 b5 rfl rfl
 have n46:=h.n46 b4 b6 rfl rfl
 have n56:=h.n56 b5 b6 rfl rfl
 have st4:=run_storeVar_row (P:=Tryz.prog) W b4 73 73 z4 (entCells x none 0).toArray k4 (by rw [size51]; simp [entCells_length]) (by simp [s4,entCells_length]) (entCells_one _ _ _)
 have c4:=setRow_same (cs:=(entCells x none 0).toArray) k4
 have m4:Mod (fun q=>q=b4) W (W.setRow b4 (entCells x none 0).toArray):=Mod_setRow (Mod.refl (fun q=>q=b4) W) (b:=b4) (fun _=>rfl) _
 generalize W.setRow b4 (entCells x none 0).toArray=W4 at st4 c4 m4
 have k5':=(m4.block b5 (ltB k5) (fun e=>n45 e.symm)).trans k5
 have k6':=(m4.block b6 (ltB k6) (fun e=>n46 e.symm)).trans k6
 have st5:=run_storeVar_row (P:=Tryz.prog) W4 b5 73 73 z5 (entCells y none 0).toArray k5' (by rw [size51]; simp [entCells_length]) (by simp [s5,entCells_length]) (entCells_one _ _ _)
 have c5:=setRow_same (cs:=(entCells y none 0).toArray) k5'
 have m5:Mod (fun q=>q=b5) W4 (W4.setRow b5 (entCells y none 0).toArray):=Mod_setRow (Mod.refl (fun q=>q=b5) W4) (b:=b5) (fun _=>rfl) _
 generalize W4.setRow b5 (entCells y none 0).toArray=W5 at st5 c5 m5
 have k6'':=(m5.block b6 (ltB k6') (fun e=>n56 e.symm)).trans k6'
 have st6:=run_storeVar_row (P:=Tryz.prog) W5 b6 73 73 z6 (entCells u none 0).toArray k6'' (by rw [size51]; simp [entCells_length]) (by simp [s6,entCells_length]) (entCells_one _ _ _)
 have c6:=setRow_same (cs:=(entCells u none 0).toArray) k6''
 have m6:Mod (fun q=>q=b6) W5 (W5.setRow b6 (entCells u none 0).toArray):=Mod_setRow (Mod.refl (fun q=>q=b6) W5) (b:=b6) (fun _=>rfl) _
 have c4':=(m5.block b4 (ltB c4) n45).trans c4
 have c4'':=(m6.block b4 (ltB c4') n46).trans c4'
 have c5':=(m6.block b5 (ltB c5) n56).trans c5
 have a4:Mod N0 w8 W4:=h.mod.trans m4 (fun q e hl=>by omega)
 have a5:Mod N0 w8 W5:=a4.trans m5 (fun q e hl=>by omega)
 exact ⟨W4,W5,_,st4,a4,st5,a5,st6,a5.trans m6 (fun q e hl=>by omega),c4'',c5',c6,l4,l5,n45,n46,n56⟩
end
theorem T8.keep {w8 W W':World} {b4 b5 b6:Nat} {p4 p5 p6:List Value} (h:T8 w8 W b4 b5 b6 p4 p5 p6) (hm:Mod N0 W W'):T8 w8 W' b4 b5 b6 p4 p5 p6:=
 ⟨h.mod.tr hm,(hm.block _ (ltB h.c4) (fun q=>q)).trans h.c4,(hm.block _ (ltB h.c5) (fun q=>q)).trans h.c5,(hm.block _ (ltB h.c6) (fun q=>q)).trans h.c6,h.l4,h.l5,h.n45,h.n46,h.n56⟩
def O8:Array Oper:=#[⟨some 22,.move (.tmp 1),60, "law.go:51",#[],none⟩,⟨some 23,.move (.tmp 2),3, "law.go:51",#[],none⟩,⟨some 24,.indexAddr 60 (.tmp 22) (.tmp 23),0, "law.go:51",#[⟨0,.data⟩,⟨1,.data⟩],none⟩,⟨some 25,.load 2 (.tmp 24),2, "law.go:51",#[⟨2,.data⟩],none⟩,⟨some 26,.call {callee:=.value (.func 22),args:=#[.const (.int .i64 1),.tmp 25],argTypes:=#[3,2]},73, "law.go:51",#[⟨3,.data⟩],none⟩,⟨some 27,.move (.tmp 1),60, "law.go:51",#[],none⟩,⟨some 28,.move (.tmp 3),3, "law.go:51",#[],none⟩,⟨some 29,.indexAddr 60 (.tmp 27) (.tmp 28),0, "law.go:51",#[⟨5,.data⟩,⟨6,.data⟩],none⟩,⟨some 30,.load 2 (.tmp 29),2, "law.go:51",#[⟨7,.data⟩],none⟩,⟨some 31,.call {callee:=.value (.func 22),args:=#[.const (.int .i64 2),.tmp 30],argTypes:=#[3,2]},73, "law.go:51",#[⟨8,.data⟩,⟨4,.chain⟩],none⟩,⟨some 32,.call {callee:=.value (.func 22),args:=#[.const (.int .i64 1),.const (.int .i64 9223372036854775807)],argTypes:=#[3,2]},73, "law.go:51",#[⟨9,.chain⟩],none⟩,⟨some 4,.alloc 73,0, "law.go:51",#[],none⟩,⟨some 5,.alloc 73,0, "law.go:51",#[],none⟩,⟨some 6,.alloc 73,0, "law.go:51",#[],none⟩,⟨none,.store 73 (.tmp 4) (.tmp 26),0, "law.go:51",#[⟨11,.data⟩,⟨4,.data⟩,⟨10,.chain⟩,⟨0,.phase⟩,⟨1,.phase⟩,⟨2,.phase⟩,⟨3,.phase⟩,⟨4,.phase⟩,⟨5,.textOnly .lateStores⟩,⟨6,.textOnly .lateStores⟩,⟨7,.textOnly .lateStores⟩,⟨8,.textOnly .lateStores⟩,⟨9,.textOnly .lateStoresUnsure⟩,⟨10,.textOnly .lateStoresUnsure⟩,⟨11,.phase⟩,⟨12,.phase⟩,⟨13,.phase⟩],none⟩,⟨none,.store 73 (.tmp 5) (.tmp 31),0, "law.go:51",#[⟨12,.data⟩,⟨9,.data⟩,⟨14,.chain⟩,⟨0,.phase⟩,⟨1,.phase⟩,⟨2,.phase⟩,⟨3,.phase⟩,⟨4,.phase⟩,⟨5,.phase⟩,⟨6,.phase⟩,⟨7,.phase⟩,⟨8,.phase⟩,⟨9,.phase⟩,⟨10,.textOnly .lateStoresUnsure⟩,⟨11,.phase⟩,⟨12,.phase⟩,⟨13,.phase⟩,⟨14,.phase⟩],none⟩,⟨none,.store 73 (.tmp 6) (.tmp 32),0, "law.go:51",#[⟨13,.data⟩,⟨10,.data⟩,⟨15,.chain⟩,⟨0,.phase⟩,⟨1,.phase⟩,⟨2,.phase⟩,⟨3,.phase⟩,⟨4,.phase⟩,⟨5,.phase⟩,⟨6,.phase⟩,⟨7,.phase⟩,⟨8,.phase⟩,⟨9,.phase⟩,⟨10,.phase⟩,⟨11,.phase⟩,⟨12,.phase⟩,⟨13,.phase⟩,⟨14,.phase⟩,⟨15,.phase⟩],none⟩]
set_option maxRecDepth 100000 in
set_option maxHeartbeats 1000000 in
theorem reg8 {Q:Exit->Act->World->Prop} (w8 W:World) (ni nk:Int) {t0 t1 t2 t3 t4 t5 t6 t7 t8 t9 t10 t11 t12 t13 t14 t15 t16 t17 t18 t19 t20 t21 t22 t23 t24 t26 t27 t28 t29 t31 t32:Value} {rs:List Value} (hW:Mod N0 w8 W)
  (hfin:∀ b4 b5 b6 W',T8 w8 W' b4 b5 b6 (entCells (entE 1 ni) none 0) (entCells (entE 2 nk) none 0) (entCells (entE 1 9223372036854775807) none 0)->Q .normal ⟨(t0 :: t1 :: t2 :: t3 :: (.pointer (some ⟨b4,0,none⟩)) :: (.pointer (some ⟨b5,0,none⟩)) :: (.pointer (some ⟨b6,0,none⟩)) :: t7 :: t8 :: t9 :: t10 :: t11 :: t12 :: t13 :: t14 :: t15 :: t16 :: t17 :: t18 :: t19 :: t20 :: t21 :: t22 :: t23 :: t24 :: .int .i64 ni :: (.agg (entCells (entE 1 ni) none 0).toArray) :: t27 :: t28 :: t29 :: .int .i64 nk :: (.agg (entCells (entE 2 nk) none 0).toArray) :: (.agg (entCells (entE 1 9223372036854775807) none 0).toArray) :: rs).toArray,[]⟩ W') :
  wpAnyH Tryz.prog .any O8 Q (fun W=>Mod N0 w8 W) 9 #[true,true,true,true,false,true,true,true,true,false,false,false,false,false,false,false,false] ⟨(t0 :: t1 :: t2 :: t3 :: t4 :: t5 :: t6 :: t7 :: t8 :: t9 :: t10 :: t11 :: t12 :: t13 :: t14 :: t15 :: t16 :: t17 :: t18 :: t19 :: t20 :: t21 :: t22 :: t23 :: t24 :: .int .i64 ni :: t26 :: t27 :: t28 :: t29 :: .int .i64 nk :: t31 :: t32 :: rs).toArray,[]⟩ W:=by
 obtain ⟨z,hz,hzs⟩:=zv51
 have HZ:=hh (And.intro hz hzs)
 have HF:=hh hfin
 have HW:=hh hW
 clear hz hzs hfin hW
 have H3456:=hh (show ∀ (W:World) (b4 b5 b6:Nat),R8 w8 W (some b4) (some b5) (some b6)->wpAnyH Tryz.prog .any O8 Q (fun W=>Mod N0 w8 W) 3 #[true,true,true,true,true,true,true,true,true,true,true,true,true,true,false,false,false] ⟨(t0 :: t1 :: t2 :: t3 :: (.pointer (some ⟨b4,0,none⟩)) :: (.pointer (some ⟨b5,0,none⟩)) :: (.pointer (some ⟨b6,0,none⟩)) :: t7 :: t8 :: t9 :: t10 :: t11 :: t12 :: t13 :: t14 :: t15 :: t16 :: t17 :: t18 :: t19 :: t20 :: t21 :: t22 :: t23 :: t24 :: .int .i64 ni :: (.agg (entCells (entE 1 ni) none 0).toArray) :: t27 :: t28 :: t29 :: .int .i64 nk :: (.agg (entCells (entE 2 nk) none 0).toArray) :: (.agg (entCells (entE 1 9223372036854775807) none 0).toArray) :: rs).toArray,[]⟩ W from by
  intro W b4 b5 b6 hr
  have HQ:=hh hr
  clear hr
  obtain ⟨W4,W5,W6,s4,m4,s5,m5,s6,h8⟩:=HQ.out.put (entE 1 ni) (entE 2 nk) (entE 1 9223372036854775807)
  refine tr (rs:=[14]) ?_
  refine AllReadyH.cons (o:=⟨none,.store 73 (.tmp 4) (.tmp 26),0, "law.go:51",#[⟨11,.data⟩,⟨4,.data⟩,⟨10,.chain⟩,⟨0,.phase⟩,⟨1,.phase⟩,⟨2,.phase⟩,⟨3,.phase⟩,⟨4,.phase⟩,⟨5,.textOnly .lateStores⟩,⟨6,.textOnly .lateStores⟩,⟨7,.textOnly .lateStores⟩,⟨8,.textOnly .lateStores⟩,⟨9,.textOnly .lateStoresUnsure⟩,⟨10,.textOnly .lateStoresUnsure⟩,⟨11,.phase⟩,⟨12,.phase⟩,⟨13,.phase⟩],none⟩) rfl (fun K hK=>?_) AllReadyH.nil
  refine step_execS rfl (exec_store_pt _ _ rfl rfl rfl s4) ?_
  refine hK.out _ _ m4 (fun hH=>?_)
  clear hK K
  (try simp only [Act.put])
  refine tr (rs:=[15]) ?_
  refine AllReadyH.cons (o:=⟨none,.store 73 (.tmp 5) (.tmp 31),0, "law.go:51",#[⟨12,.data⟩,⟨9,.data⟩,⟨14,.chain⟩,⟨0,.phase⟩,⟨1,.phase⟩,⟨2,.phase⟩,⟨3,.phase⟩,⟨4,.phase⟩,⟨5,.phase⟩,⟨6,.phase⟩,⟨7,.phase⟩,⟨8,.phase⟩,⟨9,.phase⟩,⟨10,.textOnly .lateStoresUnsure⟩,⟨11,.phase⟩,⟨12,.phase⟩,⟨13,.phase⟩,⟨14,.phase⟩],none⟩) rfl (fun K hK=>?_) AllReadyH.nil
  refine step_execS rfl (exec_store_pt _ _ rfl rfl rfl s5) ?_
  refine hK.out _ _ m5 (fun hH=>?_)
  clear hK K
  (try simp only [Act.put])
  refine tr (rs:=[16]) ?_
  refine AllReadyH.cons (o:=⟨none,.store 73 (.tmp 6) (.tmp 32),0, "law.go:51",#[⟨13,.data⟩,⟨10,.data⟩,⟨15,.chain⟩,⟨0,.phase⟩,⟨1,.phase⟩,⟨2,.phase⟩,⟨3,.phase⟩,⟨4,.phase⟩,⟨5,.phase⟩,⟨6,.phase⟩,⟨7,.phase⟩,⟨8,.phase⟩,⟨9,.phase⟩,⟨10,.phase⟩,⟨11,.phase⟩,⟨12,.phase⟩,⟨13,.phase⟩,⟨14,.phase⟩,⟨15,.phase⟩],none⟩) rfl (fun K hK=>?_) AllReadyH.nil
  refine step_execS rfl (exec_store_pt _ _ rfl rfl rfl s6) ?_
  refine hK.out _ _ h8.mod (fun hH=>?_)
  clear hK K
  (try simp only [Act.put])
  refine wpAnyH_done (by kernel_rfl) ?_ _
  exact HF.out _ _ _ _ h8)
 have H345:=hh (show ∀ (W:World) (b4 b5:Nat),R8 w8 W (some b4) (some b5) none->wpAnyH Tryz.prog .any O8 Q (fun W=>Mod N0 w8 W) 4 #[true,true,true,true,true,true,true,true,true,true,true,true,true,false,false,false,false] ⟨(t0 :: t1 :: t2 :: t3 :: (.pointer (some ⟨b4,0,none⟩)) :: (.pointer (some ⟨b5,0,none⟩)) :: t6 :: t7 :: t8 :: t9 :: t10 :: t11 :: t12 :: t13 :: t14 :: t15 :: t16 :: t17 :: t18 :: t19 :: t20 :: t21 :: t22 :: t23 :: t24 :: .int .i64 ni :: (.agg (entCells (entE 1 ni) none 0).toArray) :: t27 :: t28 :: t29 :: .int .i64 nk :: (.agg (entCells (entE 2 nk) none 0).toArray) :: (.agg (entCells (entE 1 9223372036854775807) none 0).toArray) :: rs).toArray,[]⟩ W from by
  intro W b4 b5 hr
  have HQ:=hh hr
  clear hr
  refine tr (rs:=[13]) ?_
  refine AllReadyH.cons (o:=⟨some 6,.alloc 73,0, "law.go:51",#[],none⟩) rfl (fun K hK=>?_) AllReadyH.nil
  have h8:=HQ.out.a6 HZ.out.2
  refine step_execW rfl (exec_alloc _ _ 73 z rfl HZ.out.1) ?_
  refine hK.out _ _ h8.mod (fun hH=>?_)
  clear hK K
  (try simp only [Act.put,ja,jb,jc])
  exact H3456.out _ b4 b5 _ h8)
 have H346:=hh (show ∀ (W:World) (b4 b6:Nat),R8 w8 W (some b4) none (some b6)->wpAnyH Tryz.prog .any O8 Q (fun W=>Mod N0 w8 W) 4 #[true,true,true,true,true,true,true,true,true,true,true,true,false,true,false,false,false] ⟨(t0 :: t1 :: t2 :: t3 :: (.pointer (some ⟨b4,0,none⟩)) :: t5 :: (.pointer (some ⟨b6,0,none⟩)) :: t7 :: t8 :: t9 :: t10 :: t11 :: t12 :: t13 :: t14 :: t15 :: t16 :: t17 :: t18 :: t19 :: t20 :: t21 :: t22 :: t23 :: t24 :: .int .i64 ni :: (.agg (entCells (entE 1 ni) none 0).toArray) :: t27 :: t28 :: t29 :: .int .i64 nk :: (.agg (entCells (entE 2 nk) none 0).toArray) :: (.agg (entCells (entE 1 9223372036854775807) none 0).toArray) :: rs).toArray,[]⟩ W from by
  intro W b4 b6 hr
  have HQ:=hh hr
  clear hr
  refine tr (rs:=[12]) ?_
  refine AllReadyH.cons (o:=⟨some 5,.alloc 73,0, "law.go:51",#[],none⟩) rfl (fun K hK=>?_) AllReadyH.nil
  have h8:=HQ.out.a5 HZ.out.2
  refine step_execW rfl (exec_alloc _ _ 73 z rfl HZ.out.1) ?_
  refine hK.out _ _ h8.mod (fun hH=>?_)
  clear hK K
  (try simp only [Act.put,ja,jb,jc])
  exact H3456.out _ b4 _ b6 h8)
 have H356:=hh (show ∀ (W:World) (b5 b6:Nat),R8 w8 W none (some b5) (some b6)->wpAnyH Tryz.prog .any O8 Q (fun W=>Mod N0 w8 W) 4 #[true,true,true,true,true,true,true,true,true,true,true,false,true,true,false,false,false] ⟨(t0 :: t1 :: t2 :: t3 :: t4 :: (.pointer (some ⟨b5,0,none⟩)) :: (.pointer (some ⟨b6,0,none⟩)) :: t7 :: t8 :: t9 :: t10 :: t11 :: t12 :: t13 :: t14 :: t15 :: t16 :: t17 :: t18 :: t19 :: t20 :: t21 :: t22 :: t23 :: t24 :: .int .i64 ni :: (.agg (entCells (entE 1 ni) none 0).toArray) :: t27 :: t28 :: t29 :: .int .i64 nk :: (.agg (entCells (entE 2 nk) none 0).toArray) :: (.agg (entCells (entE 1 9223372036854775807) none 0).toArray) :: rs).toArray,[]⟩ W from by
  intro W b5 b6 hr
  have HQ:=hh hr
  clear hr
  refine tr (rs:=[11]) ?_
  refine AllReadyH.cons (o:=⟨some 4,.alloc 73,0, "law.go:51",#[],none⟩) rfl (fun K hK=>?_) AllReadyH.nil
  have h8:=HQ.out.a4 HZ.out.2
  refine step_execW rfl (exec_alloc _ _ 73 z rfl HZ.out.1) ?_
  refine hK.out _ _ h8.mod (fun hH=>?_)
  clear hK K
  (try simp only [Act.put,ja,jb,jc])
  exact H3456.out _ _ b5 b6 h8)
 have H34:=hh (show ∀ (W:World) (b4:Nat),R8 w8 W (some b4) none none->wpAnyH Tryz.prog .any O8 Q (fun W=>Mod N0 w8 W) 5 #[true,true,true,true,true,true,true,true,true,true,true,true,false,false,false,false,false] ⟨(t0 :: t1 :: t2 :: t3 :: (.pointer (some ⟨b4,0,none⟩)) :: t5 :: t6 :: t7 :: t8 :: t9 :: t10 :: t11 :: t12 :: t13 :: t14 :: t15 :: t16 :: t17 :: t18 :: t19 :: t20 :: t21 :: t22 :: t23 :: t24 :: .int .i64 ni :: (.agg (entCells (entE 1 ni) none 0).toArray) :: t27 :: t28 :: t29 :: .int .i64 nk :: (.agg (entCells (entE 2 nk) none 0).toArray) :: (.agg (entCells (entE 1 9223372036854775807) none 0).toArray) :: rs).toArray,[]⟩ W from by
  intro W b4 hr
  have HQ:=hh hr
  clear hr
  refine tr (rs:=[12,13]) ?_
  refine AllReadyH.cons (o:=⟨some 5,.alloc 73,0, "law.go:51",#[],none⟩) rfl (fun K hK=>?_) (AllReadyH.cons (o:=⟨some 6,.alloc 73,0, "law.go:51",#[],none⟩) rfl (fun K hK=>?_) AllReadyH.nil)
  ·have h8:=HQ.out.a5 HZ.out.2
   refine step_execW rfl (exec_alloc _ _ 73 z rfl HZ.out.1) ?_
   refine hK.out _ _ h8.mod (fun hH=>?_)
   clear hK K
   (try simp only [Act.put,ja,jb,jc])
   exact H345.out _ b4 _ h8
  ·have h8:=HQ.out.a6 HZ.out.2
   refine step_execW rfl (exec_alloc _ _ 73 z rfl HZ.out.1) ?_
   refine hK.out _ _ h8.mod (fun hH=>?_)
   clear hK K
   (try simp only [Act.put,ja,jb,jc])
   exact H346.out _ b4 _ h8)
 have H35:=hh (show ∀ (W:World) (b5:Nat),R8 w8 W none (some b5) none->wpAnyH Tryz.prog .any O8 Q (fun W=>Mod N0 w8 W) 5 #[true,true,true,true,true,true,true,true,true,true,true,false,true,false,false,false,false] ⟨(t0 :: t1 :: t2 :: t3 :: t4 :: (.pointer (some ⟨b5,0,none⟩)) :: t6 :: t7 :: t8 :: t9 :: t10 :: t11 :: t12 :: t13 :: t14 :: t15 :: t16 :: t17 :: t18 :: t19 :: t20 :: t21 :: t22 :: t23 :: t24 :: .int .i64 ni :: (.agg (entCells (entE 1 ni) none 0).toArray) :: t27 :: t28 :: t29 :: .int .i64 nk :: (.agg (entCells (entE 2 nk) none 0).toArray) :: (.agg (entCells (entE 1 9223372036854775807) none 0).toArray) :: rs).toArray,[]⟩ W from by
  intro W b5 hr
  have HQ:=hh hr
  clear hr
  refine tr (rs:=[11,13]) ?_
  refine AllReadyH.cons (o:=⟨some 4,.alloc 73,0, "law.go:51",#[],none⟩) rfl (fun K hK=>?_) (AllReadyH.cons (o:=⟨some 6,.alloc 73,0, "law.go:51",#[],none⟩) rfl (fun K hK=>?_) AllReadyH.nil)
  ·have h8:=HQ.out.a4 HZ.out.2
   refine step_execW rfl (exec_alloc _ _ 73 z rfl HZ.out.1) ?_
   refine hK.out _ _ h8.mod (fun hH=>?_)
   clear hK K
   (try simp only [Act.put,ja,jb,jc])
   exact H345.out _ _ b5 h8
  ·have h8:=HQ.out.a6 HZ.out.2
   refine step_execW rfl (exec_alloc _ _ 73 z rfl HZ.out.1) ?_
   refine hK.out _ _ h8.mod (fun hH=>?_)
   clear hK K
   (try simp only [Act.put,ja,jb,jc])
   exact H356.out _ b5 _ h8)
 have H36:=hh (show ∀ (W:World) (b6:Nat),R8 w8 W none none (some b6)->wpAnyH Tryz.prog .any O8 Q (fun W=>Mod N0 w8 W) 5 #[true,true,true,true,true,true,true,true,true,true,true,false,false,true,false,false,false] ⟨(t0 :: t1 :: t2 :: t3 :: t4 :: t5 :: (.pointer (some ⟨b6,0,none⟩)) :: t7 :: t8 :: t9 :: t10 :: t11 :: t12 :: t13 :: t14 :: t15 :: t16 :: t17 :: t18 :: t19 :: t20 :: t21 :: t22 :: t23 :: t24 :: .int .i64 ni :: (.agg (entCells (entE 1 ni) none 0).toArray) :: t27 :: t28 :: t29 :: .int .i64 nk :: (.agg (entCells (entE 2 nk) none 0).toArray) :: (.agg (entCells (entE 1 9223372036854775807) none 0).toArray) :: rs).toArray,[]⟩ W from by
  intro W b6 hr
  have HQ:=hh hr
  clear hr
  refine tr (rs:=[11,12]) ?_
  refine AllReadyH.cons (o:=⟨some 4,.alloc 73,0, "law.go:51",#[],none⟩) rfl (fun K hK=>?_) (AllReadyH.cons (o:=⟨some 5,.alloc 73,0, "law.go:51",#[],none⟩) rfl (fun K hK=>?_) AllReadyH.nil)
  ·have h8:=HQ.out.a4 HZ.out.2
   refine step_execW rfl (exec_alloc _ _ 73 z rfl HZ.out.1) ?_
   refine hK.out _ _ h8.mod (fun hH=>?_)
   clear hK K
   (try simp only [Act.put,ja,jb,jc])
   exact H346.out _ _ b6 h8
  ·have h8:=HQ.out.a5 HZ.out.2
   refine step_execW rfl (exec_alloc _ _ 73 z rfl HZ.out.1) ?_
   refine hK.out _ _ h8.mod (fun hH=>?_)
   clear hK K
   (try simp only [Act.put,ja,jb,jc])
   exact H356.out _ _ b6 h8)
 have H3:=hh (show ∀ (W:World),R8 w8 W none none none->wpAnyH Tryz.prog .any O8 Q (fun W=>Mod N0 w8 W) 6 #[true,true,true,true,true,true,true,true,true,true,true,false,false,false,false,false,false] ⟨(t0 :: t1 :: t2 :: t3 :: t4 :: t5 :: t6 :: t7 :: t8 :: t9 :: t10 :: t11 :: t12 :: t13 :: t14 :: t15 :: t16 :: t17 :: t18 :: t19 :: t20 :: t21 :: t22 :: t23 :: t24 :: .int .i64 ni :: (.agg (entCells (entE 1 ni) none 0).toArray) :: t27 :: t28 :: t29 :: .int .i64 nk :: (.agg (entCells (entE 2 nk) none 0).toArray) :: (.agg (entCells (entE 1 9223372036854775807) none 0).toArray) :: rs).toArray,[]⟩ W from by
  intro W hr
  have HQ:=hh hr
  clear hr
  refine tr (rs:=[11,12,13]) ?_
  refine AllReadyH.cons (o:=⟨some 4,.alloc 73,0, "law.go:51",#[],none⟩) rfl (fun K hK=>?_) (AllReadyH.cons (o:=⟨some 5,.alloc 73,0, "law.go:51",#[],none⟩) rfl (fun K hK=>?_) (AllReadyH.cons (o:=⟨some 6,.alloc 73,0, "law.go:51",#[],none⟩) rfl (fun K hK=>?_) AllReadyH.nil))
  ·have h8:=HQ.out.a4 HZ.out.2
   refine step_execW rfl (exec_alloc _ _ 73 z rfl HZ.out.1) ?_
   refine hK.out _ _ h8.mod (fun hH=>?_)
   clear hK K
   (try simp only [Act.put,ja,jb,jc])
   exact H34.out _ _ h8
  ·have h8:=HQ.out.a5 HZ.out.2
   refine step_execW rfl (exec_alloc _ _ 73 z rfl HZ.out.1) ?_
   refine hK.out _ _ h8.mod (fun hH=>?_)
   clear hK K
   (try simp only [Act.put,ja,jb,jc])
   exact H35.out _ _ h8
  ·have h8:=HQ.out.a6 HZ.out.2
   refine step_execW rfl (exec_alloc _ _ 73 z rfl HZ.out.1) ?_
   refine hK.out _ _ h8.mod (fun hH=>?_)
   clear hK K
   (try simp only [Act.put,ja,jb,jc])
   exact H36.out _ _ h8)
 have H2456:=hh (show ∀ (W:World) (b4 b5 b6:Nat),R8 w8 W (some b4) (some b5) (some b6)->wpAnyH Tryz.prog .any O8 Q (fun W=>Mod N0 w8 W) 4 #[true,true,true,true,true,true,true,true,true,true,false,true,true,true,false,false,false] ⟨(t0 :: t1 :: t2 :: t3 :: (.pointer (some ⟨b4,0,none⟩)) :: (.pointer (some ⟨b5,0,none⟩)) :: (.pointer (some ⟨b6,0,none⟩)) :: t7 :: t8 :: t9 :: t10 :: t11 :: t12 :: t13 :: t14 :: t15 :: t16 :: t17 :: t18 :: t19 :: t20 :: t21 :: t22 :: t23 :: t24 :: .int .i64 ni :: (.agg (entCells (entE 1 ni) none 0).toArray) :: t27 :: t28 :: t29 :: .int .i64 nk :: (.agg (entCells (entE 2 nk) none 0).toArray) :: t32 :: rs).toArray,[]⟩ W from by
  intro W b4 b5 b6 hr
  have HQ:=hh hr
  clear hr
  refine tr (rs:=[10]) ?_
  refine AllReadyH.cons (o:=⟨some 32,.call {callee:=.value (.func 22),args:=#[.const (.int .i64 1),.const (.int .i64 9223372036854775807)],argTypes:=#[3,2]},73, "law.go:51",#[⟨9,.chain⟩],none⟩) rfl (fun K hK=>?_) AllReadyH.nil
  go_simp
  refine (entry1c_calls 9223372036854775807 W).mono ?_
  rintro e W' ⟨rfl,hm⟩
  have h8:=HQ.out.tr hm
  refine hK.out _ _ h8.mod (fun hH=>?_)
  clear hK K
  (try simp only [List.setIfInBounds_toArray,List.set_cons_zero,List.set_cons_succ])
  exact H3456.out W' b4 b5 b6 h8)
 have H245:=hh (show ∀ (W:World) (b4 b5:Nat),R8 w8 W (some b4) (some b5) none->wpAnyH Tryz.prog .any O8 Q (fun W=>Mod N0 w8 W) 5 #[true,true,true,true,true,true,true,true,true,true,false,true,true,false,false,false,false] ⟨(t0 :: t1 :: t2 :: t3 :: (.pointer (some ⟨b4,0,none⟩)) :: (.pointer (some ⟨b5,0,none⟩)) :: t6 :: t7 :: t8 :: t9 :: t10 :: t11 :: t12 :: t13 :: t14 :: t15 :: t16 :: t17 :: t18 :: t19 :: t20 :: t21 :: t22 :: t23 :: t24 :: .int .i64 ni :: (.agg (entCells (entE 1 ni) none 0).toArray) :: t27 :: t28 :: t29 :: .int .i64 nk :: (.agg (entCells (entE 2 nk) none 0).toArray) :: t32 :: rs).toArray,[]⟩ W from by
  intro W b4 b5 hr
  have HQ:=hh hr
  clear hr
  refine tr (rs:=[10,13]) ?_
  refine AllReadyH.cons (o:=⟨some 32,.call {callee:=.value (.func 22),args:=#[.const (.int .i64 1),.const (.int .i64 9223372036854775807)],argTypes:=#[3,2]},73, "law.go:51",#[⟨9,.chain⟩],none⟩) rfl (fun K hK=>?_) (AllReadyH.cons (o:=⟨some 6,.alloc 73,0, "law.go:51",#[],none⟩) rfl (fun K hK=>?_) AllReadyH.nil)
  ·go_simp
   refine (entry1c_calls 9223372036854775807 W).mono ?_
   rintro e W' ⟨rfl,hm⟩
   have h8:=HQ.out.tr hm
   refine hK.out _ _ h8.mod (fun hH=>?_)
   clear hK K
   (try simp only [List.setIfInBounds_toArray,List.set_cons_zero,List.set_cons_succ])
   exact H345.out W' b4 b5 h8
  ·have h8:=HQ.out.a6 HZ.out.2
   refine step_execW rfl (exec_alloc _ _ 73 z rfl HZ.out.1) ?_
   refine hK.out _ _ h8.mod (fun hH=>?_)
   clear hK K
   (try simp only [Act.put,ja,jb,jc])
   exact H2456.out _ b4 b5 _ h8)
 have H246:=hh (show ∀ (W:World) (b4 b6:Nat),R8 w8 W (some b4) none (some b6)->wpAnyH Tryz.prog .any O8 Q (fun W=>Mod N0 w8 W) 5 #[true,true,true,true,true,true,true,true,true,true,false,true,false,true,false,false,false] ⟨(t0 :: t1 :: t2 :: t3 :: (.pointer (some ⟨b4,0,none⟩)) :: t5 :: (.pointer (some ⟨b6,0,none⟩)) :: t7 :: t8 :: t9 :: t10 :: t11 :: t12 :: t13 :: t14 :: t15 :: t16 :: t17 :: t18 :: t19 :: t20 :: t21 :: t22 :: t23 :: t24 :: .int .i64 ni :: (.agg (entCells (entE 1 ni) none 0).toArray) :: t27 :: t28 :: t29 :: .int .i64 nk :: (.agg (entCells (entE 2 nk) none 0).toArray) :: t32 :: rs).toArray,[]⟩ W from by
  intro W b4 b6 hr
  have HQ:=hh hr
  clear hr
  refine tr (rs:=[10,12]) ?_
  refine AllReadyH.cons (o:=⟨some 32,.call {callee:=.value (.func 22),args:=#[.const (.int .i64 1),.const (.int .i64 9223372036854775807)],argTypes:=#[3,2]},73, "law.go:51",#[⟨9,.chain⟩],none⟩) rfl (fun K hK=>?_) (AllReadyH.cons (o:=⟨some 5,.alloc 73,0, "law.go:51",#[],none⟩) rfl (fun K hK=>?_) AllReadyH.nil)
  ·go_simp
   refine (entry1c_calls 9223372036854775807 W).mono ?_
   rintro e W' ⟨rfl,hm⟩
   have h8:=HQ.out.tr hm
   refine hK.out _ _ h8.mod (fun hH=>?_)
   clear hK K
   (try simp only [List.setIfInBounds_toArray,List.set_cons_zero,List.set_cons_succ])
   exact H346.out W' b4 b6 h8
  ·have h8:=HQ.out.a5 HZ.out.2
   refine step_execW rfl (exec_alloc _ _ 73 z rfl HZ.out.1) ?_
   refine hK.out _ _ h8.mod (fun hH=>?_)
   clear hK K
   (try simp only [Act.put,ja,jb,jc])
   exact H2456.out _ b4 _ b6 h8)
 have H256:=hh (show ∀ (W:World) (b5 b6:Nat),R8 w8 W none (some b5) (some b6)->wpAnyH Tryz.prog .any O8 Q (fun W=>Mod N0 w8 W) 5 #[true,true,true,true,true,true,true,true,true,true,false,false,true,true,false,false,false] ⟨(t0 :: t1 :: t2 :: t3 :: t4 :: (.pointer (some ⟨b5,0,none⟩)) :: (.pointer (some ⟨b6,0,none⟩)) :: t7 :: t8 :: t9 :: t10 :: t11 :: t12 :: t13 :: t14 :: t15 :: t16 :: t17 :: t18 :: t19 :: t20 :: t21 :: t22 :: t23 :: t24 :: .int .i64 ni :: (.agg (entCells (entE 1 ni) none 0).toArray) :: t27 :: t28 :: t29 :: .int .i64 nk :: (.agg (entCells (entE 2 nk) none 0).toArray) :: t32 :: rs).toArray,[]⟩ W from by
  intro W b5 b6 hr
  have HQ:=hh hr
  clear hr
  refine tr (rs:=[10,11]) ?_
  refine AllReadyH.cons (o:=⟨some 32,.call {callee:=.value (.func 22),args:=#[.const (.int .i64 1),.const (.int .i64 9223372036854775807)],argTypes:=#[3,2]},73, "law.go:51",#[⟨9,.chain⟩],none⟩) rfl (fun K hK=>?_) (AllReadyH.cons (o:=⟨some 4,.alloc 73,0, "law.go:51",#[],none⟩) rfl (fun K hK=>?_) AllReadyH.nil)
  ·go_simp
   refine (entry1c_calls 9223372036854775807 W).mono ?_
   rintro e W' ⟨rfl,hm⟩
   have h8:=HQ.out.tr hm
   refine hK.out _ _ h8.mod (fun hH=>?_)
   clear hK K
   (try simp only [List.setIfInBounds_toArray,List.set_cons_zero,List.set_cons_succ])
   exact H356.out W' b5 b6 h8
  ·have h8:=HQ.out.a4 HZ.out.2
   refine step_execW rfl (exec_alloc _ _ 73 z rfl HZ.out.1) ?_
   refine hK.out _ _ h8.mod (fun hH=>?_)
   clear hK K
   (try simp only [Act.put,ja,jb,jc])
   exact H2456.out _ _ b5 b6 h8)
 have H24:=hh (show ∀ (W:World) (b4:Nat),R8 w8 W (some b4) none none->wpAnyH Tryz.prog .any O8 Q (fun W=>Mod N0 w8 W) 6 #[true,true,true,true,true,true,true,true,true,true,false,true,false,false,false,false,false] ⟨(t0 :: t1 :: t2 :: t3 :: (.pointer (some ⟨b4,0,none⟩)) :: t5 :: t6 :: t7 :: t8 :: t9 :: t10 :: t11 :: t12 :: t13 :: t14 :: t15 :: t16 :: t17 :: t18 :: t19 :: t20 :: t21 :: t22 :: t23 :: t24 :: .int .i64 ni :: (.agg (entCells (entE 1 ni) none 0).toArray) :: t27 :: t28 :: t29 :: .int .i64 nk :: (.agg (entCells (entE 2 nk) none 0).toArray) :: t32 :: rs).toArray,[]⟩ W from by
  intro W b4 hr
  have HQ:=hh hr
  clear hr
  refine tr (rs:=[10,12,13]) ?_
  refine AllReadyH.cons (o:=⟨some 32,.call {callee:=.value (.func 22),args:=#[.const (.int .i64 1),.const (.int .i64 9223372036854775807)],argTypes:=#[3,2]},73, "law.go:51",#[⟨9,.chain⟩],none⟩) rfl (fun K hK=>?_) (AllReadyH.cons (o:=⟨some 5,.alloc 73,0, "law.go:51",#[],none⟩) rfl (fun K hK=>?_) (AllReadyH.cons (o:=⟨some 6,.alloc 73,0, "law.go:51",#[],none⟩) rfl (fun K hK=>?_) AllReadyH.nil))
  ·go_simp
   refine (entry1c_calls 9223372036854775807 W).mono ?_
   rintro e W' ⟨rfl,hm⟩
   have h8:=HQ.out.tr hm
   refine hK.out _ _ h8.mod (fun hH=>?_)
   clear hK K
   (try simp only [List.setIfInBounds_toArray,List.set_cons_zero,List.set_cons_succ])
   exact H34.out W' b4 h8
  ·have h8:=HQ.out.a5 HZ.out.2
   refine step_execW rfl (exec_alloc _ _ 73 z rfl HZ.out.1) ?_
   refine hK.out _ _ h8.mod (fun hH=>?_)
   clear hK K
   (try simp only [Act.put,ja,jb,jc])
   exact H245.out _ b4 _ h8
  ·have h8:=HQ.out.a6 HZ.out.2
   refine step_execW rfl (exec_alloc _ _ 73 z rfl HZ.out.1) ?_
   refine hK.out _ _ h8.mod (fun hH=>?_)
   clear hK K
   (try simp only [Act.put,ja,jb,jc])
   exact H246.out _ b4 _ h8)
 have H25:=hh (show ∀ (W:World) (b5:Nat),R8 w8 W none (some b5) none->wpAnyH Tryz.prog .any O8 Q (fun W=>Mod N0 w8 W) 6 #[true,true,true,true,true,true,true,true,true,true,false,false,true,false,false,false,false] ⟨(t0 :: t1 :: t2 :: t3 :: t4 :: (.pointer (some ⟨b5,0,none⟩)) :: t6 :: t7 :: t8 :: t9 :: t10 :: t11 :: t12 :: t13 :: t14 :: t15 :: t16 :: t17 :: t18 :: t19 :: t20 :: t21 :: t22 :: t23 :: t24 :: .int .i64 ni :: (.agg (entCells (entE 1 ni) none 0).toArray) :: t27 :: t28 :: t29 :: .int .i64 nk :: (.agg (entCells (entE 2 nk) none 0).toArray) :: t32 :: rs).toArray,[]⟩ W from by
  intro W b5 hr
  have HQ:=hh hr
  clear hr
  refine tr (rs:=[10,11,13]) ?_
  refine AllReadyH.cons (o:=⟨some 32,.call {callee:=.value (.func 22),args:=#[.const (.int .i64 1),.const (.int .i64 9223372036854775807)],argTypes:=#[3,2]},73, "law.go:51",#[⟨9,.chain⟩],none⟩) rfl (fun K hK=>?_) (AllReadyH.cons (o:=⟨some 4,.alloc 73,0, "law.go:51",#[],none⟩) rfl (fun K hK=>?_) (AllReadyH.cons (o:=⟨some 6,.alloc 73,0, "law.go:51",#[],none⟩) rfl (fun K hK=>?_) AllReadyH.nil))
  ·go_simp
   refine (entry1c_calls 9223372036854775807 W).mono ?_
   rintro e W' ⟨rfl,hm⟩
   have h8:=HQ.out.tr hm
   refine hK.out _ _ h8.mod (fun hH=>?_)
   clear hK K
   (try simp only [List.setIfInBounds_toArray,List.set_cons_zero,List.set_cons_succ])
   exact H35.out W' b5 h8
  ·have h8:=HQ.out.a4 HZ.out.2
   refine step_execW rfl (exec_alloc _ _ 73 z rfl HZ.out.1) ?_
   refine hK.out _ _ h8.mod (fun hH=>?_)
   clear hK K
   (try simp only [Act.put,ja,jb,jc])
   exact H245.out _ _ b5 h8
  ·have h8:=HQ.out.a6 HZ.out.2
   refine step_execW rfl (exec_alloc _ _ 73 z rfl HZ.out.1) ?_
   refine hK.out _ _ h8.mod (fun hH=>?_)
   clear hK K
   (try simp only [Act.put,ja,jb,jc])
   exact H256.out _ b5 _ h8)
 have H26:=hh (show ∀ (W:World) (b6:Nat),R8 w8 W none none (some b6)->wpAnyH Tryz.prog .any O8 Q (fun W=>Mod N0 w8 W) 6 #[true,true,true,true,true,true,true,true,true,true,false,false,false,true,false,false,false] ⟨(t0 :: t1 :: t2 :: t3 :: t4 :: t5 :: (.pointer (some ⟨b6,0,none⟩)) :: t7 :: t8 :: t9 :: t10 :: t11 :: t12 :: t13 :: t14 :: t15 :: t16 :: t17 :: t18 :: t19 :: t20 :: t21 :: t22 :: t23 :: t24 :: .int .i64 ni :: (.agg (entCells (entE 1 ni) none 0).toArray) :: t27 :: t28 :: t29 :: .int .i64 nk :: (.agg (entCells (entE 2 nk) none 0).toArray) :: t32 :: rs).toArray,[]⟩ W from by
  intro W b6 hr
  have HQ:=hh hr
  clear hr
  refine tr (rs:=[10,11,12]) ?_
  refine AllReadyH.cons (o:=⟨some 32,.call {callee:=.value (.func 22),args:=#[.const (.int .i64 1),.const (.int .i64 9223372036854775807)],argTypes:=#[3,2]},73, "law.go:51",#[⟨9,.chain⟩],none⟩) rfl (fun K hK=>?_) (AllReadyH.cons (o:=⟨some 4,.alloc 73,0, "law.go:51",#[],none⟩) rfl (fun K hK=>?_) (AllReadyH.cons (o:=⟨some 5,.alloc 73,0, "law.go:51",#[],none⟩) rfl (fun K hK=>?_) AllReadyH.nil))
  ·go_simp
   refine (entry1c_calls 9223372036854775807 W).mono ?_
   rintro e W' ⟨rfl,hm⟩
   have h8:=HQ.out.tr hm
   refine hK.out _ _ h8.mod (fun hH=>?_)
   clear hK K
   (try simp only [List.setIfInBounds_toArray,List.set_cons_zero,List.set_cons_succ])
   exact H36.out W' b6 h8
  ·have h8:=HQ.out.a4 HZ.out.2
   refine step_execW rfl (exec_alloc _ _ 73 z rfl HZ.out.1) ?_
   refine hK.out _ _ h8.mod (fun hH=>?_)
   clear hK K
   (try simp only [Act.put,ja,jb,jc])
   exact H246.out _ _ b6 h8
  ·have h8:=HQ.out.a5 HZ.out.2
   refine step_execW rfl (exec_alloc _ _ 73 z rfl HZ.out.1) ?_
   refine hK.out _ _ h8.mod (fun hH=>?_)
   clear hK K
   (try simp only [Act.put,ja,jb,jc])
   exact H256.out _ _ b6 h8)
 have H2:=hh (show ∀ (W:World),R8 w8 W none none none->wpAnyH Tryz.prog .any O8 Q (fun W=>Mod N0 w8 W) 7 #[true,true,true,true,true,true,true,true,true,true,false,false,false,false,false,false,false] ⟨(t0 :: t1 :: t2 :: t3 :: t4 :: t5 :: t6 :: t7 :: t8 :: t9 :: t10 :: t11 :: t12 :: t13 :: t14 :: t15 :: t16 :: t17 :: t18 :: t19 :: t20 :: t21 :: t22 :: t23 :: t24 :: .int .i64 ni :: (.agg (entCells (entE 1 ni) none 0).toArray) :: t27 :: t28 :: t29 :: .int .i64 nk :: (.agg (entCells (entE 2 nk) none 0).toArray) :: t32 :: rs).toArray,[]⟩ W from by
  intro W hr
  have HQ:=hh hr
  clear hr
  refine tr (rs:=[10,11,12,13]) ?_
  refine AllReadyH.cons (o:=⟨some 32,.call {callee:=.value (.func 22),args:=#[.const (.int .i64 1),.const (.int .i64 9223372036854775807)],argTypes:=#[3,2]},73, "law.go:51",#[⟨9,.chain⟩],none⟩) rfl (fun K hK=>?_) (AllReadyH.cons (o:=⟨some 4,.alloc 73,0, "law.go:51",#[],none⟩) rfl (fun K hK=>?_) (AllReadyH.cons (o:=⟨some 5,.alloc 73,0, "law.go:51",#[],none⟩) rfl (fun K hK=>?_) (AllReadyH.cons (o:=⟨some 6,.alloc 73,0, "law.go:51",#[],none⟩) rfl (fun K hK=>?_) AllReadyH.nil)))
  ·go_simp
   refine (entry1c_calls 9223372036854775807 W).mono ?_
   rintro e W' ⟨rfl,hm⟩
   have h8:=HQ.out.tr hm
   refine hK.out _ _ h8.mod (fun hH=>?_)
   clear hK K
   (try simp only [List.setIfInBounds_toArray,List.set_cons_zero,List.set_cons_succ])
   exact H3.out W' h8
  ·have h8:=HQ.out.a4 HZ.out.2
   refine step_execW rfl (exec_alloc _ _ 73 z rfl HZ.out.1) ?_
   refine hK.out _ _ h8.mod (fun hH=>?_)
   clear hK K
   (try simp only [Act.put,ja,jb,jc])
   exact H24.out _ _ h8
  ·have h8:=HQ.out.a5 HZ.out.2
   refine step_execW rfl (exec_alloc _ _ 73 z rfl HZ.out.1) ?_
   refine hK.out _ _ h8.mod (fun hH=>?_)
   clear hK K
   (try simp only [Act.put,ja,jb,jc])
   exact H25.out _ _ h8
  ·have h8:=HQ.out.a6 HZ.out.2
   refine step_execW rfl (exec_alloc _ _ 73 z rfl HZ.out.1) ?_
   refine hK.out _ _ h8.mod (fun hH=>?_)
   clear hK K
   (try simp only [Act.put,ja,jb,jc])
   exact H26.out _ _ h8)
 have H1456:=hh (show ∀ (W:World) (b4 b5 b6:Nat),R8 w8 W (some b4) (some b5) (some b6)->wpAnyH Tryz.prog .any O8 Q (fun W=>Mod N0 w8 W) 5 #[true,true,true,true,true,true,true,true,true,false,false,true,true,true,false,false,false] ⟨(t0 :: t1 :: t2 :: t3 :: (.pointer (some ⟨b4,0,none⟩)) :: (.pointer (some ⟨b5,0,none⟩)) :: (.pointer (some ⟨b6,0,none⟩)) :: t7 :: t8 :: t9 :: t10 :: t11 :: t12 :: t13 :: t14 :: t15 :: t16 :: t17 :: t18 :: t19 :: t20 :: t21 :: t22 :: t23 :: t24 :: .int .i64 ni :: (.agg (entCells (entE 1 ni) none 0).toArray) :: t27 :: t28 :: t29 :: .int .i64 nk :: t31 :: t32 :: rs).toArray,[]⟩ W from by
  intro W b4 b5 b6 hr
  have HQ:=hh hr
  clear hr
  refine tr (rs:=[9]) ?_
  refine AllReadyH.cons (o:=⟨some 31,.call {callee:=.value (.func 22),args:=#[.const (.int .i64 2),.tmp 30],argTypes:=#[3,2]},73, "law.go:51",#[⟨8,.data⟩,⟨4,.chain⟩],none⟩) rfl (fun K hK=>?_) AllReadyH.nil
  go_simp
  refine (entry2c_calls nk W).mono ?_
  rintro e W' ⟨rfl,hm⟩
  have h8:=HQ.out.tr hm
  refine hK.out _ _ h8.mod (fun hH=>?_)
  clear hK K
  (try simp only [List.setIfInBounds_toArray,List.set_cons_zero,List.set_cons_succ])
  exact H2456.out W' b4 b5 b6 h8)
 have H145:=hh (show ∀ (W:World) (b4 b5:Nat),R8 w8 W (some b4) (some b5) none->wpAnyH Tryz.prog .any O8 Q (fun W=>Mod N0 w8 W) 6 #[true,true,true,true,true,true,true,true,true,false,false,true,true,false,false,false,false] ⟨(t0 :: t1 :: t2 :: t3 :: (.pointer (some ⟨b4,0,none⟩)) :: (.pointer (some ⟨b5,0,none⟩)) :: t6 :: t7 :: t8 :: t9 :: t10 :: t11 :: t12 :: t13 :: t14 :: t15 :: t16 :: t17 :: t18 :: t19 :: t20 :: t21 :: t22 :: t23 :: t24 :: .int .i64 ni :: (.agg (entCells (entE 1 ni) none 0).toArray) :: t27 :: t28 :: t29 :: .int .i64 nk :: t31 :: t32 :: rs).toArray,[]⟩ W from by
  intro W b4 b5 hr
  have HQ:=hh hr
  clear hr
  refine tr (rs:=[9,13]) ?_
  refine AllReadyH.cons (o:=⟨some 31,.call {callee:=.value (.func 22),args:=#[.const (.int .i64 2),.tmp 30],argTypes:=#[3,2]},73, "law.go:51",#[⟨8,.data⟩,⟨4,.chain⟩],none⟩) rfl (fun K hK=>?_) (AllReadyH.cons (o:=⟨some 6,.alloc 73,0, "law.go:51",#[],none⟩) rfl (fun K hK=>?_) AllReadyH.nil)
  ·go_simp
   refine (entry2c_calls nk W).mono ?_
   rintro e W' ⟨rfl,hm⟩
   have h8:=HQ.out.tr hm
   refine hK.out _ _ h8.mod (fun hH=>?_)
   clear hK K
   (try simp only [List.setIfInBounds_toArray,List.set_cons_zero,List.set_cons_succ])
   exact H245.out W' b4 b5 h8
  ·have h8:=HQ.out.a6 HZ.out.2
   refine step_execW rfl (exec_alloc _ _ 73 z rfl HZ.out.1) ?_
   refine hK.out _ _ h8.mod (fun hH=>?_)
   clear hK K
   (try simp only [Act.put,ja,jb,jc])
   exact H1456.out _ b4 b5 _ h8)
 have H146:=hh (show ∀ (W:World) (b4 b6:Nat),R8 w8 W (some b4) none (some b6)->wpAnyH Tryz.prog .any O8 Q (fun W=>Mod N0 w8 W) 6 #[true,true,true,true,true,true,true,true,true,false,false,true,false,true,false,false,false] ⟨(t0 :: t1 :: t2 :: t3 :: (.pointer (some ⟨b4,0,none⟩)) :: t5 :: (.pointer (some ⟨b6,0,none⟩)) :: t7 :: t8 :: t9 :: t10 :: t11 :: t12 :: t13 :: t14 :: t15 :: t16 :: t17 :: t18 :: t19 :: t20 :: t21 :: t22 :: t23 :: t24 :: .int .i64 ni :: (.agg (entCells (entE 1 ni) none 0).toArray) :: t27 :: t28 :: t29 :: .int .i64 nk :: t31 :: t32 :: rs).toArray,[]⟩ W from by
  intro W b4 b6 hr
  have HQ:=hh hr
  clear hr
  refine tr (rs:=[9,12]) ?_
  refine AllReadyH.cons (o:=⟨some 31,.call {callee:=.value (.func 22),args:=#[.const (.int .i64 2),.tmp 30],argTypes:=#[3,2]},73, "law.go:51",#[⟨8,.data⟩,⟨4,.chain⟩],none⟩) rfl (fun K hK=>?_) (AllReadyH.cons (o:=⟨some 5,.alloc 73,0, "law.go:51",#[],none⟩) rfl (fun K hK=>?_) AllReadyH.nil)
  ·go_simp
   refine (entry2c_calls nk W).mono ?_
   rintro e W' ⟨rfl,hm⟩
   have h8:=HQ.out.tr hm
   refine hK.out _ _ h8.mod (fun hH=>?_)
   clear hK K
   (try simp only [List.setIfInBounds_toArray,List.set_cons_zero,List.set_cons_succ])
   exact H246.out W' b4 b6 h8
  ·have h8:=HQ.out.a5 HZ.out.2
   refine step_execW rfl (exec_alloc _ _ 73 z rfl HZ.out.1) ?_
   refine hK.out _ _ h8.mod (fun hH=>?_)
   clear hK K
   (try simp only [Act.put,ja,jb,jc])
   exact H1456.out _ b4 _ b6 h8)
 have H156:=hh (show ∀ (W:World) (b5 b6:Nat),R8 w8 W none (some b5) (some b6)->wpAnyH Tryz.prog .any O8 Q (fun W=>Mod N0 w8 W) 6 #[true,true,true,true,true,true,true,true,true,false,false,false,true,true,false,false,false] ⟨(t0 :: t1 :: t2 :: t3 :: t4 :: (.pointer (some ⟨b5,0,none⟩)) :: (.pointer (some ⟨b6,0,none⟩)) :: t7 :: t8 :: t9 :: t10 :: t11 :: t12 :: t13 :: t14 :: t15 :: t16 :: t17 :: t18 :: t19 :: t20 :: t21 :: t22 :: t23 :: t24 :: .int .i64 ni :: (.agg (entCells (entE 1 ni) none 0).toArray) :: t27 :: t28 :: t29 :: .int .i64 nk :: t31 :: t32 :: rs).toArray,[]⟩ W from by
  intro W b5 b6 hr
  have HQ:=hh hr
  clear hr
  refine tr (rs:=[9,11]) ?_
  refine AllReadyH.cons (o:=⟨some 31,.call {callee:=.value (.func 22),args:=#[.const (.int .i64 2),.tmp 30],argTypes:=#[3,2]},73, "law.go:51",#[⟨8,.data⟩,⟨4,.chain⟩],none⟩) rfl (fun K hK=>?_) (AllReadyH.cons (o:=⟨some 4,.alloc 73,0, "law.go:51",#[],none⟩) rfl (fun K hK=>?_) AllReadyH.nil)
  ·go_simp
   refine (entry2c_calls nk W).mono ?_
   rintro e W' ⟨rfl,hm⟩
   have h8:=HQ.out.tr hm
   refine hK.out _ _ h8.mod (fun hH=>?_)
   clear hK K
   (try simp only [List.setIfInBounds_toArray,List.set_cons_zero,List.set_cons_succ])
   exact H256.out W' b5 b6 h8
  ·have h8:=HQ.out.a4 HZ.out.2
   refine step_execW rfl (exec_alloc _ _ 73 z rfl HZ.out.1) ?_
   refine hK.out _ _ h8.mod (fun hH=>?_)
   clear hK K
   (try simp only [Act.put,ja,jb,jc])
   exact H1456.out _ _ b5 b6 h8)
 have H14:=hh (show ∀ (W:World) (b4:Nat),R8 w8 W (some b4) none none->wpAnyH Tryz.prog .any O8 Q (fun W=>Mod N0 w8 W) 7 #[true,true,true,true,true,true,true,true,true,false,false,true,false,false,false,false,false] ⟨(t0 :: t1 :: t2 :: t3 :: (.pointer (some ⟨b4,0,none⟩)) :: t5 :: t6 :: t7 :: t8 :: t9 :: t10 :: t11 :: t12 :: t13 :: t14 :: t15 :: t16 :: t17 :: t18 :: t19 :: t20 :: t21 :: t22 :: t23 :: t24 :: .int .i64 ni :: (.agg (entCells (entE 1 ni) none 0).toArray) :: t27 :: t28 :: t29 :: .int .i64 nk :: t31 :: t32 :: rs).toArray,[]⟩ W from by
  intro W b4 hr
  have HQ:=hh hr
  clear hr
  refine tr (rs:=[9,12,13]) ?_
  refine AllReadyH.cons (o:=⟨some 31,.call {callee:=.value (.func 22),args:=#[.const (.int .i64 2),.tmp 30],argTypes:=#[3,2]},73, "law.go:51",#[⟨8,.data⟩,⟨4,.chain⟩],none⟩) rfl (fun K hK=>?_) (AllReadyH.cons (o:=⟨some 5,.alloc 73,0, "law.go:51",#[],none⟩) rfl (fun K hK=>?_) (AllReadyH.cons (o:=⟨some 6,.alloc 73,0, "law.go:51",#[],none⟩) rfl (fun K hK=>?_) AllReadyH.nil))
  ·go_simp
   refine (entry2c_calls nk W).mono ?_
   rintro e W' ⟨rfl,hm⟩
   have h8:=HQ.out.tr hm
   refine hK.out _ _ h8.mod (fun hH=>?_)
   clear hK K
   (try simp only [List.setIfInBounds_toArray,List.set_cons_zero,List.set_cons_succ])
   exact H24.out W' b4 h8
  ·have h8:=HQ.out.a5 HZ.out.2
   refine step_execW rfl (exec_alloc _ _ 73 z rfl HZ.out.1) ?_
   refine hK.out _ _ h8.mod (fun hH=>?_)
   clear hK K
   (try simp only [Act.put,ja,jb,jc])
   exact H145.out _ b4 _ h8
  ·have h8:=HQ.out.a6 HZ.out.2
   refine step_execW rfl (exec_alloc _ _ 73 z rfl HZ.out.1) ?_
   refine hK.out _ _ h8.mod (fun hH=>?_)
   clear hK K
   (try simp only [Act.put,ja,jb,jc])
   exact H146.out _ b4 _ h8)
 have H15:=hh (show ∀ (W:World) (b5:Nat),R8 w8 W none (some b5) none->wpAnyH Tryz.prog .any O8 Q (fun W=>Mod N0 w8 W) 7 #[true,true,true,true,true,true,true,true,true,false,false,false,true,false,false,false,false] ⟨(t0 :: t1 :: t2 :: t3 :: t4 :: (.pointer (some ⟨b5,0,none⟩)) :: t6 :: t7 :: t8 :: t9 :: t10 :: t11 :: t12 :: t13 :: t14 :: t15 :: t16 :: t17 :: t18 :: t19 :: t20 :: t21 :: t22 :: t23 :: t24 :: .int .i64 ni :: (.agg (entCells (entE 1 ni) none 0).toArray) :: t27 :: t28 :: t29 :: .int .i64 nk :: t31 :: t32 :: rs).toArray,[]⟩ W from by
  intro W b5 hr
  have HQ:=hh hr
  clear hr
  refine tr (rs:=[9,11,13]) ?_
  refine AllReadyH.cons (o:=⟨some 31,.call {callee:=.value (.func 22),args:=#[.const (.int .i64 2),.tmp 30],argTypes:=#[3,2]},73, "law.go:51",#[⟨8,.data⟩,⟨4,.chain⟩],none⟩) rfl (fun K hK=>?_) (AllReadyH.cons (o:=⟨some 4,.alloc 73,0, "law.go:51",#[],none⟩) rfl (fun K hK=>?_) (AllReadyH.cons (o:=⟨some 6,.alloc 73,0, "law.go:51",#[],none⟩) rfl (fun K hK=>?_) AllReadyH.nil))
  ·go_simp
   refine (entry2c_calls nk W).mono ?_
   rintro e W' ⟨rfl,hm⟩
   have h8:=HQ.out.tr hm
   refine hK.out _ _ h8.mod (fun hH=>?_)
   clear hK K
   (try simp only [List.setIfInBounds_toArray,List.set_cons_zero,List.set_cons_succ])
   exact H25.out W' b5 h8
  ·have h8:=HQ.out.a4 HZ.out.2
   refine step_execW rfl (exec_alloc _ _ 73 z rfl HZ.out.1) ?_
   refine hK.out _ _ h8.mod (fun hH=>?_)
   clear hK K
   (try simp only [Act.put,ja,jb,jc])
   exact H145.out _ _ b5 h8
  ·have h8:=HQ.out.a6 HZ.out.2
   refine step_execW rfl (exec_alloc _ _ 73 z rfl HZ.out.1) ?_
   refine hK.out _ _ h8.mod (fun hH=>?_)
   clear hK K
   (try simp only [Act.put,ja,jb,jc])
   exact H156.out _ b5 _ h8)
 have H16:=hh (show ∀ (W:World) (b6:Nat),R8 w8 W none none (some b6)->wpAnyH Tryz.prog .any O8 Q (fun W=>Mod N0 w8 W) 7 #[true,true,true,true,true,true,true,true,true,false,false,false,false,true,false,false,false] ⟨(t0 :: t1 :: t2 :: t3 :: t4 :: t5 :: (.pointer (some ⟨b6,0,none⟩)) :: t7 :: t8 :: t9 :: t10 :: t11 :: t12 :: t13 :: t14 :: t15 :: t16 :: t17 :: t18 :: t19 :: t20 :: t21 :: t22 :: t23 :: t24 :: .int .i64 ni :: (.agg (entCells (entE 1 ni) none 0).toArray) :: t27 :: t28 :: t29 :: .int .i64 nk :: t31 :: t32 :: rs).toArray,[]⟩ W from by
  intro W b6 hr
  have HQ:=hh hr
  clear hr
  refine tr (rs:=[9,11,12]) ?_
  refine AllReadyH.cons (o:=⟨some 31,.call {callee:=.value (.func 22),args:=#[.const (.int .i64 2),.tmp 30],argTypes:=#[3,2]},73, "law.go:51",#[⟨8,.data⟩,⟨4,.chain⟩],none⟩) rfl (fun K hK=>?_) (AllReadyH.cons (o:=⟨some 4,.alloc 73,0, "law.go:51",#[],none⟩) rfl (fun K hK=>?_) (AllReadyH.cons (o:=⟨some 5,.alloc 73,0, "law.go:51",#[],none⟩) rfl (fun K hK=>?_) AllReadyH.nil))
  ·go_simp
   refine (entry2c_calls nk W).mono ?_
   rintro e W' ⟨rfl,hm⟩
   have h8:=HQ.out.tr hm
   refine hK.out _ _ h8.mod (fun hH=>?_)
   clear hK K
   (try simp only [List.setIfInBounds_toArray,List.set_cons_zero,List.set_cons_succ])
   exact H26.out W' b6 h8
  ·have h8:=HQ.out.a4 HZ.out.2
   refine step_execW rfl (exec_alloc _ _ 73 z rfl HZ.out.1) ?_
   refine hK.out _ _ h8.mod (fun hH=>?_)
   clear hK K
   (try simp only [Act.put,ja,jb,jc])
   exact H146.out _ _ b6 h8
  ·have h8:=HQ.out.a5 HZ.out.2
   refine step_execW rfl (exec_alloc _ _ 73 z rfl HZ.out.1) ?_
   refine hK.out _ _ h8.mod (fun hH=>?_)
   clear hK K
   (try simp only [Act.put,ja,jb,jc])
   exact H156.out _ _ b6 h8)
 have H1:=hh (show ∀ (W:World),R8 w8 W none none none->wpAnyH Tryz.prog .any O8 Q (fun W=>Mod N0 w8 W) 8 #[true,true,true,true,true,true,true,true,true,false,false,false,false,false,false,false,false] ⟨(t0 :: t1 :: t2 :: t3 :: t4 :: t5 :: t6 :: t7 :: t8 :: t9 :: t10 :: t11 :: t12 :: t13 :: t14 :: t15 :: t16 :: t17 :: t18 :: t19 :: t20 :: t21 :: t22 :: t23 :: t24 :: .int .i64 ni :: (.agg (entCells (entE 1 ni) none 0).toArray) :: t27 :: t28 :: t29 :: .int .i64 nk :: t31 :: t32 :: rs).toArray,[]⟩ W from by
  intro W hr
  have HQ:=hh hr
  clear hr
  refine tr (rs:=[9,11,12,13]) ?_
  refine AllReadyH.cons (o:=⟨some 31,.call {callee:=.value (.func 22),args:=#[.const (.int .i64 2),.tmp 30],argTypes:=#[3,2]},73, "law.go:51",#[⟨8,.data⟩,⟨4,.chain⟩],none⟩) rfl (fun K hK=>?_) (AllReadyH.cons (o:=⟨some 4,.alloc 73,0, "law.go:51",#[],none⟩) rfl (fun K hK=>?_) (AllReadyH.cons (o:=⟨some 5,.alloc 73,0, "law.go:51",#[],none⟩) rfl (fun K hK=>?_) (AllReadyH.cons (o:=⟨some 6,.alloc 73,0, "law.go:51",#[],none⟩) rfl (fun K hK=>?_) AllReadyH.nil)))
  ·go_simp
   refine (entry2c_calls nk W).mono ?_
   rintro e W' ⟨rfl,hm⟩
   have h8:=HQ.out.tr hm
   refine hK.out _ _ h8.mod (fun hH=>?_)
   clear hK K
   (try simp only [List.setIfInBounds_toArray,List.set_cons_zero,List.set_cons_succ])
   exact H2.out W' h8
  ·have h8:=HQ.out.a4 HZ.out.2
   refine step_execW rfl (exec_alloc _ _ 73 z rfl HZ.out.1) ?_
   refine hK.out _ _ h8.mod (fun hH=>?_)
   clear hK K
   (try simp only [Act.put,ja,jb,jc])
   exact H14.out _ _ h8
  ·have h8:=HQ.out.a5 HZ.out.2
   refine step_execW rfl (exec_alloc _ _ 73 z rfl HZ.out.1) ?_
   refine hK.out _ _ h8.mod (fun hH=>?_)
   clear hK K
   (try simp only [Act.put,ja,jb,jc])
   exact H15.out _ _ h8
  ·have h8:=HQ.out.a6 HZ.out.2
   refine step_execW rfl (exec_alloc _ _ 73 z rfl HZ.out.1) ?_
   refine hK.out _ _ h8.mod (fun hH=>?_)
   clear hK K
   (try simp only [Act.put,ja,jb,jc])
   exact H16.out _ _ h8)
 have H0456:=hh (show ∀ (W:World) (b4 b5 b6:Nat),R8 w8 W (some b4) (some b5) (some b6)->wpAnyH Tryz.prog .any O8 Q (fun W=>Mod N0 w8 W) 6 #[true,true,true,true,false,true,true,true,true,false,false,true,true,true,false,false,false] ⟨(t0 :: t1 :: t2 :: t3 :: (.pointer (some ⟨b4,0,none⟩)) :: (.pointer (some ⟨b5,0,none⟩)) :: (.pointer (some ⟨b6,0,none⟩)) :: t7 :: t8 :: t9 :: t10 :: t11 :: t12 :: t13 :: t14 :: t15 :: t16 :: t17 :: t18 :: t19 :: t20 :: t21 :: t22 :: t23 :: t24 :: .int .i64 ni :: t26 :: t27 :: t28 :: t29 :: .int .i64 nk :: t31 :: t32 :: rs).toArray,[]⟩ W from by
  intro W b4 b5 b6 hr
  have HQ:=hh hr
  clear hr
  refine tr (rs:=[4]) ?_
  refine AllReadyH.cons (o:=⟨some 26,.call {callee:=.value (.func 22),args:=#[.const (.int .i64 1),.tmp 25],argTypes:=#[3,2]},73, "law.go:51",#[⟨3,.data⟩],none⟩) rfl (fun K hK=>?_) AllReadyH.nil
  go_simp
  refine (entry1c_calls ni W).mono ?_
  rintro e W' ⟨rfl,hm⟩
  have h8:=HQ.out.tr hm
  refine hK.out _ _ h8.mod (fun hH=>?_)
  clear hK K
  (try simp only [List.setIfInBounds_toArray,List.set_cons_zero,List.set_cons_succ])
  exact H1456.out W' b4 b5 b6 h8)
 have H045:=hh (show ∀ (W:World) (b4 b5:Nat),R8 w8 W (some b4) (some b5) none->wpAnyH Tryz.prog .any O8 Q (fun W=>Mod N0 w8 W) 7 #[true,true,true,true,false,true,true,true,true,false,false,true,true,false,false,false,false] ⟨(t0 :: t1 :: t2 :: t3 :: (.pointer (some ⟨b4,0,none⟩)) :: (.pointer (some ⟨b5,0,none⟩)) :: t6 :: t7 :: t8 :: t9 :: t10 :: t11 :: t12 :: t13 :: t14 :: t15 :: t16 :: t17 :: t18 :: t19 :: t20 :: t21 :: t22 :: t23 :: t24 :: .int .i64 ni :: t26 :: t27 :: t28 :: t29 :: .int .i64 nk :: t31 :: t32 :: rs).toArray,[]⟩ W from by
  intro W b4 b5 hr
  have HQ:=hh hr
  clear hr
  refine tr (rs:=[4,13]) ?_
  refine AllReadyH.cons (o:=⟨some 26,.call {callee:=.value (.func 22),args:=#[.const (.int .i64 1),.tmp 25],argTypes:=#[3,2]},73, "law.go:51",#[⟨3,.data⟩],none⟩) rfl (fun K hK=>?_) (AllReadyH.cons (o:=⟨some 6,.alloc 73,0, "law.go:51",#[],none⟩) rfl (fun K hK=>?_) AllReadyH.nil)
  ·go_simp
   refine (entry1c_calls ni W).mono ?_
   rintro e W' ⟨rfl,hm⟩
   have h8:=HQ.out.tr hm
   refine hK.out _ _ h8.mod (fun hH=>?_)
   clear hK K
   (try simp only [List.setIfInBounds_toArray,List.set_cons_zero,List.set_cons_succ])
   exact H145.out W' b4 b5 h8
  ·have h8:=HQ.out.a6 HZ.out.2
   refine step_execW rfl (exec_alloc _ _ 73 z rfl HZ.out.1) ?_
   refine hK.out _ _ h8.mod (fun hH=>?_)
   clear hK K
   (try simp only [Act.put,ja,jb,jc])
   exact H0456.out _ b4 b5 _ h8)
 have H046:=hh (show ∀ (W:World) (b4 b6:Nat),R8 w8 W (some b4) none (some b6)->wpAnyH Tryz.prog .any O8 Q (fun W=>Mod N0 w8 W) 7 #[true,true,true,true,false,true,true,true,true,false,false,true,false,true,false,false,false] ⟨(t0 :: t1 :: t2 :: t3 :: (.pointer (some ⟨b4,0,none⟩)) :: t5 :: (.pointer (some ⟨b6,0,none⟩)) :: t7 :: t8 :: t9 :: t10 :: t11 :: t12 :: t13 :: t14 :: t15 :: t16 :: t17 :: t18 :: t19 :: t20 :: t21 :: t22 :: t23 :: t24 :: .int .i64 ni :: t26 :: t27 :: t28 :: t29 :: .int .i64 nk :: t31 :: t32 :: rs).toArray,[]⟩ W from by
  intro W b4 b6 hr
  have HQ:=hh hr
  clear hr
  refine tr (rs:=[4,12]) ?_
  refine AllReadyH.cons (o:=⟨some 26,.call {callee:=.value (.func 22),args:=#[.const (.int .i64 1),.tmp 25],argTypes:=#[3,2]},73, "law.go:51",#[⟨3,.data⟩],none⟩) rfl (fun K hK=>?_) (AllReadyH.cons (o:=⟨some 5,.alloc 73,0, "law.go:51",#[],none⟩) rfl (fun K hK=>?_) AllReadyH.nil)
  ·go_simp
   refine (entry1c_calls ni W).mono ?_
   rintro e W' ⟨rfl,hm⟩
   have h8:=HQ.out.tr hm
   refine hK.out _ _ h8.mod (fun hH=>?_)
   clear hK K
   (try simp only [List.setIfInBounds_toArray,List.set_cons_zero,List.set_cons_succ])
   exact H146.out W' b4 b6 h8
  ·have h8:=HQ.out.a5 HZ.out.2
   refine step_execW rfl (exec_alloc _ _ 73 z rfl HZ.out.1) ?_
   refine hK.out _ _ h8.mod (fun hH=>?_)
   clear hK K
   (try simp only [Act.put,ja,jb,jc])
   exact H0456.out _ b4 _ b6 h8)
 have H056:=hh (show ∀ (W:World) (b5 b6:Nat),R8 w8 W none (some b5) (some b6)->wpAnyH Tryz.prog .any O8 Q (fun W=>Mod N0 w8 W) 7 #[true,true,true,true,false,true,true,true,true,false,false,false,true,true,false,false,false] ⟨(t0 :: t1 :: t2 :: t3 :: t4 :: (.pointer (some ⟨b5,0,none⟩)) :: (.pointer (some ⟨b6,0,none⟩)) :: t7 :: t8 :: t9 :: t10 :: t11 :: t12 :: t13 :: t14 :: t15 :: t16 :: t17 :: t18 :: t19 :: t20 :: t21 :: t22 :: t23 :: t24 :: .int .i64 ni :: t26 :: t27 :: t28 :: t29 :: .int .i64 nk :: t31 :: t32 :: rs).toArray,[]⟩ W from by
  intro W b5 b6 hr
  have HQ:=hh hr
  clear hr
  refine tr (rs:=[4,11]) ?_
  refine AllReadyH.cons (o:=⟨some 26,.call {callee:=.value (.func 22),args:=#[.const (.int .i64 1),.tmp 25],argTypes:=#[3,2]},73, "law.go:51",#[⟨3,.data⟩],none⟩) rfl (fun K hK=>?_) (AllReadyH.cons (o:=⟨some 4,.alloc 73,0, "law.go:51",#[],none⟩) rfl (fun K hK=>?_) AllReadyH.nil)
  ·go_simp
   refine (entry1c_calls ni W).mono ?_
   rintro e W' ⟨rfl,hm⟩
   have h8:=HQ.out.tr hm
   refine hK.out _ _ h8.mod (fun hH=>?_)
   clear hK K
   (try simp only [List.setIfInBounds_toArray,List.set_cons_zero,List.set_cons_succ])
   exact H156.out W' b5 b6 h8
  ·have h8:=HQ.out.a4 HZ.out.2
   refine step_execW rfl (exec_alloc _ _ 73 z rfl HZ.out.1) ?_
   refine hK.out _ _ h8.mod (fun hH=>?_)
   clear hK K
   (try simp only [Act.put,ja,jb,jc])
   exact H0456.out _ _ b5 b6 h8)
 have H04:=hh (show ∀ (W:World) (b4:Nat),R8 w8 W (some b4) none none->wpAnyH Tryz.prog .any O8 Q (fun W=>Mod N0 w8 W) 8 #[true,true,true,true,false,true,true,true,true,false,false,true,false,false,false,false,false] ⟨(t0 :: t1 :: t2 :: t3 :: (.pointer (some ⟨b4,0,none⟩)) :: t5 :: t6 :: t7 :: t8 :: t9 :: t10 :: t11 :: t12 :: t13 :: t14 :: t15 :: t16 :: t17 :: t18 :: t19 :: t20 :: t21 :: t22 :: t23 :: t24 :: .int .i64 ni :: t26 :: t27 :: t28 :: t29 :: .int .i64 nk :: t31 :: t32 :: rs).toArray,[]⟩ W from by
  intro W b4 hr
  have HQ:=hh hr
  clear hr
  refine tr (rs:=[4,12,13]) ?_
  refine AllReadyH.cons (o:=⟨some 26,.call {callee:=.value (.func 22),args:=#[.const (.int .i64 1),.tmp 25],argTypes:=#[3,2]},73, "law.go:51",#[⟨3,.data⟩],none⟩) rfl (fun K hK=>?_) (AllReadyH.cons (o:=⟨some 5,.alloc 73,0, "law.go:51",#[],none⟩) rfl (fun K hK=>?_) (AllReadyH.cons (o:=⟨some 6,.alloc 73,0, "law.go:51",#[],none⟩) rfl (fun K hK=>?_) AllReadyH.nil))
  ·go_simp
   refine (entry1c_calls ni W).mono ?_
   rintro e W' ⟨rfl,hm⟩
   have h8:=HQ.out.tr hm
   refine hK.out _ _ h8.mod (fun hH=>?_)
   clear hK K
   (try simp only [List.setIfInBounds_toArray,List.set_cons_zero,List.set_cons_succ])
   exact H14.out W' b4 h8
  ·have h8:=HQ.out.a5 HZ.out.2
   refine step_execW rfl (exec_alloc _ _ 73 z rfl HZ.out.1) ?_
   refine hK.out _ _ h8.mod (fun hH=>?_)
   clear hK K
   (try simp only [Act.put,ja,jb,jc])
   exact H045.out _ b4 _ h8
  ·have h8:=HQ.out.a6 HZ.out.2
   refine step_execW rfl (exec_alloc _ _ 73 z rfl HZ.out.1) ?_
   refine hK.out _ _ h8.mod (fun hH=>?_)
   clear hK K
   (try simp only [Act.put,ja,jb,jc])
   exact H046.out _ b4 _ h8)
 have H05:=hh (show ∀ (W:World) (b5:Nat),R8 w8 W none (some b5) none->wpAnyH Tryz.prog .any O8 Q (fun W=>Mod N0 w8 W) 8 #[true,true,true,true,false,true,true,true,true,false,false,false,true,false,false,false,false] ⟨(t0 :: t1 :: t2 :: t3 :: t4 :: (.pointer (some ⟨b5,0,none⟩)) :: t6 :: t7 :: t8 :: t9 :: t10 :: t11 :: t12 :: t13 :: t14 :: t15 :: t16 :: t17 :: t18 :: t19 :: t20 :: t21 :: t22 :: t23 :: t24 :: .int .i64 ni :: t26 :: t27 :: t28 :: t29 :: .int .i64 nk :: t31 :: t32 :: rs).toArray,[]⟩ W from by
  intro W b5 hr
  have HQ:=hh hr
  clear hr
  refine tr (rs:=[4,11,13]) ?_
  refine AllReadyH.cons (o:=⟨some 26,.call {callee:=.value (.func 22),args:=#[.const (.int .i64 1),.tmp 25],argTypes:=#[3,2]},73, "law.go:51",#[⟨3,.data⟩],none⟩) rfl (fun K hK=>?_) (AllReadyH.cons (o:=⟨some 4,.alloc 73,0, "law.go:51",#[],none⟩) rfl (fun K hK=>?_) (AllReadyH.cons (o:=⟨some 6,.alloc 73,0, "law.go:51",#[],none⟩) rfl (fun K hK=>?_) AllReadyH.nil))
  ·go_simp
   refine (entry1c_calls ni W).mono ?_
   rintro e W' ⟨rfl,hm⟩
   have h8:=HQ.out.tr hm
   refine hK.out _ _ h8.mod (fun hH=>?_)
   clear hK K
   (try simp only [List.setIfInBounds_toArray,List.set_cons_zero,List.set_cons_succ])
   exact H15.out W' b5 h8
  ·have h8:=HQ.out.a4 HZ.out.2
   refine step_execW rfl (exec_alloc _ _ 73 z rfl HZ.out.1) ?_
   refine hK.out _ _ h8.mod (fun hH=>?_)
   clear hK K
   (try simp only [Act.put,ja,jb,jc])
   exact H045.out _ _ b5 h8
  ·have h8:=HQ.out.a6 HZ.out.2
   refine step_execW rfl (exec_alloc _ _ 73 z rfl HZ.out.1) ?_
   refine hK.out _ _ h8.mod (fun hH=>?_)
   clear hK K
   (try simp only [Act.put,ja,jb,jc])
   exact H056.out _ b5 _ h8)
 have H06:=hh (show ∀ (W:World) (b6:Nat),R8 w8 W none none (some b6)->wpAnyH Tryz.prog .any O8 Q (fun W=>Mod N0 w8 W) 8 #[true,true,true,true,false,true,true,true,true,false,false,false,false,true,false,false,false] ⟨(t0 :: t1 :: t2 :: t3 :: t4 :: t5 :: (.pointer (some ⟨b6,0,none⟩)) :: t7 :: t8 :: t9 :: t10 :: t11 :: t12 :: t13 :: t14 :: t15 :: t16 :: t17 :: t18 :: t19 :: t20 :: t21 :: t22 :: t23 :: t24 :: .int .i64 ni :: t26 :: t27 :: t28 :: t29 :: .int .i64 nk :: t31 :: t32 :: rs).toArray,[]⟩ W from by
  intro W b6 hr
  have HQ:=hh hr
  clear hr
  refine tr (rs:=[4,11,12]) ?_
  refine AllReadyH.cons (o:=⟨some 26,.call {callee:=.value (.func 22),args:=#[.const (.int .i64 1),.tmp 25],argTypes:=#[3,2]},73, "law.go:51",#[⟨3,.data⟩],none⟩) rfl (fun K hK=>?_) (AllReadyH.cons (o:=⟨some 4,.alloc 73,0, "law.go:51",#[],none⟩) rfl (fun K hK=>?_) (AllReadyH.cons (o:=⟨some 5,.alloc 73,0, "law.go:51",#[],none⟩) rfl (fun K hK=>?_) AllReadyH.nil))
  ·go_simp
   refine (entry1c_calls ni W).mono ?_
   rintro e W' ⟨rfl,hm⟩
   have h8:=HQ.out.tr hm
   refine hK.out _ _ h8.mod (fun hH=>?_)
   clear hK K
   (try simp only [List.setIfInBounds_toArray,List.set_cons_zero,List.set_cons_succ])
   exact H16.out W' b6 h8
  ·have h8:=HQ.out.a4 HZ.out.2
   refine step_execW rfl (exec_alloc _ _ 73 z rfl HZ.out.1) ?_
   refine hK.out _ _ h8.mod (fun hH=>?_)
   clear hK K
   (try simp only [Act.put,ja,jb,jc])
   exact H046.out _ _ b6 h8
  ·have h8:=HQ.out.a5 HZ.out.2
   refine step_execW rfl (exec_alloc _ _ 73 z rfl HZ.out.1) ?_
   refine hK.out _ _ h8.mod (fun hH=>?_)
   clear hK K
   (try simp only [Act.put,ja,jb,jc])
   exact H056.out _ _ b6 h8)
 have H0:=hh (show ∀ (W:World),R8 w8 W none none none->wpAnyH Tryz.prog .any O8 Q (fun W=>Mod N0 w8 W) 9 #[true,true,true,true,false,true,true,true,true,false,false,false,false,false,false,false,false] ⟨(t0 :: t1 :: t2 :: t3 :: t4 :: t5 :: t6 :: t7 :: t8 :: t9 :: t10 :: t11 :: t12 :: t13 :: t14 :: t15 :: t16 :: t17 :: t18 :: t19 :: t20 :: t21 :: t22 :: t23 :: t24 :: .int .i64 ni :: t26 :: t27 :: t28 :: t29 :: .int .i64 nk :: t31 :: t32 :: rs).toArray,[]⟩ W from by
  intro W hr
  have HQ:=hh hr
  clear hr
  refine tr (rs:=[4,11,12,13]) ?_
  refine AllReadyH.cons (o:=⟨some 26,.call {callee:=.value (.func 22),args:=#[.const (.int .i64 1),.tmp 25],argTypes:=#[3,2]},73, "law.go:51",#[⟨3,.data⟩],none⟩) rfl (fun K hK=>?_) (AllReadyH.cons (o:=⟨some 4,.alloc 73,0, "law.go:51",#[],none⟩) rfl (fun K hK=>?_) (AllReadyH.cons (o:=⟨some 5,.alloc 73,0, "law.go:51",#[],none⟩) rfl (fun K hK=>?_) (AllReadyH.cons (o:=⟨some 6,.alloc 73,0, "law.go:51",#[],none⟩) rfl (fun K hK=>?_) AllReadyH.nil)))
  ·go_simp
   refine (entry1c_calls ni W).mono ?_
   rintro e W' ⟨rfl,hm⟩
   have h8:=HQ.out.tr hm
   refine hK.out _ _ h8.mod (fun hH=>?_)
   clear hK K
   (try simp only [List.setIfInBounds_toArray,List.set_cons_zero,List.set_cons_succ])
   exact H1.out W' h8
  ·have h8:=HQ.out.a4 HZ.out.2
   refine step_execW rfl (exec_alloc _ _ 73 z rfl HZ.out.1) ?_
   refine hK.out _ _ h8.mod (fun hH=>?_)
   clear hK K
   (try simp only [Act.put,ja,jb,jc])
   exact H04.out _ _ h8
  ·have h8:=HQ.out.a5 HZ.out.2
   refine step_execW rfl (exec_alloc _ _ 73 z rfl HZ.out.1) ?_
   refine hK.out _ _ h8.mod (fun hH=>?_)
   clear hK K
   (try simp only [Act.put,ja,jb,jc])
   exact H05.out _ _ h8
  ·have h8:=HQ.out.a6 HZ.out.2
   refine step_execW rfl (exec_alloc _ _ 73 z rfl HZ.out.1) ?_
   refine hK.out _ _ h8.mod (fun hH=>?_)
   clear hK K
   (try simp only [Act.put,ja,jb,jc])
   exact H06.out _ _ h8)
 exact H0.out W ⟨HW.out,(fun _ e=>by cases e),(fun _ e=>by cases e),(fun _ e=>by cases e),(fun _ _ e=>by cases e),(fun _ _ e=>by cases e),(fun _ _ e=>by cases e)⟩
end Go.Proofs.YtckcamlicgdklaaGreat
