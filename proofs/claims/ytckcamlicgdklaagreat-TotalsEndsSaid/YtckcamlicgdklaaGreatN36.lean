/- The references of chapter 5: Wide, Plus, the order of names. The references of chapter 5: the order of two names. The references of chapter 5: Plus. -/
import Derived.Test.YtckcamlicgdklaaGreatN20
namespace Go.Proofs.YtckcamlicgdklaaGreat
open Go.RowKit Go.Mo Go.Sort
theorem res37 {tmps:Array Value} {b:Nat} {W:World} {v:Value} (ht:tmps[2]?.getD undef=.pointer (some ⟨b,0,none⟩)) (hl:(loadVar 48 ⟨b,0,none⟩).run Tryz.prog W=.ok v W):(results Tryz.f37 tmps).run Tryz.prog W=.ok v W:=by
 simp [results,Tryz.results37,ht,hl,asAddr]
theorem load57_any {w:World} {b:Nat} {x y:Value} (h:w.heap[b]?=some (.cells #[x,y] 48 (0,0))):(loadVar 48 ⟨b,0,none⟩).run Tryz.prog w=.ok (.agg #[x,y]) w:=
 run_loadVar_mid w b 0 48 [x,y] _ (fun j v hv=>by rw [Nat.zero_add,cellB h,List.getElem?_toArray]; exact hv) Tryz.underlying48 rfl (by rw [size57]; rfl)
set_option maxRecDepth 100000 in
theorem refWide_calls (n:Int) (h0:-9223372036854775808<=n) (h1:n<=9223372036854775807) (w:World):Calls Tryz.prog 37 #[.int .i64 n] w fun e w'=>e=.returned (wideV n)/\Mod N0 w w':=by
 have hst:∀ x y:Value,x.oneCell'=true->y.oneCell'=true->(storeVar 48 ⟨w.heap.size,0,none⟩ (.agg #[x,y])).run Tryz.prog (w.alloc (.cells #[.int .i64 0,.int .u64 0] 48))=.ok () ((w.alloc (.cells #[.int .i64 0,.int .u64 0] 48)).setRow w.heap.size #[x,y]):=fun x y hx hy=>
  run_storeVar_row (P:=Tryz.prog) _ w.heap.size 48 48 #[.int .i64 0,.int .u64 0] #[x,y] (newB w _) (by rw [size57]; rfl) rfl (by simp [hx,hy])
 have hR:∀ x y:Value,((w.alloc (.cells #[.int .i64 0,.int .u64 0] 48)).setRow w.heap.size #[x,y]).heap[w.heap.size]?=some (.cells #[x,y] 48 (0,0)):=fun x y=>setRow_same (cs:=#[x,y]) (newB w _)
 have hM:∀ x y:Value,Mod N0 w ((w.alloc (.cells #[.int .i64 0,.int .u64 0] 48)).setRow w.heap.size #[x,y]):=fun x y=>Mod_setRow ((Mod.refl _ w).alloc _) (fun q=>by omega) _
 have e2:IntKind.u64.wrap n=loW n:=wrap_u64 n
 have H1:=hh (And.intro (hst (.int .i64 (-1)) (.int .u64 (loW n)) rfl rfl) (And.intro (hR (.int .i64 (-1)) (.int .u64 (loW n))) (hM (.int .i64 (-1)) (.int .u64 (loW n)))))
 have H2:=hh (And.intro (hst (.int .i64 0) (.int .u64 (loW n)) rfl rfl) (And.intro (hR (.int .i64 0) (.int .u64 (loW n))) (hM (.int .i64 0) (.int .u64 (loW n)))))
 clear hst hR hM
 by_cases hn:n<0
 ·have e1:hiW n=-1:=by unfold hiW wrap64; omega
  go_enter Tryz.func37,Tryz.ntmps37
  go_upto_region 2 with fail
  go_wp2_with (refine wpList_execS rfl (exec_store _ _ rfl rfl rfl H1.out.1) ?_)
  refine bodyPost_ret (v:=.agg #[.int .i64 (-1),.int .u64 (loW n)]) (res37 rfl (load57_any H1.out.2.1)) rfl ⟨?_,H1.out.2.2⟩
  rw [← e1]; rfl
 ·have e1:hiW n=0:=by unfold hiW wrap64; omega
  go_enter Tryz.func37,Tryz.ntmps37
  go_upto_region 3 with fail
  go_wp2_with (refine wpList_execS rfl (exec_store _ _ rfl rfl rfl H2.out.1) ?_)
  refine bodyPost_ret (v:=.agg #[.int .i64 0,.int .u64 (loW n)]) (res37 rfl (load57_any H2.out.2.1)) rfl ⟨?_,H2.out.2.2⟩
  rw [← e1]; rfl
theorem cmp_less:∀ a b:Bs,Lib.compareBytes a b=if a=b then 0 else if Op.bytesLess a b=true then -1 else 1
|[],[]=>by simp [Lib.compareBytes]
|[],_ :: _=>by simp [Lib.compareBytes,Op.bytesLess]
|_ :: _,[]=>by simp [Lib.compareBytes,Op.bytesLess]
|a :: x,b :: y=>by
  have ih:=cmp_less x y
  unfold Lib.compareBytes Op.bytesLess
  by_cases h1:a<b
  ·have:a≠b:=UInt8.ne_of_lt h1
   simp [h1,this]
  ·by_cases h2:b<a
   ·have:b≠a:=UInt8.ne_of_lt h2
    simp [h1,h2,Ne.symm this]
   ·have e:a=b:=UInt8.le_antisymm (UInt8.not_lt.1 h2) (UInt8.not_lt.1 h1)
    subst e
    simp [h1,ih]
theorem texts_calls (a b:Bs) (w:World):Calls Tryz.prog 166 #[.string ⟨a.toArray⟩,.string ⟨b.toArray⟩] w fun e w'=>e=.returned (.int .i64 (Lib.compareBytes a b))/\Mod N0 w w':=by
 have hc:=cmp_less a b
 by_cases h1:a=b
 ·rw [if_pos h1] at hc
  have hb:(a == b)=true:=by simpa using h1
  have HC:=hh hc
  clear hc h1
  go_enter Tryz.func166,Tryz.ntmps166
  go_wp2_with fail
  go_ret
  exact ⟨by rw [HC.out]; rfl,Mod.refl _ w⟩
 ·rw [if_neg h1] at hc
  have hb:(a == b)=false:=by simpa using h1
  by_cases h2:Op.bytesLess a b=true
  ·rw [if_pos h2] at hc
   have HC:=hh hc
   clear hc h1
   go_enter Tryz.func166,Tryz.ntmps166
   go_wp2_with fail
   go_ret
   exact ⟨by rw [HC.out]; rfl,Mod.refl _ w⟩
  ·rw [if_neg h2] at hc
   have h2':Op.bytesLess a b=false:=by simpa using h2
   have HC:=hh hc
   clear hc h1 h2
   go_enter Tryz.func166,Tryz.ntmps166
   go_wp2_with fail
   go_ret
   exact ⟨by rw [HC.out]; rfl,Mod.refl _ w⟩
end Go.Proofs.YtckcamlicgdklaaGreat
namespace Go.Proofs.YtckcamlicgdklaaGreat
open Go.RowKit Go.Mo Go.Sort
theorem exec_convert (act:Act) (o:Oper) {w:World} {S D:TypeId} {x:Operand} (ho:o.op=.convert S D x) {v u:Value} (hx:act.eval x=v) (h:(convert S D v).run Tryz.prog w=.ok u w):(execOp act.eval o).run Tryz.prog w=.ok (.value u) w:=by
 unfold execOp
 simp only [ho,hx,Sem.run_bind,Sem.run_pure,h,Result.andThen_ok]
set_option maxRecDepth 100000 in
theorem refOrder_calls (a b:Nm) (w:World):Calls Tryz.prog 114 #[.agg (a.policy.map by8).toArray,.string ⟨a.name.toArray⟩,.agg (b.policy.map by8).toArray,.string ⟨b.name.toArray⟩] w fun e w'=>e=.returned (.int .i64 (ordN a b))/\Mod N0 w w':=by
 obtain ⟨w1,hw1⟩:∃ w1,(w.alloc (.cells (a.policy.map by8).toArray 27)).alloc (.cells (b.policy.map by8).toArray 27)=w1:=⟨_,rfl⟩
 have hA:w1.heap[w.heap.size]?=some (.cells (a.policy.map by8).toArray 27 (0,0)):=by rw [← hw1]; exact allocB (newB w _) _
 have hB:w1.heap[w.heap.size+1]?=some (.cells (b.policy.map by8).toArray 27 (0,0)):=by
  rw [← hw1]; have:=newB (w.alloc (.cells (a.policy.map by8).toArray 27)) (.cells (b.policy.map by8).toArray 27); rwa [World.size_alloc] at this
 have hm1:Mod N0 w w1:=by rw [← hw1]; exact ((Mod.refl _ w).alloc _).alloc _
 have HCV:=hh (And.intro (fun (W:World) (hW:Mod N0 w1 W)=>(show (convert 245 9 (.slice (some ⟨w.heap.size,0,none⟩) 32 32)).run Tryz.prog W=.ok (.string ⟨a.policy.toArray⟩) W from by
   have h:=run_convert_bytes_back (P:=Tryz.prog) W 245 9 5 ⟨w.heap.size,0,none⟩ 32 a.policy Tryz.underlying245 Tryz.underlying5 Tryz.underlying9 (fun j hj=>by
    rw [add0,Nat.zero_add,cellB ((hW.block _ (ltB hA) (fun q=>q)).trans hA),List.getElem?_toArray,List.getElem?_map,List.getElem?_eq_getElem hj]; rfl)
   rwa [a.len] at h))
  (fun (W:World) (hW:Mod N0 w1 W)=>(show (convert 245 9 (.slice (some ⟨w.heap.size+1,0,none⟩) 32 32)).run Tryz.prog W=.ok (.string ⟨b.policy.toArray⟩) W from by
   have h:=run_convert_bytes_back (P:=Tryz.prog) W 245 9 5 ⟨w.heap.size+1,0,none⟩ 32 b.policy Tryz.underlying245 Tryz.underlying5 Tryz.underlying9 (fun j hj=>by
    rw [add0,Nat.zero_add,cellB ((hW.block _ (ltB hB) (fun q=>q)).trans hB),List.getElem?_toArray,List.getElem?_map,List.getElem?_eq_getElem hj]; rfl)
   rwa [b.len] at h)))
 have HS:=hh (fun (W:World) (hW:Mod N0 w1 W)=>And.intro ((hW.block _ (ltB hA) (fun q=>q)).trans hA) ((hW.block _ (ltB hB) (fun q=>q)).trans hB))
 have HM:=hh hm1
 clear hA hB hm1
 go_enter Tryz.func114,Tryz.ntmps114
 go_upto_region 1 with fail
 refine wp_region_held_drew (S:=fun W=>Mod N0 w1 W) (by kernel_rfl) (Mod.refl _ w1).drew (fun hH=>?_)
 refine tk (i:=0) (oi:=⟨some 10,.slice 27 (.tmp 4) none none none,245, "ref.go:29",#[],none⟩) (v:=.slice (some ⟨w.heap.size,0,none⟩) 32 32) hH ?_ ?_
 ·intro w' hSw
  have s:=(HS.out _ hSw).1
  go_simp
  try with_reducible rfl
 refine tk (i:=1) (oi:=⟨some 11,.convert 245 9 (.tmp 10),9, "ref.go:29",#[⟨0,.data⟩],none⟩) (v:=.string ⟨a.policy.toArray⟩) hH (fun w' hSw=>by exact exec_convert _ _ rfl rfl (HCV.out.1 _ hSw)) ?_
 refine tk (i:=2) (oi:=⟨some 12,.slice 27 (.tmp 6) none none none,245, "ref.go:29",#[],none⟩) (v:=.slice (some ⟨w.heap.size+1,0,none⟩) 32 32) hH ?_ ?_
 ·intro w' hSw
  have s:=(HS.out _ hSw).2
  go_simp
  try with_reducible rfl
 refine tk (i:=3) (oi:=⟨some 13,.convert 245 9 (.tmp 12),9, "ref.go:29",#[⟨2,.data⟩],none⟩) (v:=.string ⟨b.policy.toArray⟩) hH (fun w' hSw=>by exact exec_convert _ _ rfl rfl (HCV.out.2 _ hSw)) ?_
 refine tr (rs:=[4]) ?_
 refine AllReadyH.cons (o:=⟨some 14,.call {callee:=.value (.func 166),args:=#[.tmp 11,.tmp 13],argTypes:=#[9,9]},3, "ref.go:29",#[⟨1,.data⟩,⟨3,.data⟩],none⟩) rfl (fun K hK=>?_) AllReadyH.nil
 go_simp
 refine (texts_calls a.policy b.policy w1.drew).mono ?_
 rintro e w2 ⟨rfl,hm2⟩
 have HM2:=hh (((Mod.refl N0 w1).drew).tr hm2)
 clear hm2
 refine hK.out _ _ HM2.out (fun hH=>?_)
 clear hK K
 (try simp only [Act.put,ja,jb,jc])
 refine tq (i:=5) (oi:=⟨some 9,.assign (.tmp 14),3, "ref.go:29",#[⟨4,.data⟩,⟨4,.chain⟩,⟨0,.phase⟩,⟨1,.phase⟩,⟨2,.phase⟩,⟨3,.phase⟩,⟨4,.phase⟩],none⟩) (v:=.int .i64 (Lib.compareBytes a.policy b.policy)) hH ?_
 refine wpAnyH_done (by kernel_rfl) ?_ _
 have ho:ordN a b=if Lib.compareBytes a.policy b.policy=0 then Lib.compareBytes a.name b.name else Lib.compareBytes a.policy b.policy:=rfl
 by_cases hc:Lib.compareBytes a.policy b.policy=0
 ·rw [if_pos hc] at ho
  have HO:=hh ho
  rw [hc]
  clear ho hc
  go_wp2_with fail
  refine (texts_calls a.name b.name w2).mono ?_
  rintro e w3 ⟨rfl,hm3⟩
  have HM3:=hh (HM.out.tr (HM2.out.tr hm3))
  clear hm3
  go_wp2_with fail
  go_ret
  exact ⟨by rw [HO.out]; rfl,HM3.out⟩
 ·rw [if_neg hc] at ho
  have HO:=hh ho
  generalize Lib.compareBytes a.policy b.policy=c at hc HO ⊢
  clear ho
  go_wp2_with fail
  go_ret
  exact ⟨by rw [HO.out]; rfl,HM.out.tr HM2.out⟩
end Go.Proofs.YtckcamlicgdklaaGreat
namespace Go.Proofs.YtckcamlicgdklaaGreat
open Go.RowKit Go.Mo Go.Sort
theorem exec_store_ptR (act:Act) (o:Oper) {w w':World} {T:TypeId} {x y:Operand} (ho:o.op=.store T x y) {p:Addr} (hx:act.eval x=.pointer (some p)) {v:Value} (hy:act.eval y=v) (h:(storeVar T p v).run Tryz.prog w=.ok () w'):(execOp act.eval o).run Tryz.prog w=.ok .skip w':=by
 unfold execOp
 simp only [ho,hx,hy,Instr.storeAt,Instr.sureAddr,Sem.run_bind,Sem.run_pure,h,Result.andThen_ok]
theorem store_int2 {w:World} {b o:Nat} {n:Int} {old:Value} (hc:w.cell? ⟨b,o,none⟩=some old) (hz:w.frozen? ⟨b,o,none⟩=false):(storeVar 2 ⟨b,o,none⟩ (.int .i64 n)).run Tryz.prog w=.ok () (w.setCell ⟨b,o,none⟩ (.int .i64 n)):=by
 go_simp
theorem hi_plus (S z:Int):wrap64 (IntKind.u64.wrap (IntKind.u64.wrap (IntKind.u64.wrap (hiW S)+IntKind.u64.wrap (hiW z))+(loW S+loW z) / 18446744073709551616))=hiW (S+z):=by
 rw [hi_add]
 simp only [wrap_u64]
 congr 1
 omega
theorem res36 {tmps:Array Value} {b:Nat} {W:World} {v:Value} (ht:tmps[2]?.getD undef=.pointer (some ⟨b,0,none⟩)) (hl:(loadVar 48 ⟨b,0,none⟩).run Tryz.prog W=.ok v W):(results Tryz.f36 tmps).run Tryz.prog W=.ok v W:=by
 simp [results,Tryz.results36,ht,hl,asAddr]
set_option maxRecDepth 100000 in
set_option maxHeartbeats 1000000 in
theorem refPlus_calls (w:World) (v:Value) (zs:List Int) (h:WideAt w v zs) (hn:zs.length<=4611686018427387904):Calls Tryz.prog 36 #[v] w fun e w'=>e=.returned (wideV zs.sum)/\Mod N0 w w':=by
 obtain ⟨a,c,rfl,hel⟩:=h
 have HE:=hh hel
 clear hel
 obtain ⟨wb,hwb⟩:∃ wb,(w.alloc (.cells #[.int .i64 0,.int .u64 0] 48)).alloc (.cells #[.int .i64 0,.int .u64 0] 48)=wb:=⟨_,rfl⟩
 have hA:wb.heap[w.heap.size]?=some (.cells #[.int .i64 0,.int .u64 0] 48 (0,0)):=by rw [← hwb]; exact allocB (newB w _) _
 have hB:wb.heap[w.heap.size+1]?=some (.cells #[.int .i64 0,.int .u64 0] 48 (0,0)):=by
  rw [← hwb]; have:=newB (w.alloc (.cells #[.int .i64 0,.int .u64 0] 48)) (.cells #[.int .i64 0,.int .u64 0] 48); rwa [World.size_alloc] at this
 have hM:Mod N0 w wb:=by rw [← hwb]; exact ((Mod.refl _ w).alloc _).alloc _
 have H0:=hh (And.intro hA (And.intro hB hM))
 clear hA hB hM
 go_enter Tryz.func36,Tryz.ntmps36
 go_wp2_with fail
 go_loopw [4] (fun i wr=>∃ k:Nat,k<=zs.length/\i=.int .i64 k/\wr.heap[w.heap.size]?=some (.cells #[.int .i64 0,.int .u64 0] 48 (0,0))/\wr.heap[w.heap.size+1]?=some (.cells #[.int .i64 (hiW (zs.take k).sum),.int .u64 (loW (zs.take k).sum)] 48 (0,0))/\Mod N0 w wr) (fun i _=>zs.length - (intOf i).toNat)
 case atStart=>exact ⟨0,by omega,rfl,H0.out.1,by simpa [hiW,loW,wrap64] using H0.out.2.1,H0.out.2.2⟩
 case round=>
  obtain ⟨k,hk,rfl,ha,hb,hm⟩:=hrel
  by_cases hlt:k<zs.length
  ·obtain ⟨z,hz⟩:∃ z,zs[k]?=some z:=⟨_,List.getElem?_eq_getElem hlt⟩
   obtain ⟨L,off,rfl,hL,k0,k1⟩:=HE.out k z hz
   have hs:(zs.take (k+1)).sum=(zs.take k).sum+z:=by rw [List.take_add_one,hz]; simp
   have hne:w.heap.size+1≠L:=by omega
   have HB:=hh (And.intro ha (And.intro hb hm))
   have HK:=hh (And.intro hL (And.intro k0 k1))
   have HS:=hh hs
   clear ha hb hm k0 k1 hs hz
   generalize (zs.take k).sum=S at HB HS
   have ha1:∀ W,(callFunc 62 #[.int .u64 (loW S),.int .u64 (loW z),.int .u64 0]).run Tryz.prog W=.ok (.value (.tuple #[.int .u64 (loW (S+z)),.int .u64 ((loW S+loW z) / 18446744073709551616)])) W:=fun W=>by
    rw [add64_call _ _ 0 (by unfold loW; omega) (by unfold loW; omega) (by omega) (by omega) W,lo_add,Int.add_zero]
   have HADD:=hh ha1
   clear ha1
   go_upto_region 5 with fail
   refine wp_region_held_drew (S:=fun W=>Mod N0 wr W) (by kernel_rfl) (Mod.refl _ wr).drew (fun hH=>?_)
   refine tq (i:=0) (oi:=⟨some 14,.fieldAddr 48 (.tmp 3) 1,0, "ref.go:96",#[],none⟩) (v:=.pointer (some ⟨w.heap.size+1,1,none⟩)) hH ?_
   refine tk (i:=1) (oi:=⟨some 15,.load 30 (.tmp 14),30, "ref.go:96",#[⟨0,.data⟩],none⟩) (v:=.int .u64 (loW S)) hH ?_ ?_
   ·intro w' hSw
    have s:w'.cell? ⟨w.heap.size+1,1,none⟩=some (.int .u64 (loW S)):=(cellB ((hSw.block _ (ltB HB.out.2.1) (fun q=>q)).trans HB.out.2.1) 1).trans rfl
    go_simp
    try with_reducible rfl
   refine tq (i:=2) (oi:=⟨some 16,.move (.tmp 0),97, "ref.go:96",#[],none⟩) (v:=.slice (some ⟨L,off,none⟩) zs.length c) hH ?_
   refine tq (i:=3) (oi:=⟨some 17,.move (.tmp 4),3, "ref.go:96",#[],none⟩) (v:=.int .i64 k) hH ?_
   refine tq (i:=4) (oi:=⟨some 18,.indexAddr 97 (.tmp 16) (.tmp 17),0, "ref.go:96",#[⟨2,.data⟩,⟨3,.data⟩],none⟩) (v:=.pointer (some ⟨L,off+k * 2,none⟩)) hH ?_
   refine tq (i:=5) (oi:=⟨some 19,.fieldAddr 48 (.tmp 18) 1,0, "ref.go:96",#[⟨4,.data⟩],none⟩) (v:=.pointer (some ⟨L,off+k * 2+1,none⟩)) hH ?_
   refine tk (i:=6) (oi:=⟨some 20,.load 30 (.tmp 19),30, "ref.go:96",#[⟨5,.data⟩],none⟩) (v:=.int .u64 (loW z)) hH ?_ ?_
   ·intro w' hSw
    have s:w'.cell? ⟨L,off+k * 2+1,none⟩=some (.int .u64 (loW z)):=((HB.out.2.2.tr hSw).cell (p:=⟨L,_,none⟩) HK.out.1 (fun q=>q)).trans HK.out.2.2
    go_simp
    try with_reducible rfl
   refine tk (i:=7) (oi:=⟨some 21,.call {callee:=.value (.func 62),args:=#[.tmp 15,.tmp 20,.const (.int .u64 0)],argTypes:=#[30,30,30]},165, "ref.go:96",#[⟨1,.data⟩,⟨6,.data⟩],none⟩) (v:=.tuple #[.int .u64 (loW (S+z)),.int .u64 ((loW S+loW z) / 18446744073709551616)]) hH ?_ ?_
   ·intro w' hSw
    have h:=HADD.out w'
    go_simp
    try with_reducible rfl
   refine tq (i:=8) (oi:=⟨some 13,.move (.tmp 21),165, "ref.go:96",#[⟨7,.data⟩],none⟩) (v:=.tuple #[.int .u64 (loW (S+z)),.int .u64 ((loW S+loW z) / 18446744073709551616)]) hH ?_
   refine tq (i:=9) (oi:=⟨some 22,.extract (.tmp 13) 0,30, "ref.go:96",#[⟨8,.data⟩],none⟩) (v:=.int .u64 (loW (S+z))) hH ?_
   refine tq (i:=10) (oi:=⟨some 23,.extract (.tmp 13) 1,30, "ref.go:96",#[⟨8,.data⟩,⟨11,.gcOnly .lateStores⟩],none⟩) (v:=.int .u64 ((loW S+loW z) / 18446744073709551616)) hH ?_
   refine tq (i:=11) (oi:=⟨some 5,.assign (.tmp 22),30, "ref.go:96",#[⟨9,.data⟩,⟨7,.chain⟩,⟨0,.phase⟩,⟨1,.phase⟩,⟨2,.phase⟩,⟨3,.phase⟩,⟨4,.phase⟩,⟨5,.phase⟩,⟨6,.phase⟩,⟨7,.phase⟩,⟨8,.phase⟩,⟨9,.phase⟩,⟨10,.textOnly .lateStores⟩],none⟩) (v:=.int .u64 (loW (S+z))) hH ?_
   refine tq (i:=12) (oi:=⟨some 6,.assign (.tmp 23),30, "ref.go:96",#[⟨10,.data⟩,⟨11,.chain⟩,⟨0,.phase⟩,⟨1,.phase⟩,⟨2,.phase⟩,⟨3,.phase⟩,⟨4,.phase⟩,⟨5,.phase⟩,⟨6,.phase⟩,⟨7,.phase⟩,⟨8,.phase⟩,⟨9,.phase⟩,⟨10,.phase⟩,⟨11,.phase⟩],none⟩) (v:=.int .u64 ((loW S+loW z) / 18446744073709551616)) hH ?_
   refine wpAnyH_done (by kernel_rfl) ?_ _
   have s1:wr.drew.cell? ⟨w.heap.size+1,1,none⟩=some (.int .u64 (loW S)):=(cellB (drewB HB.out.2.1) 1).trans rfl
   have s1':wr.cell? ⟨w.heap.size+1,1,none⟩=some (.int .u64 (loW S)):=(cellB HB.out.2.1 1).trans rfl
   have f1:=frozB (drewB HB.out.2.1) 1
   have f1':=frozB HB.out.2.1 1
   have hb6:((wr.setCell ⟨w.heap.size+1,1,none⟩ (.int .u64 (loW (S+z)))).drew).heap[w.heap.size+1]?=some (.cells #[.int .i64 (hiW S),.int .u64 (loW (S+z))] 48 (0,0)):=drewB (setB HB.out.2.1 1 (.int .u64 (loW (S+z))))
   have hm6:Mod (fun q=>q=w.heap.size+1) wr ((wr.setCell ⟨w.heap.size+1,1,none⟩ (.int .u64 (loW (S+z)))).drew):=((Mod.refl (fun q=>q=w.heap.size+1) wr).setCell (p:=⟨w.heap.size+1,1,none⟩) (fun _=>rfl) _).drew
   have HB6:=hh (And.intro hb6 hm6)
   clear hb6 hm6
   go_upto_region 7 with fail
   clear s1 f1 s1' f1'
   generalize (wr.setCell ⟨w.heap.size+1,1,none⟩ (.int .u64 (loW (S+z)))).drew=w6 at HB6 ⊢
   have H6:=hh (And.intro HB6.out.1 (And.intro ((HB6.out.2.block _ (ltB HB.out.1) (fun q=>by omega)).trans HB.out.1) (And.intro (HB.out.2.2.trans HB6.out.2 (fun q e hl=>by omega)) HB6.out.2)))
   refine wp_region_held_drew (S:=fun W=>Mod (fun q=>q=w.heap.size+1) w6 W) (by kernel_rfl) (Mod.refl _ w6).drew (fun hH=>?_)
   refine tq (i:=0) (oi:=⟨some 26,.fieldAddr 48 (.tmp 3) 0,0, "ref.go:98",#[],none⟩) (v:=.pointer (some ⟨w.heap.size+1,0,none⟩)) hH ?_
   refine tq (i:=3) (oi:=⟨some 29,.move (.tmp 0),97, "ref.go:98",#[],none⟩) (v:=.slice (some ⟨L,off,none⟩) zs.length c) hH ?_
   refine tq (i:=4) (oi:=⟨some 30,.move (.tmp 4),3, "ref.go:98",#[],none⟩) (v:=.int .i64 k) hH ?_
   refine tq (i:=5) (oi:=⟨some 31,.indexAddr 97 (.tmp 29) (.tmp 30),0, "ref.go:98",#[⟨3,.data⟩,⟨4,.data⟩],none⟩) (v:=.pointer (some ⟨L,off+k * 2,none⟩)) hH ?_
   refine tq (i:=6) (oi:=⟨some 32,.fieldAddr 48 (.tmp 31) 0,0, "ref.go:98",#[⟨5,.data⟩],none⟩) (v:=.pointer (some ⟨L,off+k * 2,none⟩)) hH ?_
   refine tk (i:=7) (oi:=⟨some 33,.load 2 (.tmp 32),2, "ref.go:98",#[⟨6,.data⟩],none⟩) (v:=.int .i64 (hiW z)) hH ?_ ?_
   ·intro w' hSw
    have s:w'.cell? ⟨L,off+k * 2,none⟩=some (.int .i64 (hiW z)):=(hSw.cell (p:=⟨L,_,none⟩) (Nat.lt_of_lt_of_le HK.out.1 H6.out.2.2.1.size) (fun q=>by have:=HK.out.1; simp only at q; omega)).trans ((H6.out.2.2.1.cell (p:=⟨L,_,none⟩) HK.out.1 (fun q=>q)).trans HK.out.2.1)
    go_simp
    try with_reducible rfl
   refine tq (i:=8) (oi:=⟨some 34,.convert 2 30 (.tmp 33),30, "ref.go:98",#[⟨7,.data⟩],none⟩) (v:=.int .u64 (IntKind.u64.wrap (hiW z))) hH ?_
   refine tq (i:=10) (oi:=⟨some 36,.move (.tmp 6),30, "ref.go:98",#[],none⟩) (v:=.int .u64 ((loW S+loW z) / 18446744073709551616)) hH ?_
   refine tr (rs:=[1]) ?_
   refine AllReadyH.cons (o:=⟨some 27,.load 2 (.tmp 26),2, "ref.go:98",#[⟨0,.data⟩],none⟩) rfl (fun K hK=>?_) AllReadyH.nil
   refine step_exec rfl (exec_load_pt _ _ 2 _ rfl ⟨w.heap.size+1,0,none⟩ rfl (v:=.int .i64 (hiW S)) (by have s:w6.drew.cell? ⟨w.heap.size+1,0,none⟩=some (.int .i64 (hiW S)):=(cellB (drewB H6.out.1) 0).trans rfl; go_simp)) ?_
   refine hK.out _ _ (Mod.refl _ w6).drew (fun hH=>?_)
   clear hK K
   (try simp only [Act.put,ja,jb,jc])
   refine tq (i:=2) (oi:=⟨some 28,.convert 2 30 (.tmp 27),30, "ref.go:98",#[⟨1,.data⟩],none⟩) (v:=.int .u64 (IntKind.u64.wrap (hiW S))) hH ?_
   refine tq (i:=9) (oi:=⟨some 35,.binOp .add 30 (.tmp 28) (.tmp 34) 30,30, "ref.go:98",#[⟨2,.data⟩,⟨8,.data⟩],none⟩) (v:=.int .u64 (IntKind.u64.wrap ((IntKind.u64.wrap (hiW S))+(IntKind.u64.wrap (hiW z))))) hH ?_
   refine tq (i:=11) (oi:=⟨some 37,.binOp .add 30 (.tmp 35) (.tmp 36) 30,30, "ref.go:98",#[⟨9,.data⟩,⟨10,.data⟩],none⟩) (v:=.int .u64 (IntKind.u64.wrap (IntKind.u64.wrap ((IntKind.u64.wrap (hiW S))+(IntKind.u64.wrap (hiW z)))+(loW S+loW z) / 18446744073709551616))) hH ?_
   refine tk (i:=12) (oi:=⟨some 38,.convert 30 2 (.tmp 37),2, "ref.go:98",#[⟨11,.data⟩],none⟩) (v:=.int .i64 (hiW (S+z))) hH ?_ ?_
   ·intro w' hSw
    have h:=hi_plus S z
    go_simp
    try rw [h]
    simp only [wrap64] at h
    rw [IntKind.wrap_i64]
    exact h
   refine tq (i:=13) (oi:=⟨some 39,.fieldAddr 48 (.tmp 3) 0,0, "ref.go:98",#[⟨0,.phase⟩,⟨1,.phase⟩,⟨2,.phase⟩,⟨3,.phase⟩,⟨4,.phase⟩,⟨5,.phase⟩,⟨6,.phase⟩,⟨7,.phase⟩,⟨8,.phase⟩,⟨9,.phase⟩,⟨10,.phase⟩,⟨11,.phase⟩,⟨12,.phase⟩],none⟩) (v:=.pointer (some ⟨w.heap.size+1,0,none⟩)) hH ?_
   refine tr (rs:=[14]) ?_
   refine AllReadyH.cons (o:=⟨none,.store 2 (.tmp 39) (.tmp 38),0, "ref.go:98",#[⟨13,.data⟩,⟨12,.data⟩,⟨0,.phase⟩,⟨1,.phase⟩,⟨2,.phase⟩,⟨3,.phase⟩,⟨4,.phase⟩,⟨5,.phase⟩,⟨6,.phase⟩,⟨7,.phase⟩,⟨8,.phase⟩,⟨9,.phase⟩,⟨10,.phase⟩,⟨11,.phase⟩,⟨12,.phase⟩],none⟩) rfl (fun K hK=>?_) AllReadyH.nil
   have hc:w6.drew.cell? ⟨w.heap.size+1,0,none⟩=some (.int .i64 (hiW S)):=(cellB (drewB H6.out.1) 0).trans rfl
   refine step_execS rfl (exec_store_ptR _ _ rfl rfl rfl (store_int2 hc (frozB (drewB H6.out.1) 0))) ?_
   have hb7:(w6.drew.setCell ⟨w.heap.size+1,0,none⟩ (.int .i64 (hiW (S+z)))).heap[w.heap.size+1]?=some (.cells #[.int .i64 (hiW (S+z)),.int .u64 (loW (S+z))] 48 (0,0)):=setB (drewB H6.out.1) 0 _
   have hm7:Mod (fun q=>q=w.heap.size+1) w6 (w6.drew.setCell ⟨w.heap.size+1,0,none⟩ (.int .i64 (hiW (S+z)))):=((Mod.refl (fun q=>q=w.heap.size+1) w6).drew).setCell (p:=⟨w.heap.size+1,0,none⟩) (fun _=>rfl) _
   generalize w6.drew.setCell ⟨w.heap.size+1,0,none⟩ (.int .i64 (hiW (S+z)))=w7 at hb7 hm7 ⊢
   refine hK.out _ _ hm7 (fun hH=>?_)
   clear hK K
   (try simp only [Act.put])
   refine wpAnyH_done (by kernel_rfl) ?_ _
   have H7:=hh (And.intro hb7 (And.intro ((hm7.block _ (ltB H6.out.2.1) (fun q=>by omega)).trans H6.out.2.1) (H6.out.2.2.1.trans hm7 (fun q e hl=>by omega))))
   clear hb7 hm7 hc
   go_wp2_with fail
   go_roundw
   case rel=>exact ⟨k+1,by omega,by simp,H7.out.2.1,by rw [HS.out]; exact H7.out.1,H7.out.2.2⟩
   case measure=>simp [intOf]; omega
  ·have e:k=zs.length:=by omega
   subst e
   rw [List.take_length] at hb
   have hst:=run_storeVar_row (P:=Tryz.prog) wr w.heap.size 48 48 #[.int .i64 0,.int .u64 0] #[.int .i64 (hiW zs.sum),.int .u64 (loW zs.sum)] ha (by rw [size57]; rfl) rfl (by simp [Value.oneCell'])
   have hR:=setRow_same (cs:=#[.int .i64 (hiW zs.sum),.int .u64 (loW zs.sum)]) ha
   have hmr:Mod N0 w (wr.setRow w.heap.size #[.int .i64 (hiW zs.sum),.int .u64 (loW zs.sum)]):=Mod_setRow hm (fun q=>by omega) _
   have HF:=hh (And.intro (load57_any hb) (And.intro hst (And.intro (load57_any hR) hmr)))
   clear ha hb hm hst hR hmr
   go_upto_region 8 with fail
   refine wp_region_lit ?_
   refine wx (exec_load_pt _ _ 48 _ rfl ⟨w.heap.size+1,0,none⟩ rfl HF.out.1) ?_
   refine wpList_execS rfl (exec_store_ptR _ _ rfl rfl rfl HF.out.2.1) ?_
   (try simp only [Act.put])
   go_wp2_with fail
   exact bodyPost_ret (v:=wideV zs.sum) (res36 rfl HF.out.2.2.1) rfl ⟨rfl,HF.out.2.2.2⟩
end Go.Proofs.YtckcamlicgdklaaGreat
