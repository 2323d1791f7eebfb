/- Counts, once more, that tell of more: outputs one by one, the minted totals. PRINTED BY A PROGRAM OF MY OWN off the texts before. Outputs and totals out of their readings. PRINTED BY A PROGRAM OF MY OWN off the text before. -/
import Derived.Test.YtckcamlicgdklaaGreatN32
import Derived.Test.YtckcamlicgdklaaGreatN33
import Derived.Test.YtckcamlicgdklaaGreatN13
namespace Go.Proofs.YtckcamlicgdklaaGreat
open Go.RowKit Go.Mo
set_option maxRecDepth 100000 in
set_option maxHeartbeats 1000000 in
theorem valueOf2_calls (w0:World) (cs:List Value) (h:Rd w0 65 cs) (w:World) (hm:Mod N0 w0 w):Calls Tryz.prog 50 #[.agg cs.toArray,.int .i64 6000] w fun e w'=>Cnt w 20000000000000 (fun n=>1<=n/\(n<=6000->∀ (a:Option Addr) (len c:Nat),cs[1]?=some (.slice a len c)->len<=n)) e w':=by
 obtain ⟨v,hv,hr⟩:=h.cellAt Tryz.underlying65 1 rfl 63 1 rfl rfl cc41 cc43 (by omega)
 obtain ⟨w1,hw1⟩:∃ w1,w.alloc (.cells cs.toArray 65)=w1:=⟨_,rfl⟩
 have hb:w1.heap[w.heap.size]?=some (.cells cs.toArray 65 (0,0)):=by rw [← hw1]; exact newB w _
 have hm1:Mod N0 w w1:=by rw [← hw1]; exact (Mod.refl _ w).alloc _
 have s1:w1.cell? ⟨w.heap.size,1,none⟩=some v:=by rw [cellB hb,List.getElem?_toArray]; exact hv
 have HC:=hh (assetsOf_calls w0 v hr w1 (hm.tr hm1))
 have HM:=hh hm1
 have HV:=hh hv
 obtain ⟨a,len,cap,rfl,_⟩:=hr.slice Tryz.underlying63 Tryz.c97 (by omega)
 clear hb hm1 hm h hv
 go_enter Tryz.func50,Tryz.ntmps50
 go_wp2_with fail
 refine HC.out.mono ?_
 rintro e w2 ⟨n,rfl,h0,h1,hR,hm2⟩
 have HM2:=hh (HM.out.tr hm2)
 have HR:=hh hR
 clear hm2 hR
 go_wp2_with fail
 go_ret
 refine ⟨1+n,rfl,by omega,by omega,⟨by omega,fun q a' l' c' e=>?_⟩,HM2.out⟩
 rw [HV.out] at e
 have:=HR.out (by omega) a' l' c' (by simpa using e)
 omega
set_option maxRecDepth 100000 in
set_option maxHeartbeats 1000000 in
theorem outputOf2_calls (w0:World) (cs:List Value) (h:Rd w0 71 cs) (w:World) (hm:Mod N0 w0 w):Calls Tryz.prog 24 #[.agg cs.toArray,.int .i64 6000] w fun e w'=>Cnt w 40000000000000 (fun n=>1<=n/\(n<=6000->∀ (a:Option Addr) (len c:Nat),cs[34]?=some (.slice a len c)->len<=n)) e w':=by
 have hl:=h.len Tryz.underlying71
 rw [cc49] at hl
 have hr1:=h.fieldAt Tryz.underlying71 1 rfl 65 33 2 rfl rfl cc43
 have hr4:=h.fieldAt Tryz.underlying71 4 rfl 69 68 1 rfl rfl cc47
 obtain ⟨w1,hw1⟩:∃ w1,w.alloc (.cells cs.toArray 71)=w1:=⟨_,rfl⟩
 have hb:w1.heap[w.heap.size]?=some (.cells cs.toArray 71 (0,0)):=by rw [← hw1]; exact newB w _
 have hm1:Mod N0 w w1:=by rw [← hw1]; exact (Mod.refl _ w).alloc _
 have HB:=hh (fun (W:World) (hW:Mod N0 w1 W)=>(hW.block _ (ltB hb) (fun q=>q)).trans hb)
 have HL:=hh hl
 have HM:=hh hm1
 have HM0:=hh (hm.tr hm1)
 have HR1:=hh hr1
 have HR4:=hh hr4
 clear hb hm1 hm h hr1 hr4 hl
 go_enter Tryz.func24,Tryz.ntmps24
 go_upto_region 1 with fail
 refine wp_region_held_drew (S:=fun W=>Mod N0 w1 W) (by kernel_rfl) ((Mod.refl _ w1).drew) (fun hH=>?_)
 refine tq (i:=0) (oi:=⟨some 5,.fieldAddr 71 (.tmp 2) 1,0, "count.go:53",#[],none⟩) (v:=.pointer (some ⟨w.heap.size,33,none⟩)) hH ?_
 refine tk (i:=1) (oi:=⟨some 6,.load 65 (.tmp 5),65, "count.go:53",#[⟨0,.data⟩],none⟩) (v:=.agg ((cs.drop 33).take 2).toArray) hH (fun w' hSw=>by exact exec_load_pt _ _ 65 _ rfl ⟨w.heap.size,33,none⟩ rfl (load_box (HB.out _ hSw) 65 33 2 _ Tryz.underlying65 rfl ss43 (by rw [HL.out]; omega))) ?_
 refine tq (i:=2) (oi:=⟨some 7,.move (.tmp 1),3, "count.go:53",#[],none⟩) (v:=.int .i64 6000) hH ?_
 refine tq (i:=4) (oi:=⟨some 9,.fieldAddr 71 (.tmp 2) 4,0, "count.go:53",#[],none⟩) (v:=.pointer (some ⟨w.heap.size,68,none⟩)) hH ?_
 refine tk (i:=5) (oi:=⟨some 10,.load 69 (.tmp 9),69, "count.go:53",#[⟨4,.data⟩],none⟩) (v:=.agg ((cs.drop 68).take 1).toArray) hH (fun w' hSw=>by exact exec_load_pt _ _ 69 _ rfl ⟨w.heap.size,68,none⟩ rfl (load_box (HB.out _ hSw) 69 68 1 _ Tryz.underlying69 rfl ss47 (by rw [HL.out]; omega))) ?_
 refine tq (i:=6) (oi:=⟨some 11,.move (.tmp 1),3, "count.go:53",#[],none⟩) (v:=.int .i64 6000) hH ?_
 refine tr (rs:=[3]) ?_
 refine AllReadyH.cons (o:=⟨some 8,.call {callee:=.value (.func 50),args:=#[.tmp 6,.tmp 7],argTypes:=#[65,3]},3, "count.go:53",#[⟨1,.data⟩,⟨2,.data⟩],none⟩) rfl (fun K hK=>?_) AllReadyH.nil
 go_simp
 refine (valueOf2_calls w0 _ HR1.out _ (HM0.out.tr ((Mod.refl _ w1).drew))).mono ?_
 rintro e v1 ⟨n1,rfl,n1lo,n1hi,n1R,hm⟩
 have HM1:=hh (((Mod.refl _ w1).drew).tr hm)
 have HQ1:=hh n1R; clear n1R
 clear hm
 refine hK.out _ _ HM1.out (fun hH=>?_)
 clear hK K
 (try simp only [Act.put,ja,jb,jc])
 refine tr (rs:=[7]) ?_
 refine AllReadyH.cons (o:=⟨some 12,.call {callee:=.value (.func 51),args:=#[.tmp 10,.tmp 11],argTypes:=#[69,3]},3, "count.go:53",#[⟨5,.data⟩,⟨6,.data⟩,⟨3,.chain⟩],none⟩) rfl (fun K hK=>?_) AllReadyH.nil
 go_simp
 refine (termOf_calls w0 _ HR4.out _ (HM0.out.tr HM1.out)).mono ?_
 rintro e v2 ⟨n2,rfl,n2lo,n2hi,n2R,hm⟩
 have HM2:=hh (HM1.out.tr hm)
 clear n2R
 clear hm
 refine hK.out _ _ HM2.out (fun hH=>?_)
 clear hK K
 (try simp only [Act.put,ja,jb,jc])
 refine tk (i:=8) (oi:=⟨some 13,.binOp .add 3 (.tmp 8) (.tmp 12) 3,3, "count.go:53",#[⟨3,.data⟩,⟨7,.data⟩],none⟩) (v:=.int .i64 (n1+n2)) hH ?_ ?_
 ·intro w' hSw
  go_simp
  first|exact wrap_i64 (by omega) (by omega)|with_reducible rfl
 refine tq (i:=9) (oi:=⟨some 4,.assign (.tmp 13),3, "count.go:53",#[⟨8,.data⟩,⟨7,.chain⟩,⟨0,.phase⟩,⟨1,.phase⟩,⟨2,.phase⟩,⟨3,.phase⟩,⟨4,.phase⟩,⟨5,.phase⟩,⟨6,.phase⟩,⟨7,.phase⟩,⟨8,.phase⟩],none⟩) (v:=.int .i64 (n1+n2)) hH ?_
 refine wpAnyH_done (by kernel_rfl) ?_ _
 go_wp2_with fail
 go_ret
 refine ⟨n1+n2,rfl,by omega,by omega,⟨by have:=HQ1.out.1; omega,fun q a' l' c' e=>?_⟩,HM.out.tr HM2.out⟩
 have:=HQ1.out.2 (by omega) a' l' c' (by rw [List.getElem?_take,if_pos (by omega),List.getElem?_drop]; exact e)
 omega
/-- The lengths of some outputs' assets, one by one. -/
def LensO (w:World) (a:Option Addr) (len:Nat) (ms:List Nat):Prop:=ms.length=len/\∀ i m,ms[i]?=some m->∀ L off,a=some ⟨L,off,none⟩->∃ a2 c2,w.cell? ⟨L,off+i * 69+34,none⟩=some (.slice a2 m c2)
set_option maxRecDepth 100000 in
set_option maxHeartbeats 1000000 in
theorem outputsOf2_calls (w0:World) (v:Value) (h:Rd w0 37 [v]) (w:World) (hm:Mod N0 w0 w):Calls Tryz.prog 6 #[v,.int .i64 6000] w fun e w'=>Cnt w 50000000000000 (fun n=>n<=6000->∀ (a:Option Addr) (len c:Nat),v=.slice a len c->(len:Int)<=n/\∀ ms,LensO w0 a len ms->((ms.sum:Nat):Int)<=n) e w':=by
 obtain ⟨a,len,cap,rfl,hb,_,hel⟩:=h.slice Tryz.underlying37 cc49 (by omega)
 have hlen:=len_of_bytes hb bb49
 have HE:=hh hel
 have HM:=hh hm
 clear hel hm hb h
 go_enter Tryz.func6,Tryz.ntmps6
 go_wp2_with fail
 go_loopw [5,6] (fun n i wr=>∃ (k:Nat) (z:Int),k<=len/\i=.int .i64 k/\n=.int .i64 z/\k<=z/\z<=50000000000000/\(z<=6000->∀ ms,LensO w0 a len ms->(((ms.take k).sum:Nat):Int)<=z)/\Mod N0 w wr) (fun _ i _=>len - (intOf i).toNat)
 case atStart=>exact ⟨0,0,by omega,rfl,rfl,by omega,by omega,fun _ ms _=>by simp,Mod.refl _ w⟩
 case round=>
  obtain ⟨k,z,hk,rfl,rfl,hz0,hz1,hms,hmr⟩:=hrel
  have HS:=hh hms
  clear hms
  by_cases hlt:k<len
  ·by_cases hz:z<=6000
   ·obtain ⟨L,off,ds,rfl,hL,hcl,hrd,hcs⟩:=HE.out k hlt
    have hld:=load_mid (p:=off+k * 69) (fun j u hu=>(hmr.cell (p:=⟨L,_,none⟩) (Nat.lt_of_lt_of_le hL HM.out.size) (fun q=>q)).trans ((HM.out.cell (p:=⟨L,_,none⟩) hL (fun q=>q)).trans (hcs j u hu))) 71 0 69 _ Tryz.underlying71 rfl ss49 (by omega)
    have hcc:=outputOf2_calls w0 ds hrd wr (HM.out.tr hmr)
    rw [Nat.add_zero] at hld
    rw [List.drop_zero,List.take_of_length_le (by omega)] at hld
    have HCC:=hh hcc
    obtain ⟨u,hu,hru⟩:=(hrd.fieldAt Tryz.underlying71 1 rfl 65 33 2 rfl rfl cc43).cellAt Tryz.underlying65 1 rfl 63 1 rfl rfl cc41 cc43 (by omega)
    have hu2:=sub_get hu
    have HU:=hh (And.intro hu2 (hcs 34 u hu2))
    have HLD:=hh hld
    have hMR:=hh hmr
    clear hmr hcs hrd hld hu hru hu2 hcc
    go_wp2_with (refine wpList_exec rfl (exec_load_pt _ _ 71 _ rfl ⟨L,off+k * 69,none⟩ rfl HLD.out) ?_)
    refine HCC.out.mono ?_
    rintro e w9 ⟨m,rfl,hm0,hm1,hmR,hmw⟩
    have hM9:=hh (hMR.out.tr hmw)
    have HR:=hh hmR
    clear hmw hmR
    go_wp2_with fail
    go_roundw
    case rel=>
     refine ⟨k+1,z+m,by omega,rfl,rfl,by have:=HR.out.1; omega,by omega,fun q ms hl=>?_,hM9.out⟩
     have h1:=HS.out hz ms hl
     have hki:k<ms.length:=by rw [hl.1]; exact hlt
     obtain ⟨a2,c2,h2⟩:=hl.2 k ms[k] (List.getElem?_eq_getElem hki) L off rfl
     rw [h2] at HU
     have h3:=HU.out.2
     simp only [Option.some.injEq] at h3
     have h4:=HU.out.1
     rw [← h3] at h4
     have h5:=HR.out.2 (by omega) a2 ms[k] c2 h4
     rw [List.take_add_one,List.getElem?_eq_getElem hki]
     simp only [Option.toList_some,List.sum_append,List.sum_cons,List.sum_nil]
     omega
    case measure=>simp [intOf]; omega
   ·have hMR:=hh hmr
    clear hmr
    go_wp2_with fail
    go_ret
    exact ⟨z,rfl,by omega,by omega,fun q=>by omega,hMR.out⟩
  ·have e:k=len:=by omega
   subst e
   have hMR:=hh hmr
   clear hmr
   go_wp2_with fail
   go_ret
   refine ⟨z,rfl,by omega,by omega,fun q a' l' c' e=>?_,hMR.out⟩
   simp only [Value.slice.injEq] at e
   obtain ⟨rfl,rfl,rfl⟩:=e
   refine ⟨hz0,fun ms hl=>?_⟩
   have h1:=HS.out q ms hl
   rw [List.take_of_length_le (by rw [hl.1]; exact Nat.le_refl _)] at h1
   exact h1
set_option maxRecDepth 100000 in
set_option maxHeartbeats 1000000 in
theorem stateOf2_calls (w0:World) (cs:List Value) (h:Rd w0 36 cs) (w:World) (hm:Mod N0 w0 w):Calls Tryz.prog 23 #[.agg cs.toArray,.int .i64 6000] w fun e w'=>Cnt w 3000000000000000 (fun n=>n<=6000->(∀ (a:Option Addr) (len c:Nat),cs[179]?=some (.slice a len c)->(len:Int)<=n)/\∀ (a:Option Addr) (len c:Nat),cs[44]?=some (.slice a len c)->(len:Int)<=n/\∀ ms,LensOf w0 a len ms->((ms.sum:Nat):Int)<=n) e w':=by
 have hl:=h.len Tryz.underlying36
 rw [cc36] at hl
 obtain ⟨v2,hv2,hr2⟩:=h.cellAt Tryz.underlying36 2 rfl 28 44 rfl rfl cc28 cc36 (by omega)
 obtain ⟨a2,l2,c2,rfl,hb2,_,hel2⟩:=id (hr2.slice Tryz.underlying28 cc51 (by omega))
 have hl2:=len_of_bytes hb2 bb51
 have HR2:=hh hr2
 have HC44:=hh hv2
 have HE2:=hh hel2
 clear hv2 hr2 hb2 hel2
 obtain ⟨v3,hv3,hr3⟩:=h.cellAt Tryz.underlying36 3 rfl 29 45 rfl rfl cc29 cc36 (by omega)
 obtain ⟨a3,l3,c3,rfl,hb3,_,hel3⟩:=id (hr3.slice Tryz.underlying29 cc108 (by omega))
 have hl3:=len_of_bytes hb3 bb108
 have HR3:=hh hr3
 have HC45:=hh hv3
 have HE3:=hh hel3
 clear hv3 hr3 hb3 hel3
 obtain ⟨v9,hv9,hr9⟩:=h.cellAt Tryz.underlying36 9 rfl 33 179 rfl rfl cc33 cc36 (by omega)
 obtain ⟨a9,l9,c9,rfl,hb9,_,hel9⟩:=id (hr9.slice Tryz.underlying33 cc88 (by omega))
 have hl9:=len_of_bytes hb9 bb88
 have HR9:=hh hr9
 have HC179:=hh hv9
 have HE9:=hh hel9
 clear hv9 hr9 hb9 hel9
 obtain ⟨v10,hv10,hr10⟩:=h.cellAt Tryz.underlying36 10 rfl 34 180 rfl rfl cc34 cc36 (by omega)
 obtain ⟨a10,l10,c10,rfl,hb10,_,hel10⟩:=id (hr10.slice Tryz.underlying34 cc127 (by omega))
 have hl10:=len_of_bytes hb10 bb127
 have HR10:=hh hr10
 have HC180:=hh hv10
 have HE10:=hh hel10
 clear hv10 hr10 hb10 hel10
 obtain ⟨w1,hw1⟩:∃ w1,w.alloc (.cells cs.toArray 36)=w1:=⟨_,rfl⟩
 have hb:w1.heap[w.heap.size]?=some (.cells cs.toArray 36 (0,0)):=by rw [← hw1]; exact newB w _
 have hm1:Mod N0 w w1:=by rw [← hw1]; exact (Mod.refl _ w).alloc _
 have HB:=hh (fun (W:World) (hW:Mod N0 w1 W)=>(hW.block _ (ltB hb) (fun q=>q)).trans hb)
 have HM:=hh hm1
 have HM0:=hh (hm.tr hm1)
 have HL:=hh hl
 clear hb h hm1 hm hl
 have HS3:=hh (fun (W:World) (hW:Mod N0 w1 W)=>(show W.cell? ⟨w.heap.size,45,none⟩=some (.slice a3 l3 c3) from (cellB (HB.out _ hW) 45).trans (by rw [List.getElem?_toArray]; exact HC45.out)))
 go_enter Tryz.func23,Tryz.ntmps23
 go_upto_region 1 with fail
 refine wp_region_held_drew (S:=fun W=>Mod N0 w1 W) (by kernel_rfl) ((Mod.refl _ w1).drew) (fun hH=>?_)
 refine tq (i:=0) (oi:=⟨some 7,.fieldAddr 36 (.tmp 2) 2,0, "count.go:130",#[],none⟩) (v:=.pointer (some ⟨w.heap.size,44,none⟩)) hH ?_
 refine tk (i:=1) (oi:=⟨some 8,.load 28 (.tmp 7),28, "count.go:130",#[⟨0,.data⟩],none⟩) (v:=.slice a2 l2 c2) hH ?_ ?_
 ·intro w' hSw
  have s:w'.cell? ⟨w.heap.size,44,none⟩=some (.slice a2 l2 c2):=(cellB (HB.out _ hSw) 44).trans (by rw [List.getElem?_toArray]; exact HC44.out)
  go_simp
  try with_reducible rfl
 refine tq (i:=2) (oi:=⟨some 9,.move (.tmp 1),3, "count.go:130",#[],none⟩) (v:=.int .i64 6000) hH ?_
 refine tq (i:=5) (oi:=⟨some 12,.fieldAddr 36 (.tmp 2) 10,0, "count.go:130",#[],none⟩) (v:=.pointer (some ⟨w.heap.size,180,none⟩)) hH ?_
 refine tk (i:=6) (oi:=⟨some 13,.load 34 (.tmp 12),34, "count.go:130",#[⟨5,.data⟩],none⟩) (v:=.slice a10 l10 c10) hH ?_ ?_
 ·intro w' hSw
  have s:w'.cell? ⟨w.heap.size,180,none⟩=some (.slice a10 l10 c10):=(cellB (HB.out _ hSw) 180).trans (by rw [List.getElem?_toArray]; exact HC180.out)
  go_simp
  try with_reducible rfl
 refine tq (i:=7) (oi:=⟨some 14,.move (.tmp 1),3, "count.go:130",#[],none⟩) (v:=.int .i64 6000) hH ?_
 refine tq (i:=10) (oi:=⟨some 17,.fieldAddr 36 (.tmp 2) 9,0, "count.go:130",#[],none⟩) (v:=.pointer (some ⟨w.heap.size,179,none⟩)) hH ?_
 refine tk (i:=11) (oi:=⟨some 18,.load 33 (.tmp 17),33, "count.go:130",#[⟨10,.data⟩],none⟩) (v:=.slice a9 l9 c9) hH ?_ ?_
 ·intro w' hSw
  have s:w'.cell? ⟨w.heap.size,179,none⟩=some (.slice a9 l9 c9):=(cellB (HB.out _ hSw) 179).trans (by rw [List.getElem?_toArray]; exact HC179.out)
  go_simp
  try with_reducible rfl
 refine tq (i:=12) (oi:=⟨some 19,.call {callee:=.builtin .len,args:=#[.tmp 18],argTypes:=#[33]},3, "count.go:130",#[⟨11,.data⟩],none⟩) (v:=.int .i64 l9) hH ?_
 refine tr (rs:=[3]) ?_
 refine AllReadyH.cons (o:=⟨some 10,.call {callee:=.value (.func 47),args:=#[.tmp 8,.tmp 9],argTypes:=#[28,3]},3, "count.go:130",#[⟨1,.data⟩,⟨2,.data⟩],none⟩) rfl (fun K hK=>?_) AllReadyH.nil
 go_simp
 refine (entriesOf_calls w0 _ HR2.out _ (HM0.out.tr ((Mod.refl _ w1).drew))).mono ?_
 rintro e v1 ⟨n1,rfl,n1lo,n1hi,n1R,hm⟩
 have HM1:=hh (((Mod.refl _ w1).drew).tr hm)
 have HQ1:=hh n1R; clear n1R
 clear hm
 refine hK.out _ _ HM1.out (fun hH=>?_)
 clear hK K
 (try simp only [Act.put,ja,jb,jc])
 refine tk (i:=4) (oi:=⟨some 11,.binOp .add 3 (.const (.int .i64 1)) (.tmp 10) 3,3, "count.go:130",#[⟨3,.data⟩],none⟩) (v:=.int .i64 (1+n1)) hH ?_ ?_
 ·intro w' hSw
  go_simp
  first|exact wrap_i64 (by omega) (by omega)|with_reducible rfl
 refine tr (rs:=[8]) ?_
 refine AllReadyH.cons (o:=⟨some 15,.call {callee:=.value (.func 48),args:=#[.tmp 13,.tmp 14],argTypes:=#[34,3]},3, "count.go:130",#[⟨6,.data⟩,⟨7,.data⟩,⟨3,.chain⟩],none⟩) rfl (fun K hK=>?_) AllReadyH.nil
 go_simp
 refine (txsOf_calls w0 _ HR10.out _ (HM0.out.tr HM1.out)).mono ?_
 rintro e v2 ⟨n2,rfl,n2lo,n2hi,n2R,hm⟩
 have HM2:=hh (HM1.out.tr hm)
 clear n2R
 clear hm
 refine hK.out _ _ HM2.out (fun hH=>?_)
 clear hK K
 (try simp only [Act.put,ja,jb,jc])
 refine tk (i:=9) (oi:=⟨some 16,.binOp .add 3 (.tmp 11) (.tmp 15) 3,3, "count.go:130",#[⟨4,.data⟩,⟨8,.data⟩],none⟩) (v:=.int .i64 ((1+n1)+n2)) hH ?_ ?_
 ·intro w' hSw
  go_simp
  first|exact wrap_i64 (by omega) (by omega)|with_reducible rfl
 refine tk (i:=13) (oi:=⟨some 20,.binOp .add 3 (.tmp 16) (.tmp 19) 3,3, "count.go:130",#[⟨9,.data⟩,⟨12,.data⟩],none⟩) (v:=.int .i64 (((1+n1)+n2)+l9)) hH ?_ ?_
 ·intro w' hSw
  go_simp
  first|exact wrap_i64 (by omega) (by omega)|with_reducible rfl
 refine tq (i:=14) (oi:=⟨some 5,.assign (.tmp 20),3, "count.go:130",#[⟨13,.data⟩,⟨8,.chain⟩,⟨0,.phase⟩,⟨1,.phase⟩,⟨2,.phase⟩,⟨3,.phase⟩,⟨4,.phase⟩,⟨5,.phase⟩,⟨6,.phase⟩,⟨7,.phase⟩,⟨8,.phase⟩,⟨9,.phase⟩,⟨10,.phase⟩,⟨11,.phase⟩,⟨12,.phase⟩,⟨13,.phase⟩],none⟩) (v:=.int .i64 (((1+n1)+n2)+l9)) hH ?_
 refine wpAnyH_done (by kernel_rfl) ?_ _
 go_wp2_with fail
 go_loopw [5,6] (fun n i wr=>∃ (k:Nat) (z:Int),k<=l3/\i=.int .i64 k/\n=.int .i64 z/\n1+l9<=z/\z<=3000000000000000/\Mod N0 w1 wr) (fun _ i _=>l3 - (intOf i).toNat)
 case atStart=>exact ⟨0,_,by omega,rfl,rfl,by omega,by omega,HM2.out⟩
 case round=>
  obtain ⟨k,z,hk,rfl,rfl,hz0,hz1,hmr⟩:=hrel
  have s0:=HS3.out _ hmr
  by_cases hlt:k<l3
  ·by_cases hz:z<=6000
   ·obtain ⟨L,off,ds,rfl,hL,hcl,hrd,hcs⟩:=HE3.out k hlt
    have hld:=load_mid (p:=off+k * 106) (fun j u hu=>(hmr.cell (p:=⟨L,_,none⟩) (Nat.lt_of_lt_of_le hL HM0.out.size) (fun q=>q)).trans ((HM0.out.cell (p:=⟨L,_,none⟩) hL (fun q=>q)).trans (hcs j u hu))) 145 0 106 _ Tryz.underlying145 rfl ss108 (by omega)
    have hcc:=storedOf_calls w0 ds hrd wr (HM0.out.tr hmr)
    rw [Nat.add_zero] at hld
    rw [List.drop_zero,List.take_of_length_le (by omega)] at hld
    have HLD:=hh hld
    have HCC:=hh hcc
    have hMR:=hh hmr
    clear hmr hcs hrd hld hcc
    go_wp2_with (refine wpList_exec rfl (exec_load_pt _ _ 145 _ rfl ⟨L,off+k * 106,none⟩ rfl HLD.out) ?_)
    refine HCC.out.mono ?_
    rintro e w9 ⟨m,rfl,hm0,hm1,hmR,hmw⟩
    have hM9:=hh (hMR.out.tr hmw)
    clear hmw hmR
    go_wp2_with fail
    go_roundw
    case rel=>exact ⟨k+1,z+m,by omega,rfl,rfl,by omega,by omega,hM9.out⟩
    case measure=>simp [intOf]; omega
   ·have hMR:=hh hmr
    clear hmr
    go_wp2_with fail
    go_ret
    refine ⟨z,rfl,by omega,by omega,fun q=>⟨fun a' l' c' e=>?_,fun a' l' c' e=>?_⟩,HM.out.tr hMR.out⟩
    ·rw [HC179.out] at e
     simp only [Option.some.injEq,Value.slice.injEq] at e
     omega
    rw [HC44.out] at e
    obtain ⟨e1,e2⟩:=HQ1.out (by omega) a' l' c' (by simpa using e)
    exact ⟨by omega,fun ms hl=>by have:=e2 ms hl; omega⟩
  ·have e:k=l3:=by omega
   subst e
   have hMR:=hh hmr
   clear hmr
   go_wp2_with fail
   go_ret
   refine ⟨z,rfl,by omega,by omega,fun q=>⟨fun a' l' c' e=>?_,fun a' l' c' e=>?_⟩,HM.out.tr hMR.out⟩
   ·rw [HC179.out] at e
    simp only [Option.some.injEq,Value.slice.injEq] at e
    omega
   rw [HC44.out] at e
   obtain ⟨e1,e2⟩:=HQ1.out (by omega) a' l' c' (by simpa using e)
   exact ⟨by omega,fun ms hl=>by have:=e2 ms hl; omega⟩
set_option maxRecDepth 100000 in
set_option maxHeartbeats 1000000 in
theorem great2_calls (w0:World) (cs:List Value) (h:Rd w0 36 cs) (w:World) (hm:Mod N0 w0 w):Calls Tryz.prog 5 #[.agg cs.toArray] w fun e w'=>∃ b:Bool,e=.returned (.bool b)/\(b=false->(∀ (a:Option Addr) (len c:Nat),cs[179]?=some (.slice a len c)->len<=6000)/\∀ (a:Option Addr) (len c:Nat),cs[44]?=some (.slice a len c)->len<=6000/\∀ ms,LensOf w0 a len ms->ms.sum<=6000)/\Mod N0 w w':=by
 have hl:=h.len Tryz.underlying36
 rw [cc36] at hl
 obtain ⟨w1,hw1⟩:∃ w1,w.alloc (.cells cs.toArray 36)=w1:=⟨_,rfl⟩
 have hb:w1.heap[w.heap.size]?=some (.cells cs.toArray 36 (0,0)):=by rw [← hw1]; exact newB w _
 have hm1:Mod N0 w w1:=by rw [← hw1]; exact (Mod.refl _ w).alloc _
 have HB:=hh (fun (W:World) (hW:Mod N0 w1 W)=>(hW.block _ (ltB hb) (fun q=>q)).trans hb)
 have HM:=hh hm1
 have HM0:=hh (hm.tr hm1)
 have hld:=load_box hb 36 0 182 _ Tryz.underlying36 rfl ss36 (by omega)
 rw [List.drop_zero,List.take_of_length_le (by omega)] at hld
 have HLD:=hh hld
 have HCC:=hh (stateOf2_calls w0 cs h w1 (hm.tr hm1))
 clear hb h hm1 hm hl hld
 go_enter Tryz.func5,Tryz.ntmps5
 go_wp2_with (refine wpList_exec rfl (exec_load_pt _ _ 36 _ rfl ⟨w.heap.size,0,none⟩ rfl HLD.out) ?_)
 refine HCC.out.mono ?_
 rintro e w2 ⟨n,rfl,h0,h1,hR,hm2⟩
 have HM2:=hh (HM.out.tr hm2)
 have HR:=hh hR
 clear hm2 hR
 go_wp2_with fail
 go_ret
 refine ⟨_,rfl,fun q=>?_,HM2.out⟩
 have hn:n<=6000:=by simpa using q
 refine ⟨fun a l c e=>by have:=(HR.out hn).1 a l c e; omega,fun a l c e=>?_⟩
 obtain ⟨e1,e2⟩:=(HR.out hn).2 a l c e
 exact ⟨by omega,fun ms hl=>by have:=e2 ms hl; omega⟩
end Go.Proofs.YtckcamlicgdklaaGreat
namespace Go.Proofs.YtckcamlicgdklaaGreat
open Go.RowKit Go.Mo Go.Sort
theorem out_of_rd {w:World} {os:List Value} (ho:Rd w 71 os):∃ (x:Ent) (a2:Option Addr) (c2:Nat),os=outCells x a2 c2/\In64 x.val.coin/\(x.val.assets.length<=1000000->AssetsAt w (.slice a2 x.val.assets.length c2) x.val.assets):=by
 have hol:=ho.len Tryz.underlying71
 rw [cc49] at hol
 have hA:=ho.fieldAt Tryz.underlying71 0 rfl 41 0 33 rfl rfl Tryz.c40
 obtain ⟨vb,hvb,hrb⟩:=hA.cellAt Tryz.underlying41 0 rfl 4 0 rfl rfl Tryz.c4 Tryz.c40 (by omega)
 obtain ⟨bb,rfl⟩:=hrb.bool Tryz.underlying4
 obtain ⟨ph,hph,hphe⟩:=hash_of_rd (hA.fieldAt Tryz.underlying41 1 rfl 27 1 32 rfl rfl Tryz.c27)
 have hV:=ho.fieldAt Tryz.underlying71 1 rfl 65 33 2 rfl rfl cc43
 obtain ⟨vc,hvc,hrc⟩:=hV.cellAt Tryz.underlying65 0 rfl 2 0 rfl rfl (by kernel_rfl) cc43 (by omega)
 obtain ⟨co,rfl,hco⟩:=hrc.int Tryz.underlying2
 obtain ⟨va,hva,hra⟩:=hV.cellAt Tryz.underlying65 1 rfl 63 1 rfl rfl cc41 cc43 (by omega)
 obtain ⟨a2,az,c2,rfl,has⟩:=assets_of_rd hra
 obtain ⟨vd,hvd,hrd⟩:=ho.cellAt Tryz.underlying71 2 rfl 66 35 rfl rfl (by kernel_rfl) cc49 (by omega)
 obtain ⟨nd,rfl,_⟩:=hrd.int Tryz.underlying66
 obtain ⟨pd,hpd,hpde⟩:=hash_of_rd (ho.fieldAt Tryz.underlying71 3 rfl 27 36 32 rfl rfl Tryz.c27)
 have hT:=ho.fieldAt Tryz.underlying71 4 rfl 69 68 1 rfl rfl cc47
 obtain ⟨vt,hvt,hrt⟩:=hT.cellAt Tryz.underlying69 0 rfl 67 0 rfl rfl cc45 cc47 (by omega)
 have hvt1:=slice_one Tryz.underlying67 cc112 (by omega) hrt
 have g0:=sub_get hvb
 have g1:=sub_get hvc
 have g2:=sub_get hva
 have g3:=sub_get hvt
 rw [List.drop_zero] at hA
 refine ⟨{pre:=List.replicate 33 (.int .u8 0),addr:=⟨bb,ph,hph⟩,val:=⟨co,az⟩,post:=.int .i64 nd :: (pd.map by8 ++ [vt]),hpre:=by simp,hpost:=by simp [hpd],ones:=?_},a2,c2,?_,in64_wf hco,has⟩
 ·intro u hu
  simp only [List.mem_append,List.mem_cons,List.mem_map,List.not_mem_nil,or_false,List.mem_replicate] at hu
  rcases hu with ⟨_,rfl⟩|rfl|⟨x,_,rfl⟩|rfl
  ·rfl
  ·rfl
  ·rfl
  ·exact hvt1
 ·have e2:os=adrCells ⟨bb,ph,hph⟩ ++ ([.int .i64 co,.slice a2 az.length c2] ++ (.int .i64 nd :: (pd.map by8 ++ [vt]))):=by
   refine List.ext_getElem? fun i=>?_
   have hal:(adrCells ⟨bb,ph,hph⟩).length=33:=adrCells_length _
   by_cases h0:i<33
   ·rw [List.getElem?_append_left (by omega)]
    unfold adrCells
    cases i with
   |zero=>simpa using g0
   |succ i=>
     rw [List.getElem?_cons_succ,← hphe,List.getElem?_take,if_pos (by omega),List.getElem?_drop,List.getElem?_take,if_pos (by omega),List.drop_zero,Nat.add_comm]
   ·rw [List.getElem?_append_right (by omega),hal]
    obtain ⟨k,rfl⟩:∃ k,i=33+k:=⟨i - 33,by omega⟩
    rw [Nat.add_sub_cancel_left]
    match k with
   |0=>simpa using g1
   |1=>simpa using g2
   |2=>simpa using hvd
   |k+3=>
     simp only [List.cons_append,List.nil_append,List.getElem?_cons_succ]
     by_cases h5:k<32
     ·rw [List.getElem?_append_left (by simp [hpd]; omega),← hpde,List.getElem?_take,if_pos h5,List.getElem?_drop]
      congr 1
      omega
     ·by_cases h6:k=32
      ·subst h6
       rw [List.getElem?_append_right (by simp [hpd])]
       simpa [hpd] using g3
      ·rw [List.getElem?_eq_none (by omega),List.getElem?_eq_none (by simp [hpd]; omega)]
  exact e2
/-- Outputs out of their reading. -/
theorem outs_of_rd {w:World} {v:Value} (h:Rd w 37 [v]):∃ (a:Option Addr) (es:List Ent) (c:Nat),v=.slice a es.length c/\LensO w a es.length (es.map fun x=>x.val.assets.length) /\
  ((∀ x∈es,x.val.assets.length<=1000000)->OutsAt w v es):=by
 obtain ⟨a,len,c,rfl,_,hn,hel⟩:=h.slice Tryz.underlying37 cc49 (by omega)
 obtain ⟨es,hes,hp⟩:=list_ofR (P:=fun i (x:Ent)=>In64 x.val.coin/\∃ L off a2 c2,a=some ⟨L,off,none⟩/\L<w.heap.size/\(x.val.assets.length<=1000000->AssetsAt w (.slice a2 x.val.assets.length c2) x.val.assets)/\∀ j u,(outCells x a2 c2)[j]?=some u->w.cell? ⟨L,off+i * 69+j,none⟩=some u) len (fun i hi=>by
  obtain ⟨L,off,cs,rfl,hL,hcl,hrd,hcs⟩:=hel i hi
  obtain ⟨x,a2,c2,rfl,hco,has⟩:=out_of_rd hrd
  exact ⟨x,hco,L,off,a2,c2,rfl,hL,has,hcs⟩)
 subst hes
 refine ⟨a,es,c,rfl,⟨by simp,fun i m hm L off he=>?_⟩,fun h1=>⟨a,c,rfl,fun i x hx=>?_⟩⟩
 ·rw [List.getElem?_map] at hm
  cases hy:es[i]? with
 |none=>rw [hy] at hm; cases hm
 |some y=>
   rw [hy] at hm
   cases hm
   obtain ⟨_,L',off',a2,c2,e,_,_,hcs⟩:=hp i y hy
   rw [he] at e
   cases e
   refine ⟨a2,c2,hcs 34 _ ?_⟩
   have h2:=y.hadr
   simp only [outCells]
   rw [List.getElem?_append_right (by omega),h2]
   rfl
 ·obtain ⟨g1,L,off,a2,c2,e,hL,hA,hcs⟩:=hp i x hx
  exact ⟨g1,L,off,a2,c2,e,hL,hA (h1 x (List.mem_of_getElem? hx)),hcs⟩
theorem u64_wf {n:Int} (h:(Lit.int .u64 n).wf=true):0<=n/\n<18446744073709551616:=by
 have h2:IntKind.u64.max=18446744073709551615:=rfl
 have h3:IntKind.u64.min=0:=rfl
 simp only [Lit.wf,Bool.and_eq_true,decide_eq_true_eq] at h
 omega
theorem hi_of {h l:Int} (h0:-9223372036854775808<=h) (h1:h<=9223372036854775807) (l0:0<=l) (l1:l<18446744073709551616):hiW (h * 18446744073709551616+l)=h/\loW (h * 18446744073709551616+l)=l:=by
 unfold hiW loW wrap64
 omega
theorem tot_of_rd {w:World} {cs:List Value} (h:Rd w 78 cs):∃ x:Nm×Int,cs=totCells x:=by
 have hl:=h.len Tryz.underlying78
 rw [cc88] at hl
 obtain ⟨p,hp,hpe⟩:=hash_of_rd (h.fieldAt Tryz.underlying78 0 rfl 27 0 32 rfl rfl Tryz.c27)
 obtain ⟨v1,hv1,hr1⟩:=h.cellAt Tryz.underlying78 1 rfl 9 32 rfl rfl Tryz.c9 cc88 (by omega)
 obtain ⟨s,rfl,hs⟩:=hr1.string Tryz.underlying9
 have hw:=h.fieldAt Tryz.underlying78 2 rfl 48 33 2 rfl rfl (by kernel_rfl)
 obtain ⟨v2,hv2,hr2⟩:=hw.cellAt Tryz.underlying48 0 rfl 2 0 rfl rfl (by kernel_rfl) (n:=2) (by kernel_rfl) (by omega)
 obtain ⟨z2,rfl,hz2⟩:=hr2.int Tryz.underlying2
 obtain ⟨v3,hv3,hr3⟩:=hw.cellAt Tryz.underlying48 1 rfl 30 1 rfl rfl (by kernel_rfl) (n:=2) (by kernel_rfl) (by omega)
 obtain ⟨z3,rfl,hz3⟩:=hr3.int Tryz.underlying30
 have h64:=in64_wf hz2
 have hu:=u64_wf hz3
 unfold In64 at h64
 obtain ⟨e1,e2⟩:=hi_of h64.1 h64.2 hu.1 hu.2
 have g2:=sub_get hv2
 have g3:=sub_get hv3
 refine ⟨(⟨p,s.data.toList,hp,by simp only [reachBytes] at hs; simp only [maxLen]; have:s.data.toList.length=s.size:=rfl; omega⟩,z2 * 18446744073709551616+z3),?_⟩
 rw [List.drop_zero] at hpe
 refine List.ext_getElem? fun i=>?_
 simp only [totCells,nmCells,← hpe,e1,e2]
 have hlt:(cs.take 32).length=32:=by simp; omega
 by_cases h1:i<32
 ·rw [List.getElem?_append_left (by simp; omega),List.getElem?_append_left (by omega),List.getElem?_take,if_pos h1]
 ·by_cases h2:i=32
  ·subst h2
   rw [List.getElem?_append_left (by simp; omega),List.getElem?_append_right (by omega),hlt,hv1]
   rfl
  ·by_cases h3:i=33
   ·subst h3
    rw [List.getElem?_append_right (by simp; omega)]
    simpa [hlt] using g2
   ·by_cases h4:i=34
    ·subst h4
     rw [List.getElem?_append_right (by simp; omega)]
     simpa [hlt] using g3
    ·rw [List.getElem?_eq_none (by omega),List.getElem?_eq_none (by simp; omega)]
theorem tots_of_rd {w:World} {v:Value} (h:Rd w 33 [v]):∃ (a:Option Addr) (xs:List (Nm×Int)) (c:Nat),v=.slice a xs.length c/\(xs.length<=1000000->TotsAt w v xs):=by
 obtain ⟨a,len,c,rfl,_,hn,hel⟩:=h.slice Tryz.underlying33 cc88 (by omega)
 obtain ⟨xs,hxs,hp⟩:=list_ofR (P:=fun i (x:Nm×Int)=>∃ L off,a=some ⟨L,off,none⟩/\L<w.heap.size/\∀ j u,(totCells x)[j]?=some u->w.cell? ⟨L,off+i * 35+j,none⟩=some u) len (fun i hi=>by
  obtain ⟨L,off,cs,rfl,hL,hcl,hrd,hcs⟩:=hel i hi
  obtain ⟨x,rfl⟩:=tot_of_rd hrd
  exact ⟨x,L,off,rfl,hL,hcs⟩)
 subst hxs
 exact ⟨a,xs,c,rfl,fun hle=>⟨a,c,rfl,fun e=>(hn e).2,hle,hp⟩⟩
end Go.Proofs.YtckcamlicgdklaaGreat
