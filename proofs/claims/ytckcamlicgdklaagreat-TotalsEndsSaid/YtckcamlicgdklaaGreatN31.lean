/- EntriesOf, BodyOf, DiffOf: counts. -/
import Derived.Test.YtckcamlicgdklaaGreatN30
namespace Go.Proofs.YtckcamlicgdklaaGreat
open Go.RowKit Go.Mo
/-- The lengths of some entries' assets, one by one. -/
def LensOf (w:World) (a:Option Addr) (len:Nat) (ms:List Nat):Prop:=ms.length=len/\∀ i m,ms[i]?=some m->∀ L off,a=some ⟨L,off,none⟩->∃ a2 c2,w.cell? ⟨L,off+i * 102+67,none⟩=some (.slice a2 m c2)
set_option maxRecDepth 100000 in
theorem entriesOf_calls (w0:World) (v:Value) (h:Rd w0 28 [v]) (w:World) (hm:Mod N0 w0 w):Calls Tryz.prog 47 #[v,.int .i64 6000] w fun e w'=>Cnt w 50000000000000 (fun n=>n<=6000->∀ (a:Option Addr) (len c:Nat),v=.slice a len c->(len:Int)<=n/\∀ ms,LensOf w0 a len ms->((ms.sum:Nat):Int)<=n) e w':=by
 obtain ⟨a,len,cap,rfl,hb,_,hel⟩:=h.slice Tryz.underlying28 cc51 (by omega)
 have hlen:=len_of_bytes hb bb51
 have HE:=hh hel
 have HM:=hh hm
 clear hel hm hb h
 go_enter Tryz.func47,Tryz.ntmps47
 go_wp2_with fail
 go_loopw [5,6] (fun n i wr=>∃ (k:Nat) (z:Int),k<=len/\i=.int .i64 k/\n=.int .i64 z/\k<=z/\z<=50000000000000/\(z<=6000->∀ ms,LensOf w0 a len ms->(((ms.take k).sum:Nat):Int)<=z)/\Mod N0 w wr) (fun _ i _=>len - (intOf i).toNat)
 case atStart=>exact ⟨0,0,by omega,rfl,rfl,by omega,by omega,fun _ ms _=>by simp,Mod.refl _ w⟩
 case round=>
  obtain ⟨k,z,hk,rfl,rfl,hz0,hz1,hms,hmr⟩:=hrel
  have HS:=hh hms
  clear hms
  by_cases hlt:k<len
  ·by_cases hz:z<=6000
   ·obtain ⟨L,off,ds,rfl,hL,hcl,hrd,hcs⟩:=HE.out k hlt
    have hld:=load_mid (p:=off+k * 102) (fun j u hu=>(hmr.cell (p:=⟨L,_,none⟩) (Nat.lt_of_lt_of_le hL HM.out.size) (fun q=>q)).trans ((HM.out.cell (p:=⟨L,_,none⟩) hL (fun q=>q)).trans (hcs j u hu))) 71 33 69 _ Tryz.underlying71 rfl ss49 (by omega)
    have HCC:=hh (outputOf_calls w0 _ (hrd.fieldAt Tryz.underlying73 1 rfl 71 33 69 rfl rfl cc49) wr (HM.out.tr hmr))
    obtain ⟨u,hu,hru⟩:=(hrd.fieldAt Tryz.underlying73 1 rfl 71 33 69 rfl rfl cc49).fieldAt Tryz.underlying71 1 rfl 65 33 2 rfl rfl cc43 |>.cellAt Tryz.underlying65 1 rfl 63 1 rfl rfl cc41 cc43 (by omega)
    have hu2:=sub_get hu
    have HU:=hh (And.intro hu2 (hcs 67 u (sub_get hu2)))
    have HLD:=hh hld
    have hMR:=hh hmr
    clear hmr hcs hrd hld hu hru hu2
    go_wp2_with (refine wpList_exec rfl (exec_load_pt _ _ 71 _ rfl ⟨L,off+k * 102+33,none⟩ rfl HLD.out) ?_)
    refine HCC.out.mono ?_
    rintro e w9 ⟨m,rfl,hm0,hm1,hmR,hmw⟩
    have hM9:=hh (hMR.out.tr hmw)
    have HR:=hh hmR
    clear hmw hmR
    go_wp2_with fail
    go_roundw
    case rel=>
     refine ⟨k+1,z+1+m,by omega,rfl,rfl,by omega,by omega,fun q ms hl=>?_,hM9.out⟩
     have h1:=HS.out hz ms hl
     have hki:k<ms.length:=by rw [hl.1]; exact hlt
     obtain ⟨a2,c2,h2⟩:=hl.2 k ms[k] (List.getElem?_eq_getElem hki) L off rfl
     rw [h2] at HU
     have h3:=HU.out.2
     simp only [Option.some.injEq] at h3
     have h4:=HU.out.1
     rw [← h3] at h4
     have h5:=HR.out (by omega) a2 ms[k] c2 h4
     rw [List.take_add_one,List.getElem?_eq_getElem hki]
     simp only [Option.toList_some,List.sum_append,List.sum_cons,List.sum_nil]
     omega
    case measure=>simp [intOf]; omega
   ·have hMR:=hh hmr
    clear hmr
    go_wp2_with fail
    go_ret
    exact ⟨z,rfl,by omega,by omega,fun q=>by omega,hMR.out⟩
  ·have e:k=len:=by omega
   subst e
   have hMR:=hh hmr
   clear hmr
   go_wp2_with fail
   go_ret
   refine ⟨z,rfl,by omega,by omega,fun q a' l' c' e=>?_,hMR.out⟩
   simp only [Value.slice.injEq] at e
   obtain ⟨rfl,rfl,rfl⟩:=e
   refine ⟨hz0,fun ms hl=>?_⟩
   have h1:=HS.out q ms hl
   rw [List.take_of_length_le (by rw [hl.1]; exact Nat.le_refl _)] at h1
   exact h1
set_option maxRecDepth 100000 in
theorem bodyOf_calls (w0:World) (cs:List Value) (h:Rd w0 152 cs) (w:World) (hm:Mod N0 w0 w):Calls Tryz.prog 159 #[.agg cs.toArray,.int .i64 6000] w fun e w'=>Cnt w 500000000000000 (fun _=>True) e w':=by
 have hl:=h.len Tryz.underlying152
 rw [cc121] at hl
 obtain ⟨v0,hv0,hr0⟩:=h.cellAt Tryz.underlying152 0 rfl 150 0 rfl rfl cc119 cc121 (by omega)
 obtain ⟨a0,l0,c0,rfl,hb0,_,hel0⟩:=id (hr0.slice Tryz.underlying150 cc38 (by omega))
 have hl0:=len_of_bytes hb0 bb38
 have HR0:=hh hr0
 have HC0:=hh hv0
 have HE0:=hh hel0
 clear hv0 hr0 hb0 hel0
 obtain ⟨v1,hv1,hr1⟩:=h.cellAt Tryz.underlying152 1 rfl 150 1 rfl rfl cc119 cc121 (by omega)
 obtain ⟨a1,l1,c1,rfl,hb1,_,hel1⟩:=id (hr1.slice Tryz.underlying150 cc38 (by omega))
 have hl1:=len_of_bytes hb1 bb38
 have HR1:=hh hr1
 have HC1:=hh hv1
 have HE1:=hh hel1
 clear hv1 hr1 hb1 hel1
 obtain ⟨v2,hv2,hr2⟩:=h.cellAt Tryz.underlying152 2 rfl 37 2 rfl rfl cc70 cc121 (by omega)
 obtain ⟨a2,l2,c2,rfl,hb2,_,hel2⟩:=id (hr2.slice Tryz.underlying37 cc49 (by omega))
 have hl2:=len_of_bytes hb2 bb49
 have HR2:=hh hr2
 have HC2:=hh hv2
 have HE2:=hh hel2
 clear hv2 hr2 hb2 hel2
 obtain ⟨v3,hv3,hr3⟩:=h.cellAt Tryz.underlying152 3 rfl 37 3 rfl rfl cc70 cc121 (by omega)
 obtain ⟨a3,l3,c3,rfl,hb3,_,hel3⟩:=id (hr3.slice Tryz.underlying37 cc49 (by omega))
 have hl3:=len_of_bytes hb3 bb49
 have HR3:=hh hr3
 have HC3:=hh hv3
 have HE3:=hh hel3
 clear hv3 hr3 hb3 hel3
 obtain ⟨v7,hv7,hr7⟩:=h.cellAt Tryz.underlying152 7 rfl 63 7 rfl rfl cc41 cc121 (by omega)
 obtain ⟨a7,l7,c7,rfl,hb7,_,hel7⟩:=id (hr7.slice Tryz.underlying63 Tryz.c97 (by omega))
 have hl7:=len_of_bytes hb7 Tryz.b97
 have HR7:=hh hr7
 have HC7:=hh hv7
 have HE7:=hh hel7
 clear hv7 hr7 hb7 hel7
 obtain ⟨w1,hw1⟩:∃ w1,w.alloc (.cells cs.toArray 152)=w1:=⟨_,rfl⟩
 have hb:w1.heap[w.heap.size]?=some (.cells cs.toArray 152 (0,0)):=by rw [← hw1]; exact newB w _
 have hm1:Mod N0 w w1:=by rw [← hw1]; exact (Mod.refl _ w).alloc _
 have HB:=hh (fun (W:World) (hW:Mod N0 w1 W)=>(hW.block _ (ltB hb) (fun q=>q)).trans hb)
 have HM:=hh hm1
 have HM0:=hh (hm.tr hm1)
 have HL:=hh hl
 clear hb h hm1 hm hl
 go_enter Tryz.func159,Tryz.ntmps159
 go_upto_region 1 with fail
 refine wp_region_held_drew (S:=fun W=>Mod N0 w1 W) (by kernel_rfl) ((Mod.refl _ w1).drew) (fun hH=>?_)
 refine tq (i:=0) (oi:=⟨some 5,.fieldAddr 152 (.tmp 2) 0,0, "count.go:90",#[],none⟩) (v:=.pointer (some ⟨w.heap.size,0,none⟩)) hH ?_
 refine tk (i:=1) (oi:=⟨some 6,.load 150 (.tmp 5),150, "count.go:90",#[⟨0,.data⟩],none⟩) (v:=.slice a0 l0 c0) hH ?_ ?_
 ·intro w' hSw
  have s:w'.cell? ⟨w.heap.size,0,none⟩=some (.slice a0 l0 c0):=(cellB (HB.out _ hSw) 0).trans (by rw [List.getElem?_toArray]; exact HC0.out)
  go_simp
  try with_reducible rfl
 refine tq (i:=2) (oi:=⟨some 7,.call {callee:=.builtin .len,args:=#[.tmp 6],argTypes:=#[150]},3, "count.go:90",#[⟨1,.data⟩],none⟩) (v:=.int .i64 l0) hH ?_
 refine tk (i:=3) (oi:=⟨some 8,.binOp .add 3 (.const (.int .i64 1)) (.tmp 7) 3,3, "count.go:90",#[⟨2,.data⟩],none⟩) (v:=.int .i64 (1+l0)) hH ?_ ?_
 ·intro w' hSw
  go_simp
  first|exact wrap_i64 (by omega) (by omega)|with_reducible rfl
 refine tq (i:=4) (oi:=⟨some 9,.fieldAddr 152 (.tmp 2) 1,0, "count.go:90",#[],none⟩) (v:=.pointer (some ⟨w.heap.size,1,none⟩)) hH ?_
 refine tk (i:=5) (oi:=⟨some 10,.load 150 (.tmp 9),150, "count.go:90",#[⟨4,.data⟩],none⟩) (v:=.slice a1 l1 c1) hH ?_ ?_
 ·intro w' hSw
  have s:w'.cell? ⟨w.heap.size,1,none⟩=some (.slice a1 l1 c1):=(cellB (HB.out _ hSw) 1).trans (by rw [List.getElem?_toArray]; exact HC1.out)
  go_simp
  try with_reducible rfl
 refine tq (i:=6) (oi:=⟨some 11,.call {callee:=.builtin .len,args:=#[.tmp 10],argTypes:=#[150]},3, "count.go:90",#[⟨5,.data⟩],none⟩) (v:=.int .i64 l1) hH ?_
 refine tk (i:=7) (oi:=⟨some 12,.binOp .add 3 (.tmp 8) (.tmp 11) 3,3, "count.go:90",#[⟨3,.data⟩,⟨6,.data⟩],none⟩) (v:=.int .i64 ((1+l0)+l1)) hH ?_ ?_
 ·intro w' hSw
  go_simp
  first|exact wrap_i64 (by omega) (by omega)|with_reducible rfl
 refine tq (i:=8) (oi:=⟨some 13,.fieldAddr 152 (.tmp 2) 2,0, "count.go:90",#[],none⟩) (v:=.pointer (some ⟨w.heap.size,2,none⟩)) hH ?_
 refine tk (i:=9) (oi:=⟨some 14,.load 37 (.tmp 13),37, "count.go:90",#[⟨8,.data⟩],none⟩) (v:=.slice a2 l2 c2) hH ?_ ?_
 ·intro w' hSw
  have s:w'.cell? ⟨w.heap.size,2,none⟩=some (.slice a2 l2 c2):=(cellB (HB.out _ hSw) 2).trans (by rw [List.getElem?_toArray]; exact HC2.out)
  go_simp
  try with_reducible rfl
 refine tq (i:=10) (oi:=⟨some 15,.move (.tmp 1),3, "count.go:90",#[],none⟩) (v:=.int .i64 6000) hH ?_
 refine tq (i:=13) (oi:=⟨some 18,.fieldAddr 152 (.tmp 2) 3,0, "count.go:90",#[],none⟩) (v:=.pointer (some ⟨w.heap.size,3,none⟩)) hH ?_
 refine tk (i:=14) (oi:=⟨some 19,.load 37 (.tmp 18),37, "count.go:90",#[⟨13,.data⟩],none⟩) (v:=.slice a3 l3 c3) hH ?_ ?_
 ·intro w' hSw
  have s:w'.cell? ⟨w.heap.size,3,none⟩=some (.slice a3 l3 c3):=(cellB (HB.out _ hSw) 3).trans (by rw [List.getElem?_toArray]; exact HC3.out)
  go_simp
  try with_reducible rfl
 refine tq (i:=15) (oi:=⟨some 20,.move (.tmp 1),3, "count.go:90",#[],none⟩) (v:=.int .i64 6000) hH ?_
 refine tq (i:=18) (oi:=⟨some 23,.fieldAddr 152 (.tmp 2) 7,0, "count.go:90",#[],none⟩) (v:=.pointer (some ⟨w.heap.size,7,none⟩)) hH ?_
 refine tk (i:=19) (oi:=⟨some 24,.load 63 (.tmp 23),63, "count.go:90",#[⟨18,.data⟩],none⟩) (v:=.slice a7 l7 c7) hH ?_ ?_
 ·intro w' hSw
  have s:w'.cell? ⟨w.heap.size,7,none⟩=some (.slice a7 l7 c7):=(cellB (HB.out _ hSw) 7).trans (by rw [List.getElem?_toArray]; exact HC7.out)
  go_simp
  try with_reducible rfl
 refine tq (i:=20) (oi:=⟨some 25,.move (.tmp 1),3, "count.go:90",#[],none⟩) (v:=.int .i64 6000) hH ?_
 refine tr (rs:=[11]) ?_
 refine AllReadyH.cons (o:=⟨some 16,.call {callee:=.value (.func 6),args:=#[.tmp 14,.tmp 15],argTypes:=#[37,3]},3, "count.go:90",#[⟨9,.data⟩,⟨10,.data⟩],none⟩) rfl (fun K hK=>?_) AllReadyH.nil
 go_simp
 refine (outputsOf_calls w0 _ HR2.out _ (HM0.out.tr ((Mod.refl _ w1).drew))).mono ?_
 rintro e v1 ⟨n1,rfl,n1lo,n1hi,n1R,hm⟩
 have HM1:=hh (((Mod.refl _ w1).drew).tr hm)
 clear n1R
 clear hm
 refine hK.out _ _ HM1.out (fun hH=>?_)
 clear hK K
 (try simp only [Act.put,ja,jb,jc])
 refine tk (i:=12) (oi:=⟨some 17,.binOp .add 3 (.tmp 12) (.tmp 16) 3,3, "count.go:90",#[⟨7,.data⟩,⟨11,.data⟩],none⟩) (v:=.int .i64 (((1+l0)+l1)+n1)) hH ?_ ?_
 ·intro w' hSw
  go_simp
  first|exact wrap_i64 (by omega) (by omega)|with_reducible rfl
 refine tr (rs:=[16]) ?_
 refine AllReadyH.cons (o:=⟨some 21,.call {callee:=.value (.func 6),args:=#[.tmp 19,.tmp 20],argTypes:=#[37,3]},3, "count.go:90",#[⟨14,.data⟩,⟨15,.data⟩,⟨11,.chain⟩],none⟩) rfl (fun K hK=>?_) AllReadyH.nil
 go_simp
 refine (outputsOf_calls w0 _ HR3.out _ (HM0.out.tr HM1.out)).mono ?_
 rintro e v2 ⟨n2,rfl,n2lo,n2hi,n2R,hm⟩
 have HM2:=hh (HM1.out.tr hm)
 clear n2R
 clear hm
 refine hK.out _ _ HM2.out (fun hH=>?_)
 clear hK K
 (try simp only [Act.put,ja,jb,jc])
 refine tk (i:=17) (oi:=⟨some 22,.binOp .add 3 (.tmp 17) (.tmp 21) 3,3, "count.go:90",#[⟨12,.data⟩,⟨16,.data⟩],none⟩) (v:=.int .i64 ((((1+l0)+l1)+n1)+n2)) hH ?_ ?_
 ·intro w' hSw
  go_simp
  first|exact wrap_i64 (by omega) (by omega)|with_reducible rfl
 refine tr (rs:=[21]) ?_
 refine AllReadyH.cons (o:=⟨some 26,.call {callee:=.value (.func 103),args:=#[.tmp 24,.tmp 25],argTypes:=#[63,3]},3, "count.go:90",#[⟨19,.data⟩,⟨20,.data⟩,⟨16,.chain⟩],none⟩) rfl (fun K hK=>?_) AllReadyH.nil
 go_simp
 refine (assetsOf_calls w0 _ HR7.out _ (HM0.out.tr HM2.out)).mono ?_
 rintro e v3 ⟨n3,rfl,n3lo,n3hi,n3R,hm⟩
 have HM3:=hh (HM2.out.tr hm)
 clear n3R
 clear hm
 refine hK.out _ _ HM3.out (fun hH=>?_)
 clear hK K
 (try simp only [Act.put,ja,jb,jc])
 refine tk (i:=22) (oi:=⟨some 27,.binOp .add 3 (.tmp 22) (.tmp 26) 3,3, "count.go:90",#[⟨17,.data⟩,⟨21,.data⟩],none⟩) (v:=.int .i64 (((((1+l0)+l1)+n1)+n2)+n3)) hH ?_ ?_
 ·intro w' hSw
  go_simp
  first|exact wrap_i64 (by omega) (by omega)|with_reducible rfl
 refine tq (i:=23) (oi:=⟨some 4,.assign (.tmp 27),3, "count.go:90",#[⟨22,.data⟩,⟨21,.chain⟩,⟨0,.phase⟩,⟨1,.phase⟩,⟨2,.phase⟩,⟨3,.phase⟩,⟨4,.phase⟩,⟨5,.phase⟩,⟨6,.phase⟩,⟨7,.phase⟩,⟨8,.phase⟩,⟨9,.phase⟩,⟨10,.phase⟩,⟨11,.phase⟩,⟨12,.phase⟩,⟨13,.phase⟩,⟨14,.phase⟩,⟨15,.phase⟩,⟨16,.phase⟩,⟨17,.phase⟩,⟨18,.phase⟩,⟨19,.phase⟩,⟨20,.phase⟩,⟨21,.phase⟩,⟨22,.phase⟩],none⟩) (v:=.int .i64 (((((1+l0)+l1)+n1)+n2)+n3)) hH ?_
 refine wpAnyH_done (by kernel_rfl) ?_ _
 go_wp2_with fail
 go_ret
 exact ⟨_,rfl,by omega,by omega,trivial,HM.out.tr HM3.out⟩
set_option maxRecDepth 100000 in
theorem diffOf_calls (w0:World) (cs:List Value) (h:Rd w0 143 cs) (w:World) (hm:Mod N0 w0 w):Calls Tryz.prog 102 #[.agg cs.toArray,.int .i64 6000] w fun e w'=>Cnt w 300000000000000 (fun _=>True) e w':=by
 have hl:=h.len Tryz.underlying143
 rw [cc106] at hl
 obtain ⟨v0,hv0,hr0⟩:=h.cellAt Tryz.underlying143 0 rfl 28 0 rfl rfl cc28 cc106 (by omega)
 obtain ⟨a0,l0,c0,rfl,hb0,_,hel0⟩:=id (hr0.slice Tryz.underlying28 cc51 (by omega))
 have hl0:=len_of_bytes hb0 bb51
 have HR0:=hh hr0
 have HC0:=hh hv0
 have HE0:=hh hel0
 clear hv0 hr0 hb0 hel0
 obtain ⟨v1,hv1,hr1⟩:=h.cellAt Tryz.underlying143 1 rfl 28 1 rfl rfl cc28 cc106 (by omega)
 obtain ⟨a1,l1,c1,rfl,hb1,_,hel1⟩:=id (hr1.slice Tryz.underlying28 cc51 (by omega))
 have hl1:=len_of_bytes hb1 bb51
 have HR1:=hh hr1
 have HC1:=hh hv1
 have HE1:=hh hel1
 clear hv1 hr1 hb1 hel1
 obtain ⟨v4,hv4,hr4⟩:=h.cellAt Tryz.underlying143 4 rfl 33 4 rfl rfl cc33 cc106 (by omega)
 obtain ⟨a4,l4,c4,rfl,hb4,_,hel4⟩:=id (hr4.slice Tryz.underlying33 cc88 (by omega))
 have hl4:=len_of_bytes hb4 bb88
 have HR4:=hh hr4
 have HC4:=hh hv4
 have HE4:=hh hel4
 clear hv4 hr4 hb4 hel4
 obtain ⟨w1,hw1⟩:∃ w1,w.alloc (.cells cs.toArray 143)=w1:=⟨_,rfl⟩
 have hb:w1.heap[w.heap.size]?=some (.cells cs.toArray 143 (0,0)):=by rw [← hw1]; exact newB w _
 have hm1:Mod N0 w w1:=by rw [← hw1]; exact (Mod.refl _ w).alloc _
 have HB:=hh (fun (W:World) (hW:Mod N0 w1 W)=>(hW.block _ (ltB hb) (fun q=>q)).trans hb)
 have HM:=hh hm1
 have HM0:=hh (hm.tr hm1)
 have HL:=hh hl
 clear hb h hm1 hm hl
 go_enter Tryz.func102,Tryz.ntmps102
 go_upto_region 1 with fail
 refine wp_region_held_drew (S:=fun W=>Mod N0 w1 W) (by kernel_rfl) ((Mod.refl _ w1).drew) (fun hH=>?_)
 refine tq (i:=0) (oi:=⟨some 5,.fieldAddr 143 (.tmp 2) 0,0, "count.go:124",#[],none⟩) (v:=.pointer (some ⟨w.heap.size,0,none⟩)) hH ?_
 refine tk (i:=1) (oi:=⟨some 6,.load 28 (.tmp 5),28, "count.go:124",#[⟨0,.data⟩],none⟩) (v:=.slice a0 l0 c0) hH ?_ ?_
 ·intro w' hSw
  have s:w'.cell? ⟨w.heap.size,0,none⟩=some (.slice a0 l0 c0):=(cellB (HB.out _ hSw) 0).trans (by rw [List.getElem?_toArray]; exact HC0.out)
  go_simp
  try with_reducible rfl
 refine tq (i:=2) (oi:=⟨some 7,.move (.tmp 1),3, "count.go:124",#[],none⟩) (v:=.int .i64 6000) hH ?_
 refine tq (i:=5) (oi:=⟨some 10,.fieldAddr 143 (.tmp 2) 1,0, "count.go:124",#[],none⟩) (v:=.pointer (some ⟨w.heap.size,1,none⟩)) hH ?_
 refine tk (i:=6) (oi:=⟨some 11,.load 28 (.tmp 10),28, "count.go:124",#[⟨5,.data⟩],none⟩) (v:=.slice a1 l1 c1) hH ?_ ?_
 ·intro w' hSw
  have s:w'.cell? ⟨w.heap.size,1,none⟩=some (.slice a1 l1 c1):=(cellB (HB.out _ hSw) 1).trans (by rw [List.getElem?_toArray]; exact HC1.out)
  go_simp
  try with_reducible rfl
 refine tq (i:=7) (oi:=⟨some 12,.move (.tmp 1),3, "count.go:124",#[],none⟩) (v:=.int .i64 6000) hH ?_
 refine tq (i:=10) (oi:=⟨some 15,.fieldAddr 143 (.tmp 2) 4,0, "count.go:124",#[],none⟩) (v:=.pointer (some ⟨w.heap.size,4,none⟩)) hH ?_
 refine tk (i:=11) (oi:=⟨some 16,.load 33 (.tmp 15),33, "count.go:124",#[⟨10,.data⟩],none⟩) (v:=.slice a4 l4 c4) hH ?_ ?_
 ·intro w' hSw
  have s:w'.cell? ⟨w.heap.size,4,none⟩=some (.slice a4 l4 c4):=(cellB (HB.out _ hSw) 4).trans (by rw [List.getElem?_toArray]; exact HC4.out)
  go_simp
  try with_reducible rfl
 refine tq (i:=12) (oi:=⟨some 17,.call {callee:=.builtin .len,args:=#[.tmp 16],argTypes:=#[33]},3, "count.go:124",#[⟨11,.data⟩],none⟩) (v:=.int .i64 l4) hH ?_
 refine tr (rs:=[3]) ?_
 refine AllReadyH.cons (o:=⟨some 8,.call {callee:=.value (.func 47),args:=#[.tmp 6,.tmp 7],argTypes:=#[28,3]},3, "count.go:124",#[⟨1,.data⟩,⟨2,.data⟩],none⟩) rfl (fun K hK=>?_) AllReadyH.nil
 go_simp
 refine (entriesOf_calls w0 _ HR0.out _ (HM0.out.tr ((Mod.refl _ w1).drew))).mono ?_
 rintro e v1 ⟨n1,rfl,n1lo,n1hi,n1R,hm⟩
 have HM1:=hh (((Mod.refl _ w1).drew).tr hm)
 clear n1R
 clear hm
 refine hK.out _ _ HM1.out (fun hH=>?_)
 clear hK K
 (try simp only [Act.put,ja,jb,jc])
 refine tk (i:=4) (oi:=⟨some 9,.binOp .add 3 (.const (.int .i64 1)) (.tmp 8) 3,3, "count.go:124",#[⟨3,.data⟩],none⟩) (v:=.int .i64 (1+n1)) hH ?_ ?_
 ·intro w' hSw
  go_simp
  first|exact wrap_i64 (by omega) (by omega)|with_reducible rfl
 refine tr (rs:=[8]) ?_
 refine AllReadyH.cons (o:=⟨some 13,.call {callee:=.value (.func 47),args:=#[.tmp 11,.tmp 12],argTypes:=#[28,3]},3, "count.go:124",#[⟨6,.data⟩,⟨7,.data⟩,⟨3,.chain⟩],none⟩) rfl (fun K hK=>?_) AllReadyH.nil
 go_simp
 refine (entriesOf_calls w0 _ HR1.out _ (HM0.out.tr HM1.out)).mono ?_
 rintro e v2 ⟨n2,rfl,n2lo,n2hi,n2R,hm⟩
 have HM2:=hh (HM1.out.tr hm)
 clear n2R
 clear hm
 refine hK.out _ _ HM2.out (fun hH=>?_)
 clear hK K
 (try simp only [Act.put,ja,jb,jc])
 refine tk (i:=9) (oi:=⟨some 14,.binOp .add 3 (.tmp 9) (.tmp 13) 3,3, "count.go:124",#[⟨4,.data⟩,⟨8,.data⟩],none⟩) (v:=.int .i64 ((1+n1)+n2)) hH ?_ ?_
 ·intro w' hSw
  go_simp
  first|exact wrap_i64 (by omega) (by omega)|with_reducible rfl
 refine tk (i:=13) (oi:=⟨some 18,.binOp .add 3 (.tmp 14) (.tmp 17) 3,3, "count.go:124",#[⟨9,.data⟩,⟨12,.data⟩],none⟩) (v:=.int .i64 (((1+n1)+n2)+l4)) hH ?_ ?_
 ·intro w' hSw
  go_simp
  first|exact wrap_i64 (by omega) (by omega)|with_reducible rfl
 refine tq (i:=14) (oi:=⟨some 4,.assign (.tmp 18),3, "count.go:124",#[⟨13,.data⟩,⟨8,.chain⟩,⟨0,.phase⟩,⟨1,.phase⟩,⟨2,.phase⟩,⟨3,.phase⟩,⟨4,.phase⟩,⟨5,.phase⟩,⟨6,.phase⟩,⟨7,.phase⟩,⟨8,.phase⟩,⟨9,.phase⟩,⟨10,.phase⟩,⟨11,.phase⟩,⟨12,.phase⟩,⟨13,.phase⟩],none⟩) (v:=.int .i64 (((1+n1)+n2)+l4)) hH ?_
 refine wpAnyH_done (by kernel_rfl) ?_ _
 go_wp2_with fail
 go_ret
 exact ⟨_,rfl,by omega,by omega,trivial,HM.out.tr HM2.out⟩
end Go.Proofs.YtckcamlicgdklaaGreat
