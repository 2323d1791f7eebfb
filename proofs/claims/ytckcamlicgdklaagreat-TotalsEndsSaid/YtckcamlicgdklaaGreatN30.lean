/- ValueOf, OutputOf: counts. OutputsOf, TermsOf, ProgramOf, ProgramsOf: counts. -/
import Derived.Test.YtckcamlicgdklaaGreatN04
namespace Go.Proofs.YtckcamlicgdklaaGreat
open Go.RowKit Go.Mo
theorem valueOf_calls (w0:World) (cs:List Value) (h:Rd w0 65 cs) (w:World) (hm:Mod N0 w0 w):Calls Tryz.prog 50 #[.agg cs.toArray,.int .i64 6000] w fun e w'=>Cnt w 20000000000000 (fun n=>n<=6000->∀ (a:Option Addr) (len c:Nat),cs[1]?=some (.slice a len c)->len<=n) e w':=by
 obtain ⟨v,hv,hr⟩:=h.cellAt Tryz.underlying65 1 rfl 63 1 rfl rfl cc41 cc43 (by omega)
 obtain ⟨w1,hw1⟩:∃ w1,w.alloc (.cells cs.toArray 65)=w1:=⟨_,rfl⟩
 have hb:w1.heap[w.heap.size]?=some (.cells cs.toArray 65 (0,0)):=by rw [← hw1]; exact newB w _
 have hm1:Mod N0 w w1:=by rw [← hw1]; exact (Mod.refl _ w).alloc _
 have s1:w1.cell? ⟨w.heap.size,1,none⟩=some v:=by rw [cellB hb,List.getElem?_toArray]; exact hv
 have HC:=hh (assetsOf_calls w0 v hr w1 (hm.tr hm1))
 have HM:=hh hm1
 have HV:=hh hv
 obtain ⟨a,len,cap,rfl,_⟩:=hr.slice Tryz.underlying63 Tryz.c97 (by omega)
 clear hb hm1 hm h hv
 go_enter Tryz.func50,Tryz.ntmps50
 go_wp2_with fail
 refine HC.out.mono ?_
 rintro e w2 ⟨n,rfl,h0,h1,hR,hm2⟩
 have HM2:=hh (HM.out.tr hm2)
 have HR:=hh hR
 clear hm2 hR
 go_wp2_with fail
 go_ret
 refine ⟨1+n,rfl,by omega,by omega,fun q a' l' c' e=>?_,HM2.out⟩
 rw [HV.out] at e
 have:=HR.out (by omega) a' l' c' (by simpa using e)
 omega
set_option maxRecDepth 100000 in
theorem outputOf_calls (w0:World) (cs:List Value) (h:Rd w0 71 cs) (w:World) (hm:Mod N0 w0 w):Calls Tryz.prog 24 #[.agg cs.toArray,.int .i64 6000] w fun e w'=>Cnt w 40000000000000 (fun n=>n<=6000->∀ (a:Option Addr) (len c:Nat),cs[34]?=some (.slice a len c)->len<=n) e w':=by
 have hl:=h.len Tryz.underlying71
 rw [cc49] at hl
 have hr1:=h.fieldAt Tryz.underlying71 1 rfl 65 33 2 rfl rfl cc43
 have hr4:=h.fieldAt Tryz.underlying71 4 rfl 69 68 1 rfl rfl cc47
 obtain ⟨w1,hw1⟩:∃ w1,w.alloc (.cells cs.toArray 71)=w1:=⟨_,rfl⟩
 have hb:w1.heap[w.heap.size]?=some (.cells cs.toArray 71 (0,0)):=by rw [← hw1]; exact newB w _
 have hm1:Mod N0 w w1:=by rw [← hw1]; exact (Mod.refl _ w).alloc _
 have HB:=hh (fun (W:World) (hW:Mod N0 w1 W)=>(hW.block _ (ltB hb) (fun q=>q)).trans hb)
 have HL:=hh hl
 have HM:=hh hm1
 have HM0:=hh (hm.tr hm1)
 have HR1:=hh hr1
 have HR4:=hh hr4
 clear hb hm1 hm h hr1 hr4 hl
 go_enter Tryz.func24,Tryz.ntmps24
 go_upto_region 1 with fail
 refine wp_region_held_drew (S:=fun W=>Mod N0 w1 W) (by kernel_rfl) ((Mod.refl _ w1).drew) (fun hH=>?_)
 refine tq (i:=0) (oi:=⟨some 5,.fieldAddr 71 (.tmp 2) 1,0, "count.go:53",#[],none⟩) (v:=.pointer (some ⟨w.heap.size,33,none⟩)) hH ?_
 refine tk (i:=1) (oi:=⟨some 6,.load 65 (.tmp 5),65, "count.go:53",#[⟨0,.data⟩],none⟩) (v:=.agg ((cs.drop 33).take 2).toArray) hH (fun w' hSw=>by exact exec_load_pt _ _ 65 _ rfl ⟨w.heap.size,33,none⟩ rfl (load_box (HB.out _ hSw) 65 33 2 _ Tryz.underlying65 rfl ss43 (by rw [HL.out]; omega))) ?_
 refine tq (i:=2) (oi:=⟨some 7,.move (.tmp 1),3, "count.go:53",#[],none⟩) (v:=.int .i64 6000) hH ?_
 refine tq (i:=4) (oi:=⟨some 9,.fieldAddr 71 (.tmp 2) 4,0, "count.go:53",#[],none⟩) (v:=.pointer (some ⟨w.heap.size,68,none⟩)) hH ?_
 refine tk (i:=5) (oi:=⟨some 10,.load 69 (.tmp 9),69, "count.go:53",#[⟨4,.data⟩],none⟩) (v:=.agg ((cs.drop 68).take 1).toArray) hH (fun w' hSw=>by exact exec_load_pt _ _ 69 _ rfl ⟨w.heap.size,68,none⟩ rfl (load_box (HB.out _ hSw) 69 68 1 _ Tryz.underlying69 rfl ss47 (by rw [HL.out]; omega))) ?_
 refine tq (i:=6) (oi:=⟨some 11,.move (.tmp 1),3, "count.go:53",#[],none⟩) (v:=.int .i64 6000) hH ?_
 refine tr (rs:=[3]) ?_
 refine AllReadyH.cons (o:=⟨some 8,.call {callee:=.value (.func 50),args:=#[.tmp 6,.tmp 7],argTypes:=#[65,3]},3, "count.go:53",#[⟨1,.data⟩,⟨2,.data⟩],none⟩) rfl (fun K hK=>?_) AllReadyH.nil
 go_simp
 refine (valueOf_calls w0 _ HR1.out _ (HM0.out.tr ((Mod.refl _ w1).drew))).mono ?_
 rintro e v1 ⟨n1,rfl,n1lo,n1hi,n1R,hm⟩
 have HM1:=hh (((Mod.refl _ w1).drew).tr hm)
 have HQ1:=hh n1R; clear n1R
 clear hm
 refine hK.out _ _ HM1.out (fun hH=>?_)
 clear hK K
 (try simp only [Act.put,ja,jb,jc])
 refine tr (rs:=[7]) ?_
 refine AllReadyH.cons (o:=⟨some 12,.call {callee:=.value (.func 51),args:=#[.tmp 10,.tmp 11],argTypes:=#[69,3]},3, "count.go:53",#[⟨5,.data⟩,⟨6,.data⟩,⟨3,.chain⟩],none⟩) rfl (fun K hK=>?_) AllReadyH.nil
 go_simp
 refine (termOf_calls w0 _ HR4.out _ (HM0.out.tr HM1.out)).mono ?_
 rintro e v2 ⟨n2,rfl,n2lo,n2hi,n2R,hm⟩
 have HM2:=hh (HM1.out.tr hm)
 clear n2R
 clear hm
 refine hK.out _ _ HM2.out (fun hH=>?_)
 clear hK K
 (try simp only [Act.put,ja,jb,jc])
 refine tk (i:=8) (oi:=⟨some 13,.binOp .add 3 (.tmp 8) (.tmp 12) 3,3, "count.go:53",#[⟨3,.data⟩,⟨7,.data⟩],none⟩) (v:=.int .i64 (n1+n2)) hH ?_ ?_
 ·intro w' hSw
  go_simp
  first|exact wrap_i64 (by omega) (by omega)|with_reducible rfl
 refine tq (i:=9) (oi:=⟨some 4,.assign (.tmp 13),3, "count.go:53",#[⟨8,.data⟩,⟨7,.chain⟩,⟨0,.phase⟩,⟨1,.phase⟩,⟨2,.phase⟩,⟨3,.phase⟩,⟨4,.phase⟩,⟨5,.phase⟩,⟨6,.phase⟩,⟨7,.phase⟩,⟨8,.phase⟩],none⟩) (v:=.int .i64 (n1+n2)) hH ?_
 refine wpAnyH_done (by kernel_rfl) ?_ _
 go_wp2_with fail
 go_ret
 refine ⟨n1+n2,rfl,by omega,by omega,fun q a' l' c' e=>?_,HM.out.tr HM2.out⟩
 have:=HQ1.out (by omega) a' l' c' (by rw [List.getElem?_take,if_pos (by omega),List.getElem?_drop]; exact e)
 omega
end Go.Proofs.YtckcamlicgdklaaGreat
namespace Go.Proofs.YtckcamlicgdklaaGreat
open Go.RowKit Go.Mo
set_option maxRecDepth 100000 in
theorem outputsOf_calls (w0:World) (v:Value) (h:Rd w0 37 [v]) (w:World) (hm:Mod N0 w0 w):Calls Tryz.prog 6 #[v,.int .i64 6000] w fun e w'=>Cnt w 50000000000000 (fun _=>True) e w':=by
 obtain ⟨a,len,cap,rfl,hb,_,hel⟩:=h.slice Tryz.underlying37 cc49 (by omega)
 have hlen:=len_of_bytes hb bb49
 have HE:=hh hel
 have HM:=hh hm
 clear hel hm hb h
 go_enter Tryz.func6,Tryz.ntmps6
 go_wp2_with fail
 go_loopw [5,6] (fun n i wr=>∃ (k:Nat) (z:Int),k<=len/\i=.int .i64 k/\n=.int .i64 z/\0<=z/\z<=50000000000000/\Mod N0 w wr) (fun _ i _=>len - (intOf i).toNat)
 case atStart=>exact ⟨0,_,by omega,rfl,rfl,by omega,by omega,Mod.refl _ w⟩
 case round=>
  obtain ⟨k,z,hk,rfl,rfl,hz0,hz1,hmr⟩:=hrel
  by_cases hlt:k<len
  ·by_cases hz:z<=6000
   ·obtain ⟨L,off,ds,rfl,hL,hcl,hrd,hcs⟩:=HE.out k hlt
    have hld:=load_mid (p:=off+k * 69) (fun j u hu=>(hmr.cell (p:=⟨L,_,none⟩) (Nat.lt_of_lt_of_le hL HM.out.size) (fun q=>q)).trans ((HM.out.cell (p:=⟨L,_,none⟩) hL (fun q=>q)).trans (hcs j u hu))) 71 0 69 _ Tryz.underlying71 rfl ss49 (by omega)
    have hcc:=outputOf_calls w0 ds hrd wr (HM.out.tr hmr)
    rw [Nat.add_zero] at hld
    rw [List.drop_zero,List.take_of_length_le (by omega)] at hld
    have HLD:=hh hld
    have HCC:=hh hcc
    have hMR:=hh hmr
    clear hmr hcs hrd hld hcc
    go_wp2_with (refine wpList_exec rfl (exec_load_pt _ _ 71 _ rfl ⟨L,off+k * 69,none⟩ rfl HLD.out) ?_)
    refine HCC.out.mono ?_
    rintro e w9 ⟨m,rfl,hm0,hm1,hmR,hmw⟩
    have hM9:=hh (hMR.out.tr hmw)
    clear hmw hmR
    go_wp2_with fail
    go_roundw
    case rel=>exact ⟨k+1,z+m,by omega,rfl,rfl,by omega,by omega,hM9.out⟩
    case measure=>simp [intOf]; omega
   ·have hMR:=hh hmr
    clear hmr
    go_wp2_with fail
    go_ret
    exact ⟨z,rfl,by omega,by omega,trivial,hMR.out⟩
  ·have e:k=len:=by omega
   subst e
   have hMR:=hh hmr
   clear hmr
   go_wp2_with fail
   go_ret
   exact ⟨z,rfl,by omega,by omega,trivial,hMR.out⟩
set_option maxRecDepth 100000 in
theorem termsOf_calls (w0:World) (v:Value) (h:Rd w0 155 [v]) (w:World) (hm:Mod N0 w0 w):Calls Tryz.prog 161 #[v,.int .i64 6000] w fun e w'=>Cnt w 20000000000000 (fun _=>True) e w':=by
 obtain ⟨a,len,cap,rfl,hb,_,hel⟩:=h.slice Tryz.underlying155 cc47 (by omega)
 have hlen:=len_of_bytes hb bb47
 have HE:=hh hel
 have HM:=hh hm
 clear hel hm hb h
 go_enter Tryz.func161,Tryz.ntmps161
 go_wp2_with fail
 go_loopw [5,6] (fun n i wr=>∃ (k:Nat) (z:Int),k<=len/\i=.int .i64 k/\n=.int .i64 z/\0<=z/\z<=20000000000000/\Mod N0 w wr) (fun _ i _=>len - (intOf i).toNat)
 case atStart=>exact ⟨0,_,by omega,rfl,rfl,by omega,by omega,Mod.refl _ w⟩
 case round=>
  obtain ⟨k,z,hk,rfl,rfl,hz0,hz1,hmr⟩:=hrel
  by_cases hlt:k<len
  ·by_cases hz:z<=6000
   ·obtain ⟨L,off,ds,rfl,hL,hcl,hrd,hcs⟩:=HE.out k hlt
    have hld:=load_mid (p:=off+k * 1) (fun j u hu=>(hmr.cell (p:=⟨L,_,none⟩) (Nat.lt_of_lt_of_le hL HM.out.size) (fun q=>q)).trans ((HM.out.cell (p:=⟨L,_,none⟩) hL (fun q=>q)).trans (hcs j u hu))) 69 0 1 _ Tryz.underlying69 rfl ss47 (by omega)
    have hcc:=termOf_calls w0 ds hrd wr (HM.out.tr hmr)
    rw [Nat.add_zero] at hld
    rw [List.drop_zero,List.take_of_length_le (by omega)] at hld
    simp only [Nat.mul_one] at hld
    have HLD:=hh hld
    have HCC:=hh hcc
    have hMR:=hh hmr
    clear hmr hcs hrd hld hcc
    go_wp2_with (refine wpList_exec rfl (exec_load_pt _ _ 69 _ rfl ⟨L,off+k,none⟩ rfl HLD.out) ?_)
    refine HCC.out.mono ?_
    rintro e w9 ⟨m,rfl,hm0,hm1,hmR,hmw⟩
    have hM9:=hh (hMR.out.tr hmw)
    clear hmw hmR
    go_wp2_with fail
    go_roundw
    case rel=>exact ⟨k+1,z+1+m,by omega,rfl,rfl,by omega,by omega,hM9.out⟩
    case measure=>simp [intOf]; omega
   ·have hMR:=hh hmr
    clear hmr
    go_wp2_with fail
    go_ret
    exact ⟨z,rfl,by omega,by omega,trivial,hMR.out⟩
  ·have e:k=len:=by omega
   subst e
   have hMR:=hh hmr
   clear hmr
   go_wp2_with fail
   go_ret
   exact ⟨z,rfl,by omega,by omega,trivial,hMR.out⟩
set_option maxRecDepth 100000 in
theorem programOf_calls (w0:World) (cs:List Value) (h:Rd w0 264 cs) (w:World) (hm:Mod N0 w0 w):Calls Tryz.prog 176 #[.agg cs.toArray,.int .i64 6000] w fun e w'=>Cnt w 20000000000000 (fun _=>True) e w':=by
 obtain ⟨v,hv,hr⟩:=h.cellAt Tryz.underlying264 1 rfl 257 1 rfl rfl cc159 cc161 (by omega)
 obtain ⟨a,len,cap,rfl,hbl,_,hel⟩:=hr.slice Tryz.underlying257 cc170 (by omega)
 have hlen:=len_of_bytes hbl bb170
 obtain ⟨w1,hw1⟩:∃ w1,w.alloc (.cells cs.toArray 264)=w1:=⟨_,rfl⟩
 have hb:w1.heap[w.heap.size]?=some (.cells cs.toArray 264 (0,0)):=by rw [← hw1]; exact newB w _
 have hm1:Mod N0 w w1:=by rw [← hw1]; exact (Mod.refl _ w).alloc _
 have HB:=hh (fun (W:World) (hW:Mod N0 w1 W)=>(hW.block _ (ltB hb) (fun q=>q)).trans hb)
 have HM:=hh hm1
 have HM0:=hh (hm.tr hm1)
 have HS:=hh (fun (W:World) (hW:Mod N0 w1 W)=>(show W.cell? ⟨w.heap.size,1,none⟩=some (.slice a len cap) from (cellB (HB.out _ hW) 1).trans (by rw [List.getElem?_toArray]; exact hv)))
 have HE:=hh hel
 clear hel hm hb h hm1 hr hv hbl
 go_enter Tryz.func176,Tryz.ntmps176
 go_wp2_with fail
 go_loopw [5,6] (fun n i wr=>∃ (k:Nat) (z:Int),k<=len/\i=.int .i64 k/\n=.int .i64 z/\0<=z/\z<=20000000000000/\Mod N0 w1 wr) (fun _ i _=>len - (intOf i).toNat)
 case atStart=>exact ⟨0,_,by omega,rfl,rfl,by omega,by omega,Mod.refl _ w1⟩
 case round=>
  obtain ⟨k,z,hk,rfl,rfl,hz0,hz1,hmr⟩:=hrel
  have s0:=HS.out _ hmr
  by_cases hlt:k<len
  ·by_cases hz:z<=6000
   ·obtain ⟨L,off,ds,rfl,hL,hcl,hrd,hcs⟩:=HE.out k hlt
    have hld:=load_mid (p:=off+k * 4) (fun j u hu=>(hmr.cell (p:=⟨L,_,none⟩) (Nat.lt_of_lt_of_le hL HM0.out.size) (fun q=>q)).trans ((HM0.out.cell (p:=⟨L,_,none⟩) hL (fun q=>q)).trans (hcs j u hu))) 69 3 1 _ Tryz.underlying69 rfl ss47 (by omega)
    have hcc:=termOf_calls w0 _ (hrd.fieldAt Tryz.underlying260 3 rfl 69 3 1 rfl rfl cc47) wr (HM0.out.tr hmr)
    have HLD:=hh hld
    have HCC:=hh hcc
    have hMR:=hh hmr
    clear hmr hcs hrd hld hcc
    go_wp2_with (refine wpList_exec rfl (exec_load_pt _ _ 69 _ rfl ⟨L,off+k * 4+3,none⟩ rfl HLD.out) ?_)
    refine HCC.out.mono ?_
    rintro e w9 ⟨m,rfl,hm0,hm1,hmR,hmw⟩
    have hM9:=hh (hMR.out.tr hmw)
    clear hmw hmR
    go_wp2_with fail
    go_roundw
    case rel=>exact ⟨k+1,z+1+m,by omega,rfl,rfl,by omega,by omega,hM9.out⟩
    case measure=>simp [intOf]; omega
   ·have hMR:=hh hmr
    clear hmr
    go_wp2_with fail
    go_ret
    exact ⟨z,rfl,by omega,by omega,trivial,HM.out.tr hMR.out⟩
  ·have e:k=len:=by omega
   subst e
   have hMR:=hh hmr
   clear hmr
   go_wp2_with fail
   go_ret
   exact ⟨z,rfl,by omega,by omega,trivial,HM.out.tr hMR.out⟩
set_option maxRecDepth 100000 in
theorem programsOf_calls (w0:World) (v:Value) (h:Rd w0 154 [v]) (w:World) (hm:Mod N0 w0 w):Calls Tryz.prog 160 #[v,.int .i64 6000] w fun e w'=>Cnt w 30000000000000 (fun _=>True) e w':=by
 obtain ⟨a,len,cap,rfl,hb,_,hel⟩:=h.slice Tryz.underlying154 cc161 (by omega)
 have hlen:=len_of_bytes hb bb161
 have HE:=hh hel
 have HM:=hh hm
 clear hel hm hb h
 go_enter Tryz.func160,Tryz.ntmps160
 go_wp2_with fail
 go_loopw [5,6] (fun n i wr=>∃ (k:Nat) (z:Int),k<=len/\i=.int .i64 k/\n=.int .i64 z/\0<=z/\z<=30000000000000/\Mod N0 w wr) (fun _ i _=>len - (intOf i).toNat)
 case atStart=>exact ⟨0,_,by omega,rfl,rfl,by omega,by omega,Mod.refl _ w⟩
 case round=>
  obtain ⟨k,z,hk,rfl,rfl,hz0,hz1,hmr⟩:=hrel
  by_cases hlt:k<len
  ·by_cases hz:z<=6000
   ·obtain ⟨L,off,ds,rfl,hL,hcl,hrd,hcs⟩:=HE.out k hlt
    have hld:=load_mid (p:=off+k * 2) (fun j u hu=>(hmr.cell (p:=⟨L,_,none⟩) (Nat.lt_of_lt_of_le hL HM.out.size) (fun q=>q)).trans ((HM.out.cell (p:=⟨L,_,none⟩) hL (fun q=>q)).trans (hcs j u hu))) 264 0 2 _ Tryz.underlying264 rfl ss161 (by omega)
    have hcc:=programOf_calls w0 ds hrd wr (HM.out.tr hmr)
    rw [Nat.add_zero] at hld
    rw [List.drop_zero,List.take_of_length_le (by omega)] at hld
    have HLD:=hh hld
    have HCC:=hh hcc
    have hMR:=hh hmr
    clear hmr hcs hrd hld hcc
    go_wp2_with (refine wpList_exec rfl (exec_load_pt _ _ 264 _ rfl ⟨L,off+k * 2,none⟩ rfl HLD.out) ?_)
    refine HCC.out.mono ?_
    rintro e w9 ⟨m,rfl,hm0,hm1,hmR,hmw⟩
    have hM9:=hh (hMR.out.tr hmw)
    clear hmw hmR
    go_wp2_with fail
    go_roundw
    case rel=>exact ⟨k+1,z+m,by omega,rfl,rfl,by omega,by omega,hM9.out⟩
    case measure=>simp [intOf]; omega
   ·have hMR:=hh hmr
    clear hmr
    go_wp2_with fail
    go_ret
    exact ⟨z,rfl,by omega,by omega,trivial,hMR.out⟩
  ·have e:k=len:=by omega
   subst e
   have hMR:=hh hmr
   clear hmr
   go_wp2_with fail
   go_ret
   exact ⟨z,rfl,by omega,by omega,trivial,hMR.out⟩
end Go.Proofs.YtckcamlicgdklaaGreat
