/- TxOf, TxsOf, BlockOf, StoredOf, StateOf, great: counts. -/
import Derived.Test.YtckcamlicgdklaaGreatN31
namespace Go.Proofs.YtckcamlicgdklaaGreat
open Go.RowKit Go.Mo
set_option maxRecDepth 100000 in
set_option maxHeartbeats 1000000 in
theorem txOf_calls (w0:World) (cs:List Value) (h:Rd w0 158 cs) (w:World) (hm:Mod N0 w0 w):Calls Tryz.prog 100 #[.agg cs.toArray,.int .i64 6000] w fun e w'=>Cnt w 600000000000000 (fun _=>True) e w':=by
 have hl:=h.len Tryz.underlying158
 rw [cc127] at hl
 have HR0:=hh (h.fieldAt Tryz.underlying158 0 rfl 152 0 40 rfl rfl cc121)
 obtain ⟨v1,hv1,hr1⟩:=h.cellAt Tryz.underlying158 1 rfl 153 40 rfl rfl cc122 cc127 (by omega)
 obtain ⟨a1,l1,c1,rfl,hb1,_,hel1⟩:=id (hr1.slice Tryz.underlying153 cc141 (by omega))
 have hl1:=len_of_bytes hb1 bb141
 have HR1:=hh hr1
 have HC40:=hh hv1
 have HE1:=hh hel1
 clear hv1 hr1 hb1 hel1
 obtain ⟨v2,hv2,hr2⟩:=h.cellAt Tryz.underlying158 2 rfl 154 41 rfl rfl cc123 cc127 (by omega)
 obtain ⟨a2,l2,c2,rfl,hb2,_,hel2⟩:=id (hr2.slice Tryz.underlying154 cc161 (by omega))
 have hl2:=len_of_bytes hb2 bb161
 have HR2:=hh hr2
 have HC41:=hh hv2
 have HE2:=hh hel2
 clear hv2 hr2 hb2 hel2
 obtain ⟨v3,hv3,hr3⟩:=h.cellAt Tryz.underlying158 3 rfl 155 42 rfl rfl cc124 cc127 (by omega)
 obtain ⟨a3,l3,c3,rfl,hb3,_,hel3⟩:=id (hr3.slice Tryz.underlying155 cc47 (by omega))
 have hl3:=len_of_bytes hb3 bb47
 have HR3:=hh hr3
 have HC42:=hh hv3
 have HE3:=hh hel3
 clear hv3 hr3 hb3 hel3
 obtain ⟨v4,hv4,hr4⟩:=h.cellAt Tryz.underlying158 4 rfl 156 43 rfl rfl cc125 cc127 (by omega)
 obtain ⟨a4,l4,c4,rfl,hb4,_,hel4⟩:=id (hr4.slice Tryz.underlying156 cc144 (by omega))
 have hl4:=len_of_bytes hb4 bb144
 have HR4:=hh hr4
 have HC43:=hh hv4
 have HE4:=hh hel4
 clear hv4 hr4 hb4 hel4
 obtain ⟨w1,hw1⟩:∃ w1,w.alloc (.cells cs.toArray 158)=w1:=⟨_,rfl⟩
 have hb:w1.heap[w.heap.size]?=some (.cells cs.toArray 158 (0,0)):=by rw [← hw1]; exact newB w _
 have hm1:Mod N0 w w1:=by rw [← hw1]; exact (Mod.refl _ w).alloc _
 have HB:=hh (fun (W:World) (hW:Mod N0 w1 W)=>(hW.block _ (ltB hb) (fun q=>q)).trans hb)
 have HM:=hh hm1
 have HM0:=hh (hm.tr hm1)
 have HL:=hh hl
 clear hb h hm1 hm hl
 have HS1:=hh (fun (W:World) (hW:Mod N0 w1 W)=>(show W.cell? ⟨w.heap.size,40,none⟩=some (.slice a1 l1 c1) from (cellB (HB.out _ hW) 40).trans (by rw [List.getElem?_toArray]; exact HC40.out)))
 have HS4:=hh (fun (W:World) (hW:Mod N0 w1 W)=>(show W.cell? ⟨w.heap.size,43,none⟩=some (.slice a4 l4 c4) from (cellB (HB.out _ hW) 43).trans (by rw [List.getElem?_toArray]; exact HC43.out)))
 go_enter Tryz.func100,Tryz.ntmps100
 go_upto_region 1 with fail
 refine wp_region_held_drew (S:=fun W=>Mod N0 w1 W) (by kernel_rfl) ((Mod.refl _ w1).drew) (fun hH=>?_)
 refine tq (i:=0) (oi:=⟨some 8,.fieldAddr 158 (.tmp 2) 0,0, "count.go:94",#[],none⟩) (v:=.pointer (some ⟨w.heap.size,0,none⟩)) hH ?_
 refine tk (i:=1) (oi:=⟨some 9,.load 152 (.tmp 8),152, "count.go:94",#[⟨0,.data⟩],none⟩) (v:=.agg ((cs.drop 0).take 40).toArray) hH (fun w' hSw=>by exact exec_load_pt _ _ 152 _ rfl ⟨w.heap.size,0,none⟩ rfl (load_box (HB.out _ hSw) 152 0 40 _ Tryz.underlying152 rfl ss121 (by rw [HL.out]; omega))) ?_
 refine tq (i:=2) (oi:=⟨some 10,.move (.tmp 1),3, "count.go:94",#[],none⟩) (v:=.int .i64 6000) hH ?_
 refine tq (i:=4) (oi:=⟨some 12,.fieldAddr 158 (.tmp 2) 2,0, "count.go:94",#[],none⟩) (v:=.pointer (some ⟨w.heap.size,41,none⟩)) hH ?_
 refine tk (i:=5) (oi:=⟨some 13,.load 154 (.tmp 12),154, "count.go:94",#[⟨4,.data⟩],none⟩) (v:=.slice a2 l2 c2) hH ?_ ?_
 ·intro w' hSw
  have s:w'.cell? ⟨w.heap.size,41,none⟩=some (.slice a2 l2 c2):=(cellB (HB.out _ hSw) 41).trans (by rw [List.getElem?_toArray]; exact HC41.out)
  go_simp
  try with_reducible rfl
 refine tq (i:=6) (oi:=⟨some 14,.move (.tmp 1),3, "count.go:94",#[],none⟩) (v:=.int .i64 6000) hH ?_
 refine tq (i:=9) (oi:=⟨some 17,.fieldAddr 158 (.tmp 2) 3,0, "count.go:94",#[],none⟩) (v:=.pointer (some ⟨w.heap.size,42,none⟩)) hH ?_
 refine tk (i:=10) (oi:=⟨some 18,.load 155 (.tmp 17),155, "count.go:94",#[⟨9,.data⟩],none⟩) (v:=.slice a3 l3 c3) hH ?_ ?_
 ·intro w' hSw
  have s:w'.cell? ⟨w.heap.size,42,none⟩=some (.slice a3 l3 c3):=(cellB (HB.out _ hSw) 42).trans (by rw [List.getElem?_toArray]; exact HC42.out)
  go_simp
  try with_reducible rfl
 refine tq (i:=11) (oi:=⟨some 19,.move (.tmp 1),3, "count.go:94",#[],none⟩) (v:=.int .i64 6000) hH ?_
 refine tr (rs:=[3]) ?_
 refine AllReadyH.cons (o:=⟨some 11,.call {callee:=.value (.func 159),args:=#[.tmp 9,.tmp 10],argTypes:=#[152,3]},3, "count.go:94",#[⟨1,.data⟩,⟨2,.data⟩],none⟩) rfl (fun K hK=>?_) AllReadyH.nil
 go_simp
 refine (bodyOf_calls w0 _ HR0.out _ (HM0.out.tr ((Mod.refl _ w1).drew))).mono ?_
 rintro e v1 ⟨n1,rfl,n1lo,n1hi,n1R,hm⟩
 have HM1:=hh (((Mod.refl _ w1).drew).tr hm)
 clear n1R
 clear hm
 refine hK.out _ _ HM1.out (fun hH=>?_)
 clear hK K
 (try simp only [Act.put,ja,jb,jc])
 refine tr (rs:=[7]) ?_
 refine AllReadyH.cons (o:=⟨some 15,.call {callee:=.value (.func 160),args:=#[.tmp 13,.tmp 14],argTypes:=#[154,3]},3, "count.go:94",#[⟨5,.data⟩,⟨6,.data⟩,⟨3,.chain⟩],none⟩) rfl (fun K hK=>?_) AllReadyH.nil
 go_simp
 refine (programsOf_calls w0 _ HR2.out _ (HM0.out.tr HM1.out)).mono ?_
 rintro e v2 ⟨n2,rfl,n2lo,n2hi,n2R,hm⟩
 have HM2:=hh (HM1.out.tr hm)
 clear n2R
 clear hm
 refine hK.out _ _ HM2.out (fun hH=>?_)
 clear hK K
 (try simp only [Act.put,ja,jb,jc])
 refine tk (i:=8) (oi:=⟨some 16,.binOp .add 3 (.tmp 11) (.tmp 15) 3,3, "count.go:94",#[⟨3,.data⟩,⟨7,.data⟩],none⟩) (v:=.int .i64 (n1+n2)) hH ?_ ?_
 ·intro w' hSw
  go_simp
  first|exact wrap_i64 (by omega) (by omega)|with_reducible rfl
 refine tr (rs:=[12]) ?_
 refine AllReadyH.cons (o:=⟨some 20,.call {callee:=.value (.func 161),args:=#[.tmp 18,.tmp 19],argTypes:=#[155,3]},3, "count.go:94",#[⟨10,.data⟩,⟨11,.data⟩,⟨7,.chain⟩],none⟩) rfl (fun K hK=>?_) AllReadyH.nil
 go_simp
 refine (termsOf_calls w0 _ HR3.out _ (HM0.out.tr HM2.out)).mono ?_
 rintro e v3 ⟨n3,rfl,n3lo,n3hi,n3R,hm⟩
 have HM3:=hh (HM2.out.tr hm)
 clear n3R
 clear hm
 refine hK.out _ _ HM3.out (fun hH=>?_)
 clear hK K
 (try simp only [Act.put,ja,jb,jc])
 refine tk (i:=13) (oi:=⟨some 21,.binOp .add 3 (.tmp 16) (.tmp 20) 3,3, "count.go:94",#[⟨8,.data⟩,⟨12,.data⟩],none⟩) (v:=.int .i64 ((n1+n2)+n3)) hH ?_ ?_
 ·intro w' hSw
  go_simp
  first|exact wrap_i64 (by omega) (by omega)|with_reducible rfl
 refine tq (i:=14) (oi:=⟨some 5,.assign (.tmp 21),3, "count.go:94",#[⟨13,.data⟩,⟨12,.chain⟩,⟨0,.phase⟩,⟨1,.phase⟩,⟨2,.phase⟩,⟨3,.phase⟩,⟨4,.phase⟩,⟨5,.phase⟩,⟨6,.phase⟩,⟨7,.phase⟩,⟨8,.phase⟩,⟨9,.phase⟩,⟨10,.phase⟩,⟨11,.phase⟩,⟨12,.phase⟩,⟨13,.phase⟩],none⟩) (v:=.int .i64 ((n1+n2)+n3)) hH ?_
 refine wpAnyH_done (by kernel_rfl) ?_ _
 go_wp2_with fail
 go_loopw [5,6] (fun n i wr=>∃ (k:Nat) (z:Int),k<=l1/\i=.int .i64 k/\n=.int .i64 z/\0<=z/\z<=600000000000000/\Mod N0 w1 wr) (fun _ i _=>l1 - (intOf i).toNat)
 case atStart=>exact ⟨0,_,by omega,rfl,rfl,by omega,by omega,HM3.out⟩
 case round=>
  obtain ⟨k,z,hk,rfl,rfl,hz0,hz1,hmr⟩:=hrel
  have s0:=HS1.out _ hmr
  by_cases hlt:k<l1
  ·by_cases hz:z<=6000
   ·obtain ⟨L,off,ds,rfl,hL,hcl,hrd,hcs⟩:=HE1.out k hlt
    obtain ⟨u,hu,hru⟩:=hrd.cellAt Tryz.underlying275 0 rfl 248 0 rfl rfl cc139 cc141 (by omega)
    obtain ⟨a9,l9,c9,rfl,hb9,_⟩:=hru.slice Tryz.underlying248 cc27 (by omega)
    have hl9:=len_of_bytes hb9 bb27
    have hc:wr.cell? ⟨L,off+k,none⟩=some (.slice a9 l9 c9):=by
     have:=(hmr.cell (p:=⟨L,_,none⟩) (Nat.lt_of_lt_of_le hL HM0.out.size) (fun q=>q)).trans ((HM0.out.cell (p:=⟨L,_,none⟩) hL (fun q=>q)).trans (hcs 0 _ hu))
     simpa only [Nat.add_zero,Nat.mul_one] using this
    have hMR:=hh hmr
    clear hmr hcs hrd hu hru hb9
    go_wp2_with fail
    go_roundw
    case rel=>exact ⟨k+1,z+1+l9,by omega,rfl,rfl,by omega,by omega,hMR.out⟩
    case measure=>simp [intOf]; omega
   ·have hMR:=hh hmr
    clear hmr
    go_wp2_with fail
    go_loopw [5,7] (fun n i wr=>∃ (k:Nat) (z:Int),k<=l4/\i=.int .i64 k/\n=.int .i64 z/\0<=z/\z<=600000000000000/\Mod N0 w1 wr) (fun _ i _=>l4 - (intOf i).toNat)
    case atStart=>exact ⟨0,_,by omega,rfl,rfl,by omega,by omega,hMR.out⟩
    case round=>
     obtain ⟨k,z,hk,rfl,rfl,hz0,hz1,hmr⟩:=hrel
     have s0:=HS4.out _ hmr
     by_cases hlt:k<l4
     ·by_cases hz:z<=6000
      ·obtain ⟨L,off,ds,rfl,hL,hcl,hrd,hcs⟩:=HE4.out k hlt
       have hld:=load_mid (p:=off+k * 5) (fun j u hu=>(hmr.cell (p:=⟨L,_,none⟩) (Nat.lt_of_lt_of_le hL HM0.out.size) (fun q=>q)).trans ((HM0.out.cell (p:=⟨L,_,none⟩) hL (fun q=>q)).trans (hcs j u hu))) 69 2 1 _ Tryz.underlying69 rfl ss47 (by omega)
       have hcc:=termOf_calls w0 _ (hrd.fieldAt Tryz.underlying269 2 rfl 69 2 1 rfl rfl cc47) wr (HM0.out.tr hmr)
       have HLD:=hh hld
       have HCC:=hh hcc
       have hMR:=hh hmr
       clear hmr hcs hrd hld hcc
       go_wp2_with (refine wpList_exec rfl (exec_load_pt _ _ 69 _ rfl ⟨L,off+k * 5+2,none⟩ rfl HLD.out) ?_)
       refine HCC.out.mono ?_
       rintro e w9 ⟨m,rfl,hm0,hm1,hmR,hmw⟩
       have hM9:=hh (hMR.out.tr hmw)
       clear hmw hmR
       go_wp2_with fail
       go_roundw
       case rel=>exact ⟨k+1,z+1+m,by omega,rfl,rfl,by omega,by omega,hM9.out⟩
       case measure=>simp [intOf]; omega
      ·have hMR:=hh hmr
       clear hmr
       go_wp2_with fail
       go_ret
       exact ⟨z,rfl,by omega,by omega,trivial,HM.out.tr hMR.out⟩
     ·have e:k=l4:=by omega
      subst e
      have hMR:=hh hmr
      clear hmr
      go_wp2_with fail
      go_ret
      exact ⟨z,rfl,by omega,by omega,trivial,HM.out.tr hMR.out⟩
  ·have e:k=l1:=by omega
   subst e
   have hMR:=hh hmr
   clear hmr
   go_wp2_with fail
   go_loopw [5,7] (fun n i wr=>∃ (k:Nat) (z:Int),k<=l4/\i=.int .i64 k/\n=.int .i64 z/\0<=z/\z<=600000000000000/\Mod N0 w1 wr) (fun _ i _=>l4 - (intOf i).toNat)
   case atStart=>exact ⟨0,_,by omega,rfl,rfl,by omega,by omega,hMR.out⟩
   case round=>
    obtain ⟨k,z,hk,rfl,rfl,hz0,hz1,hmr⟩:=hrel
    have s0:=HS4.out _ hmr
    by_cases hlt:k<l4
    ·by_cases hz:z<=6000
     ·obtain ⟨L,off,ds,rfl,hL,hcl,hrd,hcs⟩:=HE4.out k hlt
      have hld:=load_mid (p:=off+k * 5) (fun j u hu=>(hmr.cell (p:=⟨L,_,none⟩) (Nat.lt_of_lt_of_le hL HM0.out.size) (fun q=>q)).trans ((HM0.out.cell (p:=⟨L,_,none⟩) hL (fun q=>q)).trans (hcs j u hu))) 69 2 1 _ Tryz.underlying69 rfl ss47 (by omega)
      have hcc:=termOf_calls w0 _ (hrd.fieldAt Tryz.underlying269 2 rfl 69 2 1 rfl rfl cc47) wr (HM0.out.tr hmr)
      have HLD:=hh hld
      have HCC:=hh hcc
      have hMR:=hh hmr
      clear hmr hcs hrd hld hcc
      go_wp2_with (refine wpList_exec rfl (exec_load_pt _ _ 69 _ rfl ⟨L,off+k * 5+2,none⟩ rfl HLD.out) ?_)
      refine HCC.out.mono ?_
      rintro e w9 ⟨m,rfl,hm0,hm1,hmR,hmw⟩
      have hM9:=hh (hMR.out.tr hmw)
      clear hmw hmR
      go_wp2_with fail
      go_roundw
      case rel=>exact ⟨k+1,z+1+m,by omega,rfl,rfl,by omega,by omega,hM9.out⟩
      case measure=>simp [intOf]; omega
     ·have hMR:=hh hmr
      clear hmr
      go_wp2_with fail
      go_ret
      exact ⟨z,rfl,by omega,by omega,trivial,HM.out.tr hMR.out⟩
    ·have e:k=l4:=by omega
     subst e
     have hMR:=hh hmr
     clear hmr
     go_wp2_with fail
     go_ret
     exact ⟨z,rfl,by omega,by omega,trivial,HM.out.tr hMR.out⟩
set_option maxRecDepth 100000 in
set_option maxHeartbeats 1000000 in
theorem txsOf_calls (w0:World) (v:Value) (h:Rd w0 34 [v]) (w:World) (hm:Mod N0 w0 w):Calls Tryz.prog 48 #[v,.int .i64 6000] w fun e w'=>Cnt w 700000000000000 (fun _=>True) e w':=by
 obtain ⟨a,len,cap,rfl,hb,_,hel⟩:=h.slice Tryz.underlying34 cc127 (by omega)
 have hlen:=len_of_bytes hb bb127
 have HE:=hh hel
 have HM:=hh hm
 clear hel hm hb h
 go_enter Tryz.func48,Tryz.ntmps48
 go_wp2_with fail
 go_loopw [5,6] (fun n i wr=>∃ (k:Nat) (z:Int),k<=len/\i=.int .i64 k/\n=.int .i64 z/\0<=z/\z<=700000000000000/\Mod N0 w wr) (fun _ i _=>len - (intOf i).toNat)
 case atStart=>exact ⟨0,_,by omega,rfl,rfl,by omega,by omega,Mod.refl _ w⟩
 case round=>
  obtain ⟨k,z,hk,rfl,rfl,hz0,hz1,hmr⟩:=hrel
  by_cases hlt:k<len
  ·by_cases hz:z<=6000
   ·obtain ⟨L,off,ds,rfl,hL,hcl,hrd,hcs⟩:=HE.out k hlt
    have hld:=load_mid (p:=off+k * 45) (fun j u hu=>(hmr.cell (p:=⟨L,_,none⟩) (Nat.lt_of_lt_of_le hL HM.out.size) (fun q=>q)).trans ((HM.out.cell (p:=⟨L,_,none⟩) hL (fun q=>q)).trans (hcs j u hu))) 158 0 45 _ Tryz.underlying158 rfl ss127 (by omega)
    have hcc:=txOf_calls w0 ds hrd wr (HM.out.tr hmr)
    rw [Nat.add_zero] at hld
    rw [List.drop_zero,List.take_of_length_le (by omega)] at hld
    have HLD:=hh hld
    have HCC:=hh hcc
    have hMR:=hh hmr
    clear hmr hcs hrd hld hcc
    go_wp2_with (refine wpList_exec rfl (exec_load_pt _ _ 158 _ rfl ⟨L,off+k * 45,none⟩ rfl HLD.out) ?_)
    refine HCC.out.mono ?_
    rintro e w9 ⟨m,rfl,hm0,hm1,hmR,hmw⟩
    have hM9:=hh (hMR.out.tr hmw)
    clear hmw hmR
    go_wp2_with fail
    go_roundw
    case rel=>exact ⟨k+1,z+m,by omega,rfl,rfl,by omega,by omega,hM9.out⟩
    case measure=>simp [intOf]; omega
   ·have hMR:=hh hmr
    clear hmr
    go_wp2_with fail
    go_ret
    exact ⟨z,rfl,by omega,by omega,trivial,hMR.out⟩
  ·have e:k=len:=by omega
   subst e
   have hMR:=hh hmr
   clear hmr
   go_wp2_with fail
   go_ret
   exact ⟨z,rfl,by omega,by omega,trivial,hMR.out⟩
set_option maxRecDepth 100000 in
set_option maxHeartbeats 1000000 in
theorem blockOf_calls (w0:World) (cs:List Value) (h:Rd w0 140 cs) (w:World) (hm:Mod N0 w0 w):Calls Tryz.prog 101 #[.agg cs.toArray,.int .i64 6000] w fun e w'=>Cnt w 800000000000000 (fun _=>True) e w':=by
 obtain ⟨v1,hv1,hr1⟩:=h.cellAt Tryz.underlying140 1 rfl 34 67 rfl rfl cc34 cc103 (by omega)
 obtain ⟨a1,l1,c1,rfl,hb1,_,hel1⟩:=id (hr1.slice Tryz.underlying34 cc127 (by omega))
 have hl1:=len_of_bytes hb1 bb127
 have HR1:=hh hr1
 have HC67:=hh hv1
 have HE1:=hh hel1
 clear hv1 hr1 hb1 hel1
 obtain ⟨w1,hw1⟩:∃ w1,w.alloc (.cells cs.toArray 140)=w1:=⟨_,rfl⟩
 have hb:w1.heap[w.heap.size]?=some (.cells cs.toArray 140 (0,0)):=by rw [← hw1]; exact newB w _
 have hm1:Mod N0 w w1:=by rw [← hw1]; exact (Mod.refl _ w).alloc _
 have HB:=hh (fun (W:World) (hW:Mod N0 w1 W)=>(hW.block _ (ltB hb) (fun q=>q)).trans hb)
 have HM:=hh hm1
 have HM0:=hh (hm.tr hm1)
 have HS:=hh (fun (W:World) (hW:Mod N0 w1 W)=>(show W.cell? ⟨w.heap.size,67,none⟩=some (.slice a1 l1 c1) from (cellB (HB.out _ hW) 67).trans (by rw [List.getElem?_toArray]; exact HC67.out)))
 have s0:=HS.out _ (Mod.refl _ w1)
 have HCC:=hh (txsOf_calls w0 _ HR1.out w1 (hm.tr hm1))
 clear hb h hm1 hm
 go_enter Tryz.func101,Tryz.ntmps101
 go_wp2_with fail
 refine HCC.out.mono ?_
 rintro e w2 ⟨n,rfl,h0,h1,hR,hm2⟩
 have HM2:=hh (HM.out.tr hm2)
 clear hm2 hR
 go_wp2_with fail
 go_ret
 exact ⟨_,rfl,by omega,by omega,trivial,HM2.out⟩
set_option maxRecDepth 100000 in
set_option maxHeartbeats 1000000 in
theorem storedOf_calls (w0:World) (cs:List Value) (h:Rd w0 145 cs) (w:World) (hm:Mod N0 w0 w):Calls Tryz.prog 49 #[.agg cs.toArray,.int .i64 6000] w fun e w'=>Cnt w 1200000000000000 (fun _=>True) e w':=by
 have hl:=h.len Tryz.underlying145
 rw [cc108] at hl
 have HR1:=hh (h.fieldAt Tryz.underlying145 1 rfl 140 32 68 rfl rfl cc103)
 have HR3:=hh (h.fieldAt Tryz.underlying145 3 rfl 143 101 5 rfl rfl cc106)
 obtain ⟨w1,hw1⟩:∃ w1,w.alloc (.cells cs.toArray 145)=w1:=⟨_,rfl⟩
 have hb:w1.heap[w.heap.size]?=some (.cells cs.toArray 145 (0,0)):=by rw [← hw1]; exact newB w _
 have hm1:Mod N0 w w1:=by rw [← hw1]; exact (Mod.refl _ w).alloc _
 have HB:=hh (fun (W:World) (hW:Mod N0 w1 W)=>(hW.block _ (ltB hb) (fun q=>q)).trans hb)
 have HM:=hh hm1
 have HM0:=hh (hm.tr hm1)
 have HL:=hh hl
 clear hb h hm1 hm hl
 go_enter Tryz.func49,Tryz.ntmps49
 go_upto_region 1 with fail
 refine wp_region_held_drew (S:=fun W=>Mod N0 w1 W) (by kernel_rfl) ((Mod.refl _ w1).drew) (fun hH=>?_)
 refine tq (i:=0) (oi:=⟨some 5,.fieldAddr 145 (.tmp 2) 1,0, "count.go:127",#[],none⟩) (v:=.pointer (some ⟨w.heap.size,32,none⟩)) hH ?_
 refine tk (i:=1) (oi:=⟨some 6,.load 140 (.tmp 5),140, "count.go:127",#[⟨0,.data⟩],none⟩) (v:=.agg ((cs.drop 32).take 68).toArray) hH (fun w' hSw=>by exact exec_load_pt _ _ 140 _ rfl ⟨w.heap.size,32,none⟩ rfl (load_box (HB.out _ hSw) 140 32 68 _ Tryz.underlying140 rfl ss103 (by rw [HL.out]; omega))) ?_
 refine tq (i:=2) (oi:=⟨some 7,.move (.tmp 1),3, "count.go:127",#[],none⟩) (v:=.int .i64 6000) hH ?_
 refine tq (i:=4) (oi:=⟨some 9,.fieldAddr 145 (.tmp 2) 3,0, "count.go:127",#[],none⟩) (v:=.pointer (some ⟨w.heap.size,101,none⟩)) hH ?_
 refine tk (i:=5) (oi:=⟨some 10,.load 143 (.tmp 9),143, "count.go:127",#[⟨4,.data⟩],none⟩) (v:=.agg ((cs.drop 101).take 5).toArray) hH (fun w' hSw=>by exact exec_load_pt _ _ 143 _ rfl ⟨w.heap.size,101,none⟩ rfl (load_box (HB.out _ hSw) 143 101 5 _ Tryz.underlying143 rfl ss106 (by rw [HL.out]; omega))) ?_
 refine tq (i:=6) (oi:=⟨some 11,.move (.tmp 1),3, "count.go:127",#[],none⟩) (v:=.int .i64 6000) hH ?_
 refine tr (rs:=[3]) ?_
 refine AllReadyH.cons (o:=⟨some 8,.call {callee:=.value (.func 101),args:=#[.tmp 6,.tmp 7],argTypes:=#[140,3]},3, "count.go:127",#[⟨1,.data⟩,⟨2,.data⟩],none⟩) rfl (fun K hK=>?_) AllReadyH.nil
 go_simp
 refine (blockOf_calls w0 _ HR1.out _ (HM0.out.tr ((Mod.refl _ w1).drew))).mono ?_
 rintro e v1 ⟨n1,rfl,n1lo,n1hi,n1R,hm⟩
 have HM1:=hh (((Mod.refl _ w1).drew).tr hm)
 clear n1R
 clear hm
 refine hK.out _ _ HM1.out (fun hH=>?_)
 clear hK K
 (try simp only [Act.put,ja,jb,jc])
 refine tr (rs:=[7]) ?_
 refine AllReadyH.cons (o:=⟨some 12,.call {callee:=.value (.func 102),args:=#[.tmp 10,.tmp 11],argTypes:=#[143,3]},3, "count.go:127",#[⟨5,.data⟩,⟨6,.data⟩,⟨3,.chain⟩],none⟩) rfl (fun K hK=>?_) AllReadyH.nil
 go_simp
 refine (diffOf_calls w0 _ HR3.out _ (HM0.out.tr HM1.out)).mono ?_
 rintro e v2 ⟨n2,rfl,n2lo,n2hi,n2R,hm⟩
 have HM2:=hh (HM1.out.tr hm)
 clear n2R
 clear hm
 refine hK.out _ _ HM2.out (fun hH=>?_)
 clear hK K
 (try simp only [Act.put,ja,jb,jc])
 refine tk (i:=8) (oi:=⟨some 13,.binOp .add 3 (.tmp 8) (.tmp 12) 3,3, "count.go:127",#[⟨3,.data⟩,⟨7,.data⟩],none⟩) (v:=.int .i64 (n1+n2)) hH ?_ ?_
 ·intro w' hSw
  go_simp
  first|exact wrap_i64 (by omega) (by omega)|with_reducible rfl
 refine tq (i:=9) (oi:=⟨some 4,.assign (.tmp 13),3, "count.go:127",#[⟨8,.data⟩,⟨7,.chain⟩,⟨0,.phase⟩,⟨1,.phase⟩,⟨2,.phase⟩,⟨3,.phase⟩,⟨4,.phase⟩,⟨5,.phase⟩,⟨6,.phase⟩,⟨7,.phase⟩,⟨8,.phase⟩],none⟩) (v:=.int .i64 (n1+n2)) hH ?_
 refine wpAnyH_done (by kernel_rfl) ?_ _
 go_wp2_with fail
 go_ret
 exact ⟨_,rfl,by omega,by omega,trivial,HM.out.tr HM2.out⟩
end Go.Proofs.YtckcamlicgdklaaGreat
