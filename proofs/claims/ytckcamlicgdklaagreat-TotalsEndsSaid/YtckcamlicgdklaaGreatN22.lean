/- The Same functions of entries, programs, redeemers, signatures. -/
import Derived.Test.YtckcamlicgdklaaGreatN21
namespace Go.Proofs.YtckcamlicgdklaaGreat
open Go.RowKit Go.Mo
set_option maxRecDepth 100000 in
set_option maxHeartbeats 1000000 in
theorem sameOutputs {N n:Nat} {w0 w1:World} {Q:Nat->Prop} (v v':Value) (hr:Rd w0 37 [v]) (h:EqX N w0 Q w1 n 37 [v] [v']) (w:World) (hm:Mod N0 w1 w):Calls Tryz.prog 20 #[v',v] w fun e w'=>e=.returned (.bool true)/\Mod N0 w w':=by
 obtain ⟨m,rfl,a,a',len,cap,cap',rfl,rfl,hel⟩:=h.slice rfl Tryz.underlying37 zc71
 obtain ⟨a2,len2,cap2,e2,hb,_,_⟩:=hr.slice Tryz.underlying37 zc71 (by omega)
 simp only [Value.slice.injEq] at e2
 obtain ⟨rfl,rfl,rfl⟩:=e2
 have hlen:=len_of_bytes hb zb71
 have HE:=hh hel
 have HM:=hh hm
 clear hel hm hr hb
 go_enter Tryz.func20,Tryz.ntmps20
 go_wp2_with fail
 go_loopw [5] (fun i wr=>∃ k:Nat,k<=len/\i=.int .i64 k/\Mod N0 w wr) (fun i _=>len - (intOf i).toNat)
 case atStart=>exact ⟨0,by omega,rfl,Mod.refl _ w⟩
 case round=>
  obtain ⟨k,hk,rfl,hmr⟩:=hrel
  have HMR:=hh hmr
  clear hmr
  by_cases hlt:k<len
  ·obtain ⟨L,off,ds,L',off',ds',rfl,rfl,hrd,_,hL,hL',_,hl,hl',hc,hc',he⟩:=HE.out k hlt
   have HA:=hh (fun (W:World) (hW:Mod N0 w W)=>(show (loadVar 71 ⟨L',off'+k * 69,none⟩).run Tryz.prog W=.ok (.agg ds'.toArray) W from by
    have:=load_mid (w:=W) (p:=off'+k * 69) (fun j u hu=>((HM.out.tr hW).cell (p:=⟨L',_,none⟩) hL' (fun q=>q)).trans (hc' j u hu)) 71 0 69 _ Tryz.underlying71 rfl zs71 (by omega)
    rw [List.drop_zero,List.take_of_length_le (by omega),Nat.add_zero] at this
    exact this))
   have HB:=hh (fun (W:World) (hW:Mod N0 w W)=>(show (loadVar 71 ⟨L,off+k * 69,none⟩).run Tryz.prog W=.ok (.agg ds.toArray) W from by
    have:=load_mid (w:=W) (p:=off+k * 69) (fun j u hu=>((HM.out.tr hW).cell (p:=⟨L,_,none⟩) hL (fun q=>q)).trans (hc j u hu)) 71 0 69 _ Tryz.underlying71 rfl zs71 (by omega)
    rw [List.drop_zero,List.take_of_length_le (by omega),Nat.add_zero] at this
    exact this))
   have HRD:=hh (And.intro hrd he)
   clear hrd hc hc' he hl hl' hL hL'
   go_upto_region 6 with fail
   refine wp_region_held_drew (S:=fun W=>Mod N0 w W) (by kernel_rfl) HMR.out.drew (fun hH=>?_)
   refine tq (i:=0) (oi:=⟨some 17,.move (.tmp 0),37, "same.go:268",#[],none⟩) (v:=.slice (some ⟨L',off',none⟩) len cap') hH ?_
   refine tq (i:=1) (oi:=⟨some 18,.move (.tmp 5),3, "same.go:268",#[],none⟩) (v:=.int .i64 k) hH ?_
   refine tq (i:=2) (oi:=⟨some 19,.indexAddr 37 (.tmp 17) (.tmp 18),0, "same.go:268",#[⟨0,.data⟩,⟨1,.data⟩],none⟩) (v:=.pointer (some ⟨L',off'+k * 69,none⟩)) hH ?_
   refine tk (i:=3) (oi:=⟨some 20,.load 71 (.tmp 19),71, "same.go:268",#[⟨2,.data⟩],none⟩) (v:=.agg ds'.toArray) hH (fun w' hSw=>by exact exec_load_pt _ _ 71 _ rfl ⟨L',off'+k * 69,none⟩ rfl (HA.out _ hSw)) ?_
   refine tq (i:=4) (oi:=⟨some 21,.move (.tmp 1),37, "same.go:268",#[],none⟩) (v:=.slice (some ⟨L,off,none⟩) len cap) hH ?_
   refine tq (i:=5) (oi:=⟨some 22,.move (.tmp 5),3, "same.go:268",#[],none⟩) (v:=.int .i64 k) hH ?_
   refine tq (i:=6) (oi:=⟨some 23,.indexAddr 37 (.tmp 21) (.tmp 22),0, "same.go:268",#[⟨4,.data⟩,⟨5,.data⟩],none⟩) (v:=.pointer (some ⟨L,off+k * 69,none⟩)) hH ?_
   refine tk (i:=7) (oi:=⟨some 24,.load 71 (.tmp 23),71, "same.go:268",#[⟨6,.data⟩],none⟩) (v:=.agg ds.toArray) hH (fun w' hSw=>by exact exec_load_pt _ _ 71 _ rfl ⟨L,off+k * 69,none⟩ rfl (HB.out _ hSw)) ?_
   refine tr (rs:=[8]) ?_
   refine AllReadyH.cons (o:=⟨some 25,.call {callee:=.value (.func 44),args:=#[.tmp 20,.tmp 24],argTypes:=#[71,71]},4, "same.go:268",#[⟨3,.data⟩,⟨7,.data⟩],none⟩) rfl (fun K hK=>?_) AllReadyH.nil
   go_simp
   refine (sameOutput _ _ HRD.out.1 HRD.out.2 wr.drew ((HM.out.tr HMR.out).drew)).mono ?_
   rintro e w9 ⟨rfl,hm9⟩
   have HM9:=hh ((HMR.out.drew).tr hm9)
   clear hm9
   refine hK.out _ _ HM9.out (fun hH=>?_)
   clear hK K
   (try simp only [Act.put,ja,jb,jc])
   refine tq (i:=9) (oi:=⟨some 26,.unOp .not 4 (.tmp 25),4, "same.go:268",#[⟨8,.data⟩],none⟩) (v:=.bool false) hH ?_
   refine wpAnyH_done (by kernel_rfl) ?_ _
   go_wp2_with fail
   go_roundw
   case rel=>exact ⟨k+1,by omega,rfl,HM9.out⟩
   case measure=>simp [intOf]; omega
  ·have e:k=len:=by omega
   subst e
   go_wp2_with fail
   go_ret
   exact ⟨rfl,HMR.out⟩
set_option maxRecDepth 100000 in
set_option maxHeartbeats 1000000 in
theorem sameEntry {N n:Nat} {w0 w1:World} {Q:Nat->Prop} (cs cs':List Value) (hr:Rd w0 73 cs) (h:EqX N w0 Q w1 n 73 cs cs') (w:World) (hm:Mod N0 w1 w):Calls Tryz.prog 66 #[.agg cs'.toArray,.agg cs.toArray] w fun e w'=>e=.returned (.bool true)/\Mod N0 w w':=by
 obtain ⟨m,rfl,hl,hl',hfs⟩:=h.struct rfl Tryz.underlying73
 rw [zc73] at hl hl'
 have HF0:=hh (And.intro (hr.fieldAt Tryz.underlying73 0 rfl 62 0 33 rfl rfl zc62) (show (cs'.drop 0).take 33=(cs.drop 0).take 33 from (eqx_field hfs 0 rfl 62 0 33 rfl rfl zc62).flat rfl))
 have HE1:=hh (And.intro (hr.fieldAt Tryz.underlying73 1 rfl 71 33 69 rfl rfl zc71) (show EqX N w0 Q w1 m 71 ((cs.drop 33).take 69) ((cs'.drop 33).take 69) from eqx_field hfs 1 rfl 71 33 69 rfl rfl zc71))
 obtain ⟨w2,hw2⟩:∃ w2,(w.alloc (.cells cs'.toArray 73)).alloc (.cells cs.toArray 73)=w2:=⟨_,rfl⟩
 have hA:w2.heap[w.heap.size]?=some (.cells cs'.toArray 73 (0,0)):=by rw [← hw2]; exact allocB (newB w _) _
 have hB:w2.heap[w.heap.size+1]?=some (.cells cs.toArray 73 (0,0)):=by
  rw [← hw2]; have:=newB (w.alloc (.cells cs'.toArray 73)) (.cells cs.toArray 73); rwa [World.size_alloc] at this
 have hm2:Mod N0 w w2:=by rw [← hw2]; exact ((Mod.refl _ w).alloc _).alloc _
 have HA:=hh (fun (W:World) (hW:Mod N0 w2 W)=>(hW.block _ (ltB hA) (fun q=>q)).trans hA)
 have HB:=hh (fun (W:World) (hW:Mod N0 w2 W)=>(hW.block _ (ltB hB) (fun q=>q)).trans hB)
 have HL:=hh (And.intro hl hl')
 have HM2:=hh hm2
 have HM:=hh (hm.tr hm2)
 clear hA hB hm2 hm hl hl' hfs hr h
 go_enter Tryz.func66,Tryz.ntmps66
 go_upto_region 1 with fail
 refine wp_region_lit ?_
 refine ex (v:=.pointer (some ⟨w.heap.size,0,none⟩)) ?_
 have hld:(loadVar 62 ⟨w.heap.size,0,none⟩).run Tryz.prog w2=.ok (.agg ((cs.drop 0).take 33).toArray) w2:=by
  have:=load_box (HA.out _ (Mod.refl N0 w2)) 62 0 33 _ Tryz.underlying62 rfl zs62 (by have:=HL.out.2; omega)
  rw [HF0.out.2] at this
  exact this
 refine wx (exec_load_pt _ _ 62 _ rfl ⟨w.heap.size,0,none⟩ rfl hld) ?_
 clear hld
 refine ex (v:=.pointer (some ⟨w.heap.size+1,0,none⟩)) ?_
 have hld:(loadVar 62 ⟨w.heap.size+1,0,none⟩).run Tryz.prog w2=.ok (.agg ((cs.drop 0).take 33).toArray) w2:=by
  have:=load_box (HB.out _ (Mod.refl N0 w2)) 62 0 33 _ Tryz.underlying62 rfl zs62 (by have:=HL.out.1; omega)
  exact this
 refine wx (exec_load_pt _ _ 62 _ rfl ⟨w.heap.size+1,0,none⟩ rfl hld) ?_
 clear hld
 refine wx (exec_eql_same _ _ rfl (ds:=(cs.drop 0).take 33) rfl rfl 3 (by omega) kt62 (formed62 (by have:=HL.out.1; simp; omega)) gt62 HF0.out.1) ?_
 refine ex (v:=.bool true) ?_
 refine eg (v:=.pointer (some ⟨w.heap.size,33,none⟩)) ?_
 refine gx (exec_load_pt _ _ 71 _ rfl ⟨w.heap.size,33,none⟩ rfl (load_box (HA.out _ (Mod.refl N0 w2)) 71 33 69 _ Tryz.underlying71 rfl zs71 (by have:=HL.out.2; omega))) ?_
 refine eg (v:=.pointer (some ⟨w.heap.size+1,33,none⟩)) ?_
 refine gx (exec_load_pt _ _ 71 _ rfl ⟨w.heap.size+1,33,none⟩ rfl (load_box (HB.out _ (Mod.refl N0 w2)) 71 33 69 _ Tryz.underlying71 rfl zs71 (by have:=HL.out.1; omega))) ?_
 go_wp2_with fail
 refine (sameOutput _ _ HE1.out.1 HE1.out.2 w2 (HM.out.tr (Mod.refl N0 w2))).mono ?_
 rintro e v1 ⟨rfl,hm1⟩
 rename_i hK
 refine hK _ _ ?_
 clear hK
 (try simp only [Act.put,ja,jb,jc])
 have HV1:=hh ((Mod.refl N0 w2).tr hm1)
 clear hm1
 refine ex (v:=.bool true) ?_
 refine ex (v:=.bool true) ?_
 go_wp2_with fail
 go_ret
 exact ⟨rfl,HM2.out.tr HV1.out⟩
set_option maxRecDepth 100000 in
set_option maxHeartbeats 1000000 in
theorem sameEntries {N n:Nat} {w0 w1:World} {Q:Nat->Prop} (v v':Value) (hr:Rd w0 28 [v]) (h:EqX N w0 Q w1 n 28 [v] [v']) (w:World) (hm:Mod N0 w1 w):Calls Tryz.prog 41 #[v',v] w fun e w'=>e=.returned (.bool true)/\Mod N0 w w':=by
 obtain ⟨m,rfl,a,a',len,cap,cap',rfl,rfl,hel⟩:=h.slice rfl Tryz.underlying28 zc73
 obtain ⟨a2,len2,cap2,e2,hb,_,_⟩:=hr.slice Tryz.underlying28 zc73 (by omega)
 simp only [Value.slice.injEq] at e2
 obtain ⟨rfl,rfl,rfl⟩:=e2
 have hlen:=len_of_bytes hb zb73
 have HE:=hh hel
 have HM:=hh hm
 clear hel hm hr hb
 go_enter Tryz.func41,Tryz.ntmps41
 go_wp2_with fail
 go_loopw [5] (fun i wr=>∃ k:Nat,k<=len/\i=.int .i64 k/\Mod N0 w wr) (fun i _=>len - (intOf i).toNat)
 case atStart=>exact ⟨0,by omega,rfl,Mod.refl _ w⟩
 case round=>
  obtain ⟨k,hk,rfl,hmr⟩:=hrel
  have HMR:=hh hmr
  clear hmr
  by_cases hlt:k<len
  ·obtain ⟨L,off,ds,L',off',ds',rfl,rfl,hrd,_,hL,hL',_,hl,hl',hc,hc',he⟩:=HE.out k hlt
   have HA:=hh (fun (W:World) (hW:Mod N0 w W)=>(show (loadVar 73 ⟨L',off'+k * 102,none⟩).run Tryz.prog W=.ok (.agg ds'.toArray) W from by
    have:=load_mid (w:=W) (p:=off'+k * 102) (fun j u hu=>((HM.out.tr hW).cell (p:=⟨L',_,none⟩) hL' (fun q=>q)).trans (hc' j u hu)) 73 0 102 _ Tryz.underlying73 rfl zs73 (by omega)
    rw [List.drop_zero,List.take_of_length_le (by omega),Nat.add_zero] at this
    exact this))
   have HB:=hh (fun (W:World) (hW:Mod N0 w W)=>(show (loadVar 73 ⟨L,off+k * 102,none⟩).run Tryz.prog W=.ok (.agg ds.toArray) W from by
    have:=load_mid (w:=W) (p:=off+k * 102) (fun j u hu=>((HM.out.tr hW).cell (p:=⟨L,_,none⟩) hL (fun q=>q)).trans (hc j u hu)) 73 0 102 _ Tryz.underlying73 rfl zs73 (by omega)
    rw [List.drop_zero,List.take_of_length_le (by omega),Nat.add_zero] at this
    exact this))
   have HRD:=hh (And.intro hrd he)
   clear hrd hc hc' he hl hl' hL hL'
   go_upto_region 6 with fail
   refine wp_region_held_drew (S:=fun W=>Mod N0 w W) (by kernel_rfl) HMR.out.drew (fun hH=>?_)
   refine tq (i:=0) (oi:=⟨some 17,.move (.tmp 0),28, "same.go:318",#[],none⟩) (v:=.slice (some ⟨L',off',none⟩) len cap') hH ?_
   refine tq (i:=1) (oi:=⟨some 18,.move (.tmp 5),3, "same.go:318",#[],none⟩) (v:=.int .i64 k) hH ?_
   refine tq (i:=2) (oi:=⟨some 19,.indexAddr 28 (.tmp 17) (.tmp 18),0, "same.go:318",#[⟨0,.data⟩,⟨1,.data⟩],none⟩) (v:=.pointer (some ⟨L',off'+k * 102,none⟩)) hH ?_
   refine tk (i:=3) (oi:=⟨some 20,.load 73 (.tmp 19),73, "same.go:318",#[⟨2,.data⟩],none⟩) (v:=.agg ds'.toArray) hH (fun w' hSw=>by exact exec_load_pt _ _ 73 _ rfl ⟨L',off'+k * 102,none⟩ rfl (HA.out _ hSw)) ?_
   refine tq (i:=4) (oi:=⟨some 21,.move (.tmp 1),28, "same.go:318",#[],none⟩) (v:=.slice (some ⟨L,off,none⟩) len cap) hH ?_
   refine tq (i:=5) (oi:=⟨some 22,.move (.tmp 5),3, "same.go:318",#[],none⟩) (v:=.int .i64 k) hH ?_
   refine tq (i:=6) (oi:=⟨some 23,.indexAddr 28 (.tmp 21) (.tmp 22),0, "same.go:318",#[⟨4,.data⟩,⟨5,.data⟩],none⟩) (v:=.pointer (some ⟨L,off+k * 102,none⟩)) hH ?_
   refine tk (i:=7) (oi:=⟨some 24,.load 73 (.tmp 23),73, "same.go:318",#[⟨6,.data⟩],none⟩) (v:=.agg ds.toArray) hH (fun w' hSw=>by exact exec_load_pt _ _ 73 _ rfl ⟨L,off+k * 102,none⟩ rfl (HB.out _ hSw)) ?_
   refine tr (rs:=[8]) ?_
   refine AllReadyH.cons (o:=⟨some 25,.call {callee:=.value (.func 66),args:=#[.tmp 20,.tmp 24],argTypes:=#[73,73]},4, "same.go:318",#[⟨3,.data⟩,⟨7,.data⟩],none⟩) rfl (fun K hK=>?_) AllReadyH.nil
   go_simp
   refine (sameEntry _ _ HRD.out.1 HRD.out.2 wr.drew ((HM.out.tr HMR.out).drew)).mono ?_
   rintro e w9 ⟨rfl,hm9⟩
   have HM9:=hh ((HMR.out.drew).tr hm9)
   clear hm9
   refine hK.out _ _ HM9.out (fun hH=>?_)
   clear hK K
   (try simp only [Act.put,ja,jb,jc])
   refine tq (i:=9) (oi:=⟨some 26,.unOp .not 4 (.tmp 25),4, "same.go:318",#[⟨8,.data⟩],none⟩) (v:=.bool false) hH ?_
   refine wpAnyH_done (by kernel_rfl) ?_ _
   go_wp2_with fail
   go_roundw
   case rel=>exact ⟨k+1,by omega,rfl,HM9.out⟩
   case measure=>simp [intOf]; omega
  ·have e:k=len:=by omega
   subst e
   go_wp2_with fail
   go_ret
   exact ⟨rfl,HMR.out⟩
set_option maxRecDepth 100000 in
set_option maxHeartbeats 1000000 in
theorem sameInstr {N n:Nat} {w0 w1:World} {Q:Nat->Prop} (cs cs':List Value) (hr:Rd w0 260 cs) (h:EqX N w0 Q w1 n 260 cs cs') (w:World) (hm:Mod N0 w1 w):Calls Tryz.prog 140 #[.agg cs'.toArray,.agg cs.toArray] w fun e w'=>e=.returned (.bool true)/\Mod N0 w w':=by
 obtain ⟨m,rfl,hl,hl',hfs⟩:=h.struct rfl Tryz.underlying260
 rw [zc260] at hl hl'
 obtain ⟨u0,hu0,hru0⟩:=hr.cellAt Tryz.underlying260 0 rfl 258 0 rfl rfl zc258 zc260 (by omega)
 obtain ⟨n0,rfl,_⟩:=hru0.int Tryz.underlying258
 have hu0':cs'[0]?=some (.int .i64 n0):=flat_cell ((eqx_field hfs 0 rfl 258 0 1 rfl rfl zc258).flat rfl) hu0
 have HU0:=hh (And.intro hu0 hu0')
 clear hu0 hu0' hru0
 obtain ⟨u1,hu1,hru1⟩:=hr.cellAt Tryz.underlying260 1 rfl 2 1 rfl rfl zc2 zc260 (by omega)
 obtain ⟨n1,rfl,_⟩:=hru1.int Tryz.underlying2
 have hu1':cs'[1]?=some (.int .i64 n1):=flat_cell ((eqx_field hfs 1 rfl 2 1 1 rfl rfl zc2).flat rfl) hu1
 have HU1:=hh (And.intro hu1 hu1')
 clear hu1 hu1' hru1
 obtain ⟨u2,hu2,hru2⟩:=hr.cellAt Tryz.underlying260 2 rfl 30 2 rfl rfl zc30 zc260 (by omega)
 obtain ⟨n2,rfl,_⟩:=hru2.int Tryz.underlying30
 have hu2':cs'[2]?=some (.int .u64 n2):=flat_cell ((eqx_field hfs 2 rfl 30 2 1 rfl rfl zc30).flat rfl) hu2
 have HU2:=hh (And.intro hu2 hu2')
 clear hu2 hu2' hru2
 have HE3:=hh (And.intro (hr.fieldAt Tryz.underlying260 3 rfl 69 3 1 rfl rfl zc69) (show EqX N w0 Q w1 m 69 ((cs.drop 3).take 1) ((cs'.drop 3).take 1) from eqx_field hfs 3 rfl 69 3 1 rfl rfl zc69))
 obtain ⟨w2,hw2⟩:∃ w2,(w.alloc (.cells cs'.toArray 260)).alloc (.cells cs.toArray 260)=w2:=⟨_,rfl⟩
 have hA:w2.heap[w.heap.size]?=some (.cells cs'.toArray 260 (0,0)):=by rw [← hw2]; exact allocB (newB w _) _
 have hB:w2.heap[w.heap.size+1]?=some (.cells cs.toArray 260 (0,0)):=by
  rw [← hw2]; have:=newB (w.alloc (.cells cs'.toArray 260)) (.cells cs.toArray 260); rwa [World.size_alloc] at this
 have hm2:Mod N0 w w2:=by rw [← hw2]; exact ((Mod.refl _ w).alloc _).alloc _
 have HA:=hh (fun (W:World) (hW:Mod N0 w2 W)=>(hW.block _ (ltB hA) (fun q=>q)).trans hA)
 have HB:=hh (fun (W:World) (hW:Mod N0 w2 W)=>(hW.block _ (ltB hB) (fun q=>q)).trans hB)
 have HL:=hh (And.intro hl hl')
 have HM2:=hh hm2
 have HM:=hh (hm.tr hm2)
 clear hA hB hm2 hm hl hl' hfs hr h
 go_enter Tryz.func140,Tryz.ntmps140
 go_upto_region 1 with fail
 refine wp_region_lit ?_
 refine ex (v:=.pointer (some ⟨w.heap.size,0,none⟩)) ?_
 have s:w2.cell? ⟨w.heap.size,0,none⟩=some (.int .i64 n0):=(cellB (HA.out _ (Mod.refl N0 w2)) 0).trans (by rw [List.getElem?_toArray]; exact HU0.out.2)
 refine ex (v:=.int .i64 n0) ?_
 clear s
 refine ex (v:=.pointer (some ⟨w.heap.size+1,0,none⟩)) ?_
 have s:w2.cell? ⟨w.heap.size+1,0,none⟩=some (.int .i64 n0):=(cellB (HB.out _ (Mod.refl N0 w2)) 0).trans (by rw [List.getElem?_toArray]; exact HU0.out.1)
 refine ex (v:=.int .i64 n0) ?_
 clear s
 refine ex (v:=.bool true) ?_
 refine ex (v:=.bool true) ?_
 refine eg (v:=.pointer (some ⟨w.heap.size,1,none⟩)) ?_
 have s:w2.cell? ⟨w.heap.size,1,none⟩=some (.int .i64 n1):=(cellB (HA.out _ (Mod.refl N0 w2)) 1).trans (by rw [List.getElem?_toArray]; exact HU1.out.2)
 refine eg (v:=.int .i64 n1) ?_
 clear s
 refine eg (v:=.pointer (some ⟨w.heap.size+1,1,none⟩)) ?_
 have s:w2.cell? ⟨w.heap.size+1,1,none⟩=some (.int .i64 n1):=(cellB (HB.out _ (Mod.refl N0 w2)) 1).trans (by rw [List.getElem?_toArray]; exact HU1.out.1)
 refine eg (v:=.int .i64 n1) ?_
 clear s
 refine eg (v:=.bool true) ?_
 refine ex (v:=.bool true) ?_
 refine ex (v:=.bool true) ?_
 refine eg (v:=.pointer (some ⟨w.heap.size,2,none⟩)) ?_
 have s:w2.cell? ⟨w.heap.size,2,none⟩=some (.int .u64 n2):=(cellB (HA.out _ (Mod.refl N0 w2)) 2).trans (by rw [List.getElem?_toArray]; exact HU2.out.2)
 refine eg (v:=.int .u64 n2) ?_
 clear s
 refine eg (v:=.pointer (some ⟨w.heap.size+1,2,none⟩)) ?_
 have s:w2.cell? ⟨w.heap.size+1,2,none⟩=some (.int .u64 n2):=(cellB (HB.out _ (Mod.refl N0 w2)) 2).trans (by rw [List.getElem?_toArray]; exact HU2.out.1)
 refine eg (v:=.int .u64 n2) ?_
 clear s
 refine eg (v:=.bool true) ?_
 refine ex (v:=.bool true) ?_
 refine ex (v:=.bool true) ?_
 refine eg (v:=.pointer (some ⟨w.heap.size,3,none⟩)) ?_
 refine gx (exec_load_pt _ _ 69 _ rfl ⟨w.heap.size,3,none⟩ rfl (load_box (HA.out _ (Mod.refl N0 w2)) 69 3 1 _ Tryz.underlying69 rfl zs69 (by have:=HL.out.2; omega))) ?_
 refine eg (v:=.pointer (some ⟨w.heap.size+1,3,none⟩)) ?_
 refine gx (exec_load_pt _ _ 69 _ rfl ⟨w.heap.size+1,3,none⟩ rfl (load_box (HB.out _ (Mod.refl N0 w2)) 69 3 1 _ Tryz.underlying69 rfl zs69 (by have:=HL.out.1; omega))) ?_
 go_wp2_with fail
 refine (sameTerm _ _ HE3.out.1 HE3.out.2 w2 (HM.out.tr (Mod.refl N0 w2))).mono ?_
 rintro e v1 ⟨rfl,hm1⟩
 rename_i hK
 refine hK _ _ ?_
 clear hK
 (try simp only [Act.put,ja,jb,jc])
 have HV1:=hh ((Mod.refl N0 w2).tr hm1)
 clear hm1
 refine ex (v:=.bool true) ?_
 refine ex (v:=.bool true) ?_
 go_wp2_with fail
 go_ret
 exact ⟨rfl,HM2.out.tr HV1.out⟩
set_option maxRecDepth 100000 in
set_option maxHeartbeats 1000000 in
theorem sameInstrs {N n:Nat} {w0 w1:World} {Q:Nat->Prop} (v v':Value) (hr:Rd w0 257 [v]) (h:EqX N w0 Q w1 n 257 [v] [v']) (w:World) (hm:Mod N0 w1 w):Calls Tryz.prog 173 #[v',v] w fun e w'=>e=.returned (.bool true)/\Mod N0 w w':=by
 obtain ⟨m,rfl,a,a',len,cap,cap',rfl,rfl,hel⟩:=h.slice rfl Tryz.underlying257 zc260
 obtain ⟨a2,len2,cap2,e2,hb,_,_⟩:=hr.slice Tryz.underlying257 zc260 (by omega)
 simp only [Value.slice.injEq] at e2
 obtain ⟨rfl,rfl,rfl⟩:=e2
 have hlen:=len_of_bytes hb zb260
 have HE:=hh hel
 have HM:=hh hm
 clear hel hm hr hb
 go_enter Tryz.func173,Tryz.ntmps173
 go_wp2_with fail
 go_loopw [5] (fun i wr=>∃ k:Nat,k<=len/\i=.int .i64 k/\Mod N0 w wr) (fun i _=>len - (intOf i).toNat)
 case atStart=>exact ⟨0,by omega,rfl,Mod.refl _ w⟩
 case round=>
  obtain ⟨k,hk,rfl,hmr⟩:=hrel
  have HMR:=hh hmr
  clear hmr
  by_cases hlt:k<len
  ·obtain ⟨L,off,ds,L',off',ds',rfl,rfl,hrd,_,hL,hL',_,hl,hl',hc,hc',he⟩:=HE.out k hlt
   have HA:=hh (fun (W:World) (hW:Mod N0 w W)=>(show (loadVar 260 ⟨L',off'+k * 4,none⟩).run Tryz.prog W=.ok (.agg ds'.toArray) W from by
    have:=load_mid (w:=W) (p:=off'+k * 4) (fun j u hu=>((HM.out.tr hW).cell (p:=⟨L',_,none⟩) hL' (fun q=>q)).trans (hc' j u hu)) 260 0 4 _ Tryz.underlying260 rfl zs260 (by omega)
    rw [List.drop_zero,List.take_of_length_le (by omega),Nat.add_zero] at this
    exact this))
   have HB:=hh (fun (W:World) (hW:Mod N0 w W)=>(show (loadVar 260 ⟨L,off+k * 4,none⟩).run Tryz.prog W=.ok (.agg ds.toArray) W from by
    have:=load_mid (w:=W) (p:=off+k * 4) (fun j u hu=>((HM.out.tr hW).cell (p:=⟨L,_,none⟩) hL (fun q=>q)).trans (hc j u hu)) 260 0 4 _ Tryz.underlying260 rfl zs260 (by omega)
    rw [List.drop_zero,List.take_of_length_le (by omega),Nat.add_zero] at this
    exact this))
   have HRD:=hh (And.intro hrd he)
   clear hrd hc hc' he hl hl' hL hL'
   go_upto_region 6 with fail
   refine wp_region_held_drew (S:=fun W=>Mod N0 w W) (by kernel_rfl) HMR.out.drew (fun hH=>?_)
   refine tq (i:=0) (oi:=⟨some 17,.move (.tmp 0),257, "same.go:350",#[],none⟩) (v:=.slice (some ⟨L',off',none⟩) len cap') hH ?_
   refine tq (i:=1) (oi:=⟨some 18,.move (.tmp 5),3, "same.go:350",#[],none⟩) (v:=.int .i64 k) hH ?_
   refine tq (i:=2) (oi:=⟨some 19,.indexAddr 257 (.tmp 17) (.tmp 18),0, "same.go:350",#[⟨0,.data⟩,⟨1,.data⟩],none⟩) (v:=.pointer (some ⟨L',off'+k * 4,none⟩)) hH ?_
   refine tk (i:=3) (oi:=⟨some 20,.load 260 (.tmp 19),260, "same.go:350",#[⟨2,.data⟩],none⟩) (v:=.agg ds'.toArray) hH (fun w' hSw=>by exact exec_load_pt _ _ 260 _ rfl ⟨L',off'+k * 4,none⟩ rfl (HA.out _ hSw)) ?_
   refine tq (i:=4) (oi:=⟨some 21,.move (.tmp 1),257, "same.go:350",#[],none⟩) (v:=.slice (some ⟨L,off,none⟩) len cap) hH ?_
   refine tq (i:=5) (oi:=⟨some 22,.move (.tmp 5),3, "same.go:350",#[],none⟩) (v:=.int .i64 k) hH ?_
   refine tq (i:=6) (oi:=⟨some 23,.indexAddr 257 (.tmp 21) (.tmp 22),0, "same.go:350",#[⟨4,.data⟩,⟨5,.data⟩],none⟩) (v:=.pointer (some ⟨L,off+k * 4,none⟩)) hH ?_
   refine tk (i:=7) (oi:=⟨some 24,.load 260 (.tmp 23),260, "same.go:350",#[⟨6,.data⟩],none⟩) (v:=.agg ds.toArray) hH (fun w' hSw=>by exact exec_load_pt _ _ 260 _ rfl ⟨L,off+k * 4,none⟩ rfl (HB.out _ hSw)) ?_
   refine tr (rs:=[8]) ?_
   refine AllReadyH.cons (o:=⟨some 25,.call {callee:=.value (.func 140),args:=#[.tmp 20,.tmp 24],argTypes:=#[260,260]},4, "same.go:350",#[⟨3,.data⟩,⟨7,.data⟩],none⟩) rfl (fun K hK=>?_) AllReadyH.nil
   go_simp
   refine (sameInstr _ _ HRD.out.1 HRD.out.2 wr.drew ((HM.out.tr HMR.out).drew)).mono ?_
   rintro e w9 ⟨rfl,hm9⟩
   have HM9:=hh ((HMR.out.drew).tr hm9)
   clear hm9
   refine hK.out _ _ HM9.out (fun hH=>?_)
   clear hK K
   (try simp only [Act.put,ja,jb,jc])
   refine tq (i:=9) (oi:=⟨some 26,.unOp .not 4 (.tmp 25),4, "same.go:350",#[⟨8,.data⟩],none⟩) (v:=.bool false) hH ?_
   refine wpAnyH_done (by kernel_rfl) ?_ _
   go_wp2_with fail
   go_roundw
   case rel=>exact ⟨k+1,by omega,rfl,HM9.out⟩
   case measure=>simp [intOf]; omega
  ·have e:k=len:=by omega
   subst e
   go_wp2_with fail
   go_ret
   exact ⟨rfl,HMR.out⟩
set_option maxRecDepth 100000 in
set_option maxHeartbeats 1000000 in
theorem sameProgram {N n:Nat} {w0 w1:World} {Q:Nat->Prop} (cs cs':List Value) (hr:Rd w0 264 cs) (h:EqX N w0 Q w1 n 264 cs cs') (w:World) (hm:Mod N0 w1 w):Calls Tryz.prog 142 #[.agg cs'.toArray,.agg cs.toArray] w fun e w'=>e=.returned (.bool true)/\Mod N0 w w':=by
 obtain ⟨m,rfl,hl,hl',hfs⟩:=h.struct rfl Tryz.underlying264
 rw [zc264] at hl hl'
 obtain ⟨u0,hu0,hru0⟩:=hr.cellAt Tryz.underlying264 0 rfl 3 0 rfl rfl zc3 zc264 (by omega)
 obtain ⟨n0,rfl,_⟩:=hru0.int Tryz.underlying3
 have hu0':cs'[0]?=some (.int .i64 n0):=flat_cell ((eqx_field hfs 0 rfl 3 0 1 rfl rfl zc3).flat rfl) hu0
 have HU0:=hh (And.intro hu0 hu0')
 clear hu0 hu0' hru0
 obtain ⟨u1,hu1,hru1⟩:=hr.cellAt Tryz.underlying264 1 rfl 257 1 rfl rfl zc257 zc264 (by omega)
 obtain ⟨u1',hu1'⟩:∃ u,cs'[1]?=some u:=⟨_,List.getElem?_eq_getElem (by omega)⟩
 have he1:EqX N w0 Q w1 m 257 [u1] [u1']:=by
  have:=eqx_field hfs 1 rfl 257 1 1 rfl rfl zc257
  rwa [take_one hu1,take_one hu1'] at this
 obtain ⟨_,_,a1,a1',l1,c1,c1',rfl,rfl,_⟩:=id (he1.slice rfl Tryz.underlying257 zc260)
 have HU1:=hh (And.intro hu1 hu1')
 have HE1:=hh (And.intro hru1 he1)
 clear hu1 hu1' hru1 he1
 obtain ⟨w2,hw2⟩:∃ w2,(w.alloc (.cells cs'.toArray 264)).alloc (.cells cs.toArray 264)=w2:=⟨_,rfl⟩
 have hA:w2.heap[w.heap.size]?=some (.cells cs'.toArray 264 (0,0)):=by rw [← hw2]; exact allocB (newB w _) _
 have hB:w2.heap[w.heap.size+1]?=some (.cells cs.toArray 264 (0,0)):=by
  rw [← hw2]; have:=newB (w.alloc (.cells cs'.toArray 264)) (.cells cs.toArray 264); rwa [World.size_alloc] at this
 have hm2:Mod N0 w w2:=by rw [← hw2]; exact ((Mod.refl _ w).alloc _).alloc _
 have HA:=hh (fun (W:World) (hW:Mod N0 w2 W)=>(hW.block _ (ltB hA) (fun q=>q)).trans hA)
 have HB:=hh (fun (W:World) (hW:Mod N0 w2 W)=>(hW.block _ (ltB hB) (fun q=>q)).trans hB)
 have HL:=hh (And.intro hl hl')
 have HM2:=hh hm2
 have HM:=hh (hm.tr hm2)
 clear hA hB hm2 hm hl hl' hfs hr h
 go_enter Tryz.func142,Tryz.ntmps142
 go_upto_region 1 with fail
 refine wp_region_lit ?_
 refine ex (v:=.pointer (some ⟨w.heap.size,0,none⟩)) ?_
 have s:w2.cell? ⟨w.heap.size,0,none⟩=some (.int .i64 n0):=(cellB (HA.out _ (Mod.refl N0 w2)) 0).trans (by rw [List.getElem?_toArray]; exact HU0.out.2)
 refine ex (v:=.int .i64 n0) ?_
 clear s
 refine ex (v:=.pointer (some ⟨w.heap.size+1,0,none⟩)) ?_
 have s:w2.cell? ⟨w.heap.size+1,0,none⟩=some (.int .i64 n0):=(cellB (HB.out _ (Mod.refl N0 w2)) 0).trans (by rw [List.getElem?_toArray]; exact HU0.out.1)
 refine ex (v:=.int .i64 n0) ?_
 clear s
 refine ex (v:=.bool true) ?_
 refine ex (v:=.bool true) ?_
 refine eg (v:=.pointer (some ⟨w.heap.size,1,none⟩)) ?_
 have s:w2.cell? ⟨w.heap.size,1,none⟩=some (.slice a1' l1 c1'):=(cellB (HA.out _ (Mod.refl N0 w2)) 1).trans (by rw [List.getElem?_toArray]; exact HU1.out.2)
 refine eg (v:=.slice a1' l1 c1') ?_
 clear s
 refine eg (v:=.pointer (some ⟨w.heap.size+1,1,none⟩)) ?_
 have s:w2.cell? ⟨w.heap.size+1,1,none⟩=some (.slice a1 l1 c1):=(cellB (HB.out _ (Mod.refl N0 w2)) 1).trans (by rw [List.getElem?_toArray]; exact HU1.out.1)
 refine eg (v:=.slice a1 l1 c1) ?_
 clear s
 go_wp2_with fail
 refine (sameInstrs _ _ HE1.out.1 HE1.out.2 w2 (HM.out.tr (Mod.refl N0 w2))).mono ?_
 rintro e v1 ⟨rfl,hm1⟩
 rename_i hK
 refine hK _ _ ?_
 clear hK
 (try simp only [Act.put,ja,jb,jc])
 have HV1:=hh ((Mod.refl N0 w2).tr hm1)
 clear hm1
 refine ex (v:=.bool true) ?_
 refine ex (v:=.bool true) ?_
 go_wp2_with fail
 go_ret
 exact ⟨rfl,HM2.out.tr HV1.out⟩
set_option maxRecDepth 100000 in
set_option maxHeartbeats 1000000 in
theorem samePrograms {N n:Nat} {w0 w1:World} {Q:Nat->Prop} (v v':Value) (hr:Rd w0 154 [v]) (h:EqX N w0 Q w1 n 154 [v] [v']) (w:World) (hm:Mod N0 w1 w):Calls Tryz.prog 123 #[v',v] w fun e w'=>e=.returned (.bool true)/\Mod N0 w w':=by
 obtain ⟨m,rfl,a,a',len,cap,cap',rfl,rfl,hel⟩:=h.slice rfl Tryz.underlying154 zc264
 obtain ⟨a2,len2,cap2,e2,hb,_,_⟩:=hr.slice Tryz.underlying154 zc264 (by omega)
 simp only [Value.slice.injEq] at e2
 obtain ⟨rfl,rfl,rfl⟩:=e2
 have hlen:=len_of_bytes hb zb264
 have HE:=hh hel
 have HM:=hh hm
 clear hel hm hr hb
 go_enter Tryz.func123,Tryz.ntmps123
 go_wp2_with fail
 go_loopw [5] (fun i wr=>∃ k:Nat,k<=len/\i=.int .i64 k/\Mod N0 w wr) (fun i _=>len - (intOf i).toNat)
 case atStart=>exact ⟨0,by omega,rfl,Mod.refl _ w⟩
 case round=>
  obtain ⟨k,hk,rfl,hmr⟩:=hrel
  have HMR:=hh hmr
  clear hmr
  by_cases hlt:k<len
  ·obtain ⟨L,off,ds,L',off',ds',rfl,rfl,hrd,_,hL,hL',_,hl,hl',hc,hc',he⟩:=HE.out k hlt
   have HA:=hh (fun (W:World) (hW:Mod N0 w W)=>(show (loadVar 264 ⟨L',off'+k * 2,none⟩).run Tryz.prog W=.ok (.agg ds'.toArray) W from by
    have:=load_mid (w:=W) (p:=off'+k * 2) (fun j u hu=>((HM.out.tr hW).cell (p:=⟨L',_,none⟩) hL' (fun q=>q)).trans (hc' j u hu)) 264 0 2 _ Tryz.underlying264 rfl zs264 (by omega)
    rw [List.drop_zero,List.take_of_length_le (by omega),Nat.add_zero] at this
    exact this))
   have HB:=hh (fun (W:World) (hW:Mod N0 w W)=>(show (loadVar 264 ⟨L,off+k * 2,none⟩).run Tryz.prog W=.ok (.agg ds.toArray) W from by
    have:=load_mid (w:=W) (p:=off+k * 2) (fun j u hu=>((HM.out.tr hW).cell (p:=⟨L,_,none⟩) hL (fun q=>q)).trans (hc j u hu)) 264 0 2 _ Tryz.underlying264 rfl zs264 (by omega)
    rw [List.drop_zero,List.take_of_length_le (by omega),Nat.add_zero] at this
    exact this))
   have HRD:=hh (And.intro hrd he)
   clear hrd hc hc' he hl hl' hL hL'
   go_upto_region 6 with fail
   refine wp_region_held_drew (S:=fun W=>Mod N0 w W) (by kernel_rfl) HMR.out.drew (fun hH=>?_)
   refine tq (i:=0) (oi:=⟨some 17,.move (.tmp 0),154, "same.go:382",#[],none⟩) (v:=.slice (some ⟨L',off',none⟩) len cap') hH ?_
   refine tq (i:=1) (oi:=⟨some 18,.move (.tmp 5),3, "same.go:382",#[],none⟩) (v:=.int .i64 k) hH ?_
   refine tq (i:=2) (oi:=⟨some 19,.indexAddr 154 (.tmp 17) (.tmp 18),0, "same.go:382",#[⟨0,.data⟩,⟨1,.data⟩],none⟩) (v:=.pointer (some ⟨L',off'+k * 2,none⟩)) hH ?_
   refine tk (i:=3) (oi:=⟨some 20,.load 264 (.tmp 19),264, "same.go:382",#[⟨2,.data⟩],none⟩) (v:=.agg ds'.toArray) hH (fun w' hSw=>by exact exec_load_pt _ _ 264 _ rfl ⟨L',off'+k * 2,none⟩ rfl (HA.out _ hSw)) ?_
   refine tq (i:=4) (oi:=⟨some 21,.move (.tmp 1),154, "same.go:382",#[],none⟩) (v:=.slice (some ⟨L,off,none⟩) len cap) hH ?_
   refine tq (i:=5) (oi:=⟨some 22,.move (.tmp 5),3, "same.go:382",#[],none⟩) (v:=.int .i64 k) hH ?_
   refine tq (i:=6) (oi:=⟨some 23,.indexAddr 154 (.tmp 21) (.tmp 22),0, "same.go:382",#[⟨4,.data⟩,⟨5,.data⟩],none⟩) (v:=.pointer (some ⟨L,off+k * 2,none⟩)) hH ?_
   refine tk (i:=7) (oi:=⟨some 24,.load 264 (.tmp 23),264, "same.go:382",#[⟨6,.data⟩],none⟩) (v:=.agg ds.toArray) hH (fun w' hSw=>by exact exec_load_pt _ _ 264 _ rfl ⟨L,off+k * 2,none⟩ rfl (HB.out _ hSw)) ?_
   refine tr (rs:=[8]) ?_
   refine AllReadyH.cons (o:=⟨some 25,.call {callee:=.value (.func 142),args:=#[.tmp 20,.tmp 24],argTypes:=#[264,264]},4, "same.go:382",#[⟨3,.data⟩,⟨7,.data⟩],none⟩) rfl (fun K hK=>?_) AllReadyH.nil
   go_simp
   refine (sameProgram _ _ HRD.out.1 HRD.out.2 wr.drew ((HM.out.tr HMR.out).drew)).mono ?_
   rintro e w9 ⟨rfl,hm9⟩
   have HM9:=hh ((HMR.out.drew).tr hm9)
   clear hm9
   refine hK.out _ _ HM9.out (fun hH=>?_)
   clear hK K
   (try simp only [Act.put,ja,jb,jc])
   refine tq (i:=9) (oi:=⟨some 26,.unOp .not 4 (.tmp 25),4, "same.go:382",#[⟨8,.data⟩],none⟩) (v:=.bool false) hH ?_
   refine wpAnyH_done (by kernel_rfl) ?_ _
   go_wp2_with fail
   go_roundw
   case rel=>exact ⟨k+1,by omega,rfl,HM9.out⟩
   case measure=>simp [intOf]; omega
  ·have e:k=len:=by omega
   subst e
   go_wp2_with fail
   go_ret
   exact ⟨rfl,HMR.out⟩
set_option maxRecDepth 100000 in
set_option maxHeartbeats 1000000 in
theorem sameRedeemer {N n:Nat} {w0 w1:World} {Q:Nat->Prop} (cs cs':List Value) (hr:Rd w0 269 cs) (h:EqX N w0 Q w1 n 269 cs cs') (w:World) (hm:Mod N0 w1 w):Calls Tryz.prog 144 #[.agg cs'.toArray,.agg cs.toArray] w fun e w'=>e=.returned (.bool true)/\Mod N0 w w':=by
 obtain ⟨m,rfl,hl,hl',hfs⟩:=h.struct rfl Tryz.underlying269
 rw [zc269] at hl hl'
 obtain ⟨u0,hu0,hru0⟩:=hr.cellAt Tryz.underlying269 0 rfl 267 0 rfl rfl zc267 zc269 (by omega)
 obtain ⟨n0,rfl,_⟩:=hru0.int Tryz.underlying267
 have hu0':cs'[0]?=some (.int .i64 n0):=flat_cell ((eqx_field hfs 0 rfl 267 0 1 rfl rfl zc267).flat rfl) hu0
 have HU0:=hh (And.intro hu0 hu0')
 clear hu0 hu0' hru0
 obtain ⟨u1,hu1,hru1⟩:=hr.cellAt Tryz.underlying269 1 rfl 3 1 rfl rfl zc3 zc269 (by omega)
 obtain ⟨n1,rfl,_⟩:=hru1.int Tryz.underlying3
 have hu1':cs'[1]?=some (.int .i64 n1):=flat_cell ((eqx_field hfs 1 rfl 3 1 1 rfl rfl zc3).flat rfl) hu1
 have HU1:=hh (And.intro hu1 hu1')
 clear hu1 hu1' hru1
 have HE2:=hh (And.intro (hr.fieldAt Tryz.underlying269 2 rfl 69 2 1 rfl rfl zc69) (show EqX N w0 Q w1 m 69 ((cs.drop 2).take 1) ((cs'.drop 2).take 1) from eqx_field hfs 2 rfl 69 2 1 rfl rfl zc69))
 have HF3:=hh (And.intro (hr.fieldAt Tryz.underlying269 3 rfl 23 3 2 rfl rfl zc23) (show (cs'.drop 3).take 2=(cs.drop 3).take 2 from (eqx_field hfs 3 rfl 23 3 2 rfl rfl zc23).flat rfl))
 obtain ⟨w2,hw2⟩:∃ w2,(w.alloc (.cells cs'.toArray 269)).alloc (.cells cs.toArray 269)=w2:=⟨_,rfl⟩
 have hA:w2.heap[w.heap.size]?=some (.cells cs'.toArray 269 (0,0)):=by rw [← hw2]; exact allocB (newB w _) _
 have hB:w2.heap[w.heap.size+1]?=some (.cells cs.toArray 269 (0,0)):=by
  rw [← hw2]; have:=newB (w.alloc (.cells cs'.toArray 269)) (.cells cs.toArray 269); rwa [World.size_alloc] at this
 have hm2:Mod N0 w w2:=by rw [← hw2]; exact ((Mod.refl _ w).alloc _).alloc _
 have HA:=hh (fun (W:World) (hW:Mod N0 w2 W)=>(hW.block _ (ltB hA) (fun q=>q)).trans hA)
 have HB:=hh (fun (W:World) (hW:Mod N0 w2 W)=>(hW.block _ (ltB hB) (fun q=>q)).trans hB)
 have HL:=hh (And.intro hl hl')
 have HM2:=hh hm2
 have HM:=hh (hm.tr hm2)
 clear hA hB hm2 hm hl hl' hfs hr h
 go_enter Tryz.func144,Tryz.ntmps144
 go_upto_region 1 with fail
 refine wp_region_lit ?_
 refine ex (v:=.pointer (some ⟨w.heap.size,0,none⟩)) ?_
 have s:w2.cell? ⟨w.heap.size,0,none⟩=some (.int .i64 n0):=(cellB (HA.out _ (Mod.refl N0 w2)) 0).trans (by rw [List.getElem?_toArray]; exact HU0.out.2)
 refine ex (v:=.int .i64 n0) ?_
 clear s
 refine ex (v:=.pointer (some ⟨w.heap.size+1,0,none⟩)) ?_
 have s:w2.cell? ⟨w.heap.size+1,0,none⟩=some (.int .i64 n0):=(cellB (HB.out _ (Mod.refl N0 w2)) 0).trans (by rw [List.getElem?_toArray]; exact HU0.out.1)
 refine ex (v:=.int .i64 n0) ?_
 clear s
 refine ex (v:=.bool true) ?_
 refine ex (v:=.bool true) ?_
 refine eg (v:=.pointer (some ⟨w.heap.size,1,none⟩)) ?_
 have s:w2.cell? ⟨w.heap.size,1,none⟩=some (.int .i64 n1):=(cellB (HA.out _ (Mod.refl N0 w2)) 1).trans (by rw [List.getElem?_toArray]; exact HU1.out.2)
 refine eg (v:=.int .i64 n1) ?_
 clear s
 refine eg (v:=.pointer (some ⟨w.heap.size+1,1,none⟩)) ?_
 have s:w2.cell? ⟨w.heap.size+1,1,none⟩=some (.int .i64 n1):=(cellB (HB.out _ (Mod.refl N0 w2)) 1).trans (by rw [List.getElem?_toArray]; exact HU1.out.1)
 refine eg (v:=.int .i64 n1) ?_
 clear s
 refine eg (v:=.bool true) ?_
 refine ex (v:=.bool true) ?_
 refine ex (v:=.bool true) ?_
 refine eg (v:=.pointer (some ⟨w.heap.size,2,none⟩)) ?_
 refine gx (exec_load_pt _ _ 69 _ rfl ⟨w.heap.size,2,none⟩ rfl (load_box (HA.out _ (Mod.refl N0 w2)) 69 2 1 _ Tryz.underlying69 rfl zs69 (by have:=HL.out.2; omega))) ?_
 refine eg (v:=.pointer (some ⟨w.heap.size+1,2,none⟩)) ?_
 refine gx (exec_load_pt _ _ 69 _ rfl ⟨w.heap.size+1,2,none⟩ rfl (load_box (HB.out _ (Mod.refl N0 w2)) 69 2 1 _ Tryz.underlying69 rfl zs69 (by have:=HL.out.1; omega))) ?_
 go_wp2_with fail
 refine (sameTerm _ _ HE2.out.1 HE2.out.2 w2 (HM.out.tr (Mod.refl N0 w2))).mono ?_
 rintro e v1 ⟨rfl,hm1⟩
 rename_i hK
 refine hK _ _ ?_
 clear hK
 (try simp only [Act.put,ja,jb,jc])
 have HV1:=hh ((Mod.refl N0 w2).tr hm1)
 clear hm1
 refine ex (v:=.bool true) ?_
 refine ex (v:=.bool true) ?_
 refine eg (v:=.pointer (some ⟨w.heap.size,3,none⟩)) ?_
 have hld:(loadVar 23 ⟨w.heap.size,3,none⟩).run Tryz.prog v1=.ok (.agg ((cs.drop 3).take 2).toArray) v1:=by
  have:=load_box (HA.out _ HV1.out) 23 3 2 _ Tryz.underlying23 rfl zs23 (by have:=HL.out.2; omega)
  rw [HF3.out.2] at this
  exact this
 refine gx (exec_load_pt _ _ 23 _ rfl ⟨w.heap.size,3,none⟩ rfl hld) ?_
 clear hld
 refine eg (v:=.pointer (some ⟨w.heap.size+1,3,none⟩)) ?_
 have hld:(loadVar 23 ⟨w.heap.size+1,3,none⟩).run Tryz.prog v1=.ok (.agg ((cs.drop 3).take 2).toArray) v1:=by
  have:=load_box (HB.out _ HV1.out) 23 3 2 _ Tryz.underlying23 rfl zs23 (by have:=HL.out.1; omega)
  exact this
 refine gx (exec_load_pt _ _ 23 _ rfl ⟨w.heap.size+1,3,none⟩ rfl hld) ?_
 clear hld
 refine gx (exec_eql_same _ _ rfl (ds:=(cs.drop 3).take 2) rfl rfl 2 (by omega) kt23 (formed23 (by have:=HL.out.1; simp; omega)) gt23 HF3.out.1) ?_
 refine ex (v:=.bool true) ?_
 refine ex (v:=.bool true) ?_
 go_wp2_with fail
 go_ret
 exact ⟨rfl,HM2.out.tr HV1.out⟩
set_option maxRecDepth 100000 in
set_option maxHeartbeats 1000000 in
theorem sameRedeemers {N n:Nat} {w0 w1:World} {Q:Nat->Prop} (v v':Value) (hr:Rd w0 156 [v]) (h:EqX N w0 Q w1 n 156 [v] [v']) (w:World) (hm:Mod N0 w1 w):Calls Tryz.prog 125 #[v',v] w fun e w'=>e=.returned (.bool true)/\Mod N0 w w':=by
 obtain ⟨m,rfl,a,a',len,cap,cap',rfl,rfl,hel⟩:=h.slice rfl Tryz.underlying156 zc269
 obtain ⟨a2,len2,cap2,e2,hb,_,_⟩:=hr.slice Tryz.underlying156 zc269 (by omega)
 simp only [Value.slice.injEq] at e2
 obtain ⟨rfl,rfl,rfl⟩:=e2
 have hlen:=len_of_bytes hb zb269
 have HE:=hh hel
 have HM:=hh hm
 clear hel hm hr hb
 go_enter Tryz.func125,Tryz.ntmps125
 go_wp2_with fail
 go_loopw [5] (fun i wr=>∃ k:Nat,k<=len/\i=.int .i64 k/\Mod N0 w wr) (fun i _=>len - (intOf i).toNat)
 case atStart=>exact ⟨0,by omega,rfl,Mod.refl _ w⟩
 case round=>
  obtain ⟨k,hk,rfl,hmr⟩:=hrel
  have HMR:=hh hmr
  clear hmr
  by_cases hlt:k<len
  ·obtain ⟨L,off,ds,L',off',ds',rfl,rfl,hrd,_,hL,hL',_,hl,hl',hc,hc',he⟩:=HE.out k hlt
   have HA:=hh (fun (W:World) (hW:Mod N0 w W)=>(show (loadVar 269 ⟨L',off'+k * 5,none⟩).run Tryz.prog W=.ok (.agg ds'.toArray) W from by
    have:=load_mid (w:=W) (p:=off'+k * 5) (fun j u hu=>((HM.out.tr hW).cell (p:=⟨L',_,none⟩) hL' (fun q=>q)).trans (hc' j u hu)) 269 0 5 _ Tryz.underlying269 rfl zs269 (by omega)
    rw [List.drop_zero,List.take_of_length_le (by omega),Nat.add_zero] at this
    exact this))
   have HB:=hh (fun (W:World) (hW:Mod N0 w W)=>(show (loadVar 269 ⟨L,off+k * 5,none⟩).run Tryz.prog W=.ok (.agg ds.toArray) W from by
    have:=load_mid (w:=W) (p:=off+k * 5) (fun j u hu=>((HM.out.tr hW).cell (p:=⟨L,_,none⟩) hL (fun q=>q)).trans (hc j u hu)) 269 0 5 _ Tryz.underlying269 rfl zs269 (by omega)
    rw [List.drop_zero,List.take_of_length_le (by omega),Nat.add_zero] at this
    exact this))
   have HRD:=hh (And.intro hrd he)
   clear hrd hc hc' he hl hl' hL hL'
   go_upto_region 6 with fail
   refine wp_region_held_drew (S:=fun W=>Mod N0 w W) (by kernel_rfl) HMR.out.drew (fun hH=>?_)
   refine tq (i:=0) (oi:=⟨some 17,.move (.tmp 0),156, "same.go:414",#[],none⟩) (v:=.slice (some ⟨L',off',none⟩) len cap') hH ?_
   refine tq (i:=1) (oi:=⟨some 18,.move (.tmp 5),3, "same.go:414",#[],none⟩) (v:=.int .i64 k) hH ?_
   refine tq (i:=2) (oi:=⟨some 19,.indexAddr 156 (.tmp 17) (.tmp 18),0, "same.go:414",#[⟨0,.data⟩,⟨1,.data⟩],none⟩) (v:=.pointer (some ⟨L',off'+k * 5,none⟩)) hH ?_
   refine tk (i:=3) (oi:=⟨some 20,.load 269 (.tmp 19),269, "same.go:414",#[⟨2,.data⟩],none⟩) (v:=.agg ds'.toArray) hH (fun w' hSw=>by exact exec_load_pt _ _ 269 _ rfl ⟨L',off'+k * 5,none⟩ rfl (HA.out _ hSw)) ?_
   refine tq (i:=4) (oi:=⟨some 21,.move (.tmp 1),156, "same.go:414",#[],none⟩) (v:=.slice (some ⟨L,off,none⟩) len cap) hH ?_
   refine tq (i:=5) (oi:=⟨some 22,.move (.tmp 5),3, "same.go:414",#[],none⟩) (v:=.int .i64 k) hH ?_
   refine tq (i:=6) (oi:=⟨some 23,.indexAddr 156 (.tmp 21) (.tmp 22),0, "same.go:414",#[⟨4,.data⟩,⟨5,.data⟩],none⟩) (v:=.pointer (some ⟨L,off+k * 5,none⟩)) hH ?_
   refine tk (i:=7) (oi:=⟨some 24,.load 269 (.tmp 23),269, "same.go:414",#[⟨6,.data⟩],none⟩) (v:=.agg ds.toArray) hH (fun w' hSw=>by exact exec_load_pt _ _ 269 _ rfl ⟨L,off+k * 5,none⟩ rfl (HB.out _ hSw)) ?_
   refine tr (rs:=[8]) ?_
   refine AllReadyH.cons (o:=⟨some 25,.call {callee:=.value (.func 144),args:=#[.tmp 20,.tmp 24],argTypes:=#[269,269]},4, "same.go:414",#[⟨3,.data⟩,⟨7,.data⟩],none⟩) rfl (fun K hK=>?_) AllReadyH.nil
   go_simp
   refine (sameRedeemer _ _ HRD.out.1 HRD.out.2 wr.drew ((HM.out.tr HMR.out).drew)).mono ?_
   rintro e w9 ⟨rfl,hm9⟩
   have HM9:=hh ((HMR.out.drew).tr hm9)
   clear hm9
   refine hK.out _ _ HM9.out (fun hH=>?_)
   clear hK K
   (try simp only [Act.put,ja,jb,jc])
   refine tq (i:=9) (oi:=⟨some 26,.unOp .not 4 (.tmp 25),4, "same.go:414",#[⟨8,.data⟩],none⟩) (v:=.bool false) hH ?_
   refine wpAnyH_done (by kernel_rfl) ?_ _
   go_wp2_with fail
   go_roundw
   case rel=>exact ⟨k+1,by omega,rfl,HM9.out⟩
   case measure=>simp [intOf]; omega
  ·have e:k=len:=by omega
   subst e
   go_wp2_with fail
   go_ret
   exact ⟨rfl,HMR.out⟩
set_option maxRecDepth 100000 in
set_option maxHeartbeats 1000000 in
theorem sameSignature {N n:Nat} {w0 w1:World} {Q:Nat->Prop} (cs cs':List Value) (hr:Rd w0 275 cs) (h:EqX N w0 Q w1 n 275 cs cs') (w:World) (hm:Mod N0 w1 w):Calls Tryz.prog 147 #[.agg cs'.toArray,.agg cs.toArray] w fun e w'=>e=.returned (.bool true)/\Mod N0 w w':=by
 obtain ⟨m,rfl,hl,hl',hfs⟩:=h.struct rfl Tryz.underlying275
 rw [zc275] at hl hl'
 obtain ⟨u0,hu0,hru0⟩:=hr.cellAt Tryz.underlying275 0 rfl 248 0 rfl rfl zc248 zc275 (by omega)
 obtain ⟨u0',hu0'⟩:∃ u,cs'[0]?=some u:=⟨_,List.getElem?_eq_getElem (by omega)⟩
 have he0:EqX N w0 Q w1 m 248 [u0] [u0']:=by
  have:=eqx_field hfs 0 rfl 248 0 1 rfl rfl zc248
  rwa [take_one hu0,take_one hu0'] at this
 obtain ⟨_,_,a0,a0',l0,c0,c0',rfl,rfl,_⟩:=id (he0.slice rfl Tryz.underlying248 zc27)
 have HU0:=hh (And.intro hu0 hu0')
 have HE0:=hh (And.intro hru0 he0)
 clear hu0 hu0' hru0 he0
 obtain ⟨w2,hw2⟩:∃ w2,(w.alloc (.cells cs'.toArray 275)).alloc (.cells cs.toArray 275)=w2:=⟨_,rfl⟩
 have hA:w2.heap[w.heap.size]?=some (.cells cs'.toArray 275 (0,0)):=by rw [← hw2]; exact allocB (newB w _) _
 have hB:w2.heap[w.heap.size+1]?=some (.cells cs.toArray 275 (0,0)):=by
  rw [← hw2]; have:=newB (w.alloc (.cells cs'.toArray 275)) (.cells cs.toArray 275); rwa [World.size_alloc] at this
 have hm2:Mod N0 w w2:=by rw [← hw2]; exact ((Mod.refl _ w).alloc _).alloc _
 have HA:=hh (fun (W:World) (hW:Mod N0 w2 W)=>(hW.block _ (ltB hA) (fun q=>q)).trans hA)
 have HB:=hh (fun (W:World) (hW:Mod N0 w2 W)=>(hW.block _ (ltB hB) (fun q=>q)).trans hB)
 have HL:=hh (And.intro hl hl')
 have HM2:=hh hm2
 have HM:=hh (hm.tr hm2)
 clear hA hB hm2 hm hl hl' hfs hr h
 go_enter Tryz.func147,Tryz.ntmps147
 go_upto_region 1 with fail
 refine wp_region_lit ?_
 refine ex (v:=.pointer (some ⟨w.heap.size,0,none⟩)) ?_
 have s:w2.cell? ⟨w.heap.size,0,none⟩=some (.slice a0' l0 c0'):=(cellB (HA.out _ (Mod.refl N0 w2)) 0).trans (by rw [List.getElem?_toArray]; exact HU0.out.2)
 refine ex (v:=.slice a0' l0 c0') ?_
 clear s
 refine ex (v:=.pointer (some ⟨w.heap.size+1,0,none⟩)) ?_
 have s:w2.cell? ⟨w.heap.size+1,0,none⟩=some (.slice a0 l0 c0):=(cellB (HB.out _ (Mod.refl N0 w2)) 0).trans (by rw [List.getElem?_toArray]; exact HU0.out.1)
 refine ex (v:=.slice a0 l0 c0) ?_
 clear s
 go_wp2_with fail
 refine (sameHashes _ _ HE0.out.1 HE0.out.2 w2 (HM.out.tr (Mod.refl N0 w2))).mono ?_
 rintro e v1 ⟨rfl,hm1⟩
 rename_i hK
 refine hK _ _ ?_
 clear hK
 (try simp only [Act.put,ja,jb,jc])
 have HV1:=hh ((Mod.refl N0 w2).tr hm1)
 clear hm1
 refine ex (v:=.bool true) ?_
 go_wp2_with fail
 go_ret
 exact ⟨rfl,HM2.out.tr HV1.out⟩
set_option maxRecDepth 100000 in
set_option maxHeartbeats 1000000 in
theorem sameSignatures {N n:Nat} {w0 w1:World} {Q:Nat->Prop} (v v':Value) (hr:Rd w0 153 [v]) (h:EqX N w0 Q w1 n 153 [v] [v']) (w:World) (hm:Mod N0 w1 w):Calls Tryz.prog 122 #[v',v] w fun e w'=>e=.returned (.bool true)/\Mod N0 w w':=by
 obtain ⟨m,rfl,a,a',len,cap,cap',rfl,rfl,hel⟩:=h.slice rfl Tryz.underlying153 zc275
 obtain ⟨a2,len2,cap2,e2,hb,_,_⟩:=hr.slice Tryz.underlying153 zc275 (by omega)
 simp only [Value.slice.injEq] at e2
 obtain ⟨rfl,rfl,rfl⟩:=e2
 have hlen:=len_of_bytes hb zb275
 have HE:=hh hel
 have HM:=hh hm
 clear hel hm hr hb
 go_enter Tryz.func122,Tryz.ntmps122
 go_wp2_with fail
 go_loopw [5] (fun i wr=>∃ k:Nat,k<=len/\i=.int .i64 k/\Mod N0 w wr) (fun i _=>len - (intOf i).toNat)
 case atStart=>exact ⟨0,by omega,rfl,Mod.refl _ w⟩
 case round=>
  obtain ⟨k,hk,rfl,hmr⟩:=hrel
  have HMR:=hh hmr
  clear hmr
  by_cases hlt:k<len
  ·obtain ⟨L,off,ds,L',off',ds',rfl,rfl,hrd,_,hL,hL',_,hl,hl',hc,hc',he⟩:=HE.out k hlt
   have HA:=hh (fun (W:World) (hW:Mod N0 w W)=>(show (loadVar 275 ⟨L',off'+k,none⟩).run Tryz.prog W=.ok (.agg ds'.toArray) W from by
    have:=load_mid (w:=W) (p:=off'+k * 1) (fun j u hu=>((HM.out.tr hW).cell (p:=⟨L',_,none⟩) hL' (fun q=>q)).trans (hc' j u hu)) 275 0 1 _ Tryz.underlying275 rfl zs275 (by omega)
    rw [List.drop_zero,List.take_of_length_le (by omega),Nat.add_zero] at this; simp only [Nat.mul_one] at this
    exact this))
   have HB:=hh (fun (W:World) (hW:Mod N0 w W)=>(show (loadVar 275 ⟨L,off+k,none⟩).run Tryz.prog W=.ok (.agg ds.toArray) W from by
    have:=load_mid (w:=W) (p:=off+k * 1) (fun j u hu=>((HM.out.tr hW).cell (p:=⟨L,_,none⟩) hL (fun q=>q)).trans (hc j u hu)) 275 0 1 _ Tryz.underlying275 rfl zs275 (by omega)
    rw [List.drop_zero,List.take_of_length_le (by omega),Nat.add_zero] at this; simp only [Nat.mul_one] at this
    exact this))
   have HRD:=hh (And.intro hrd he)
   clear hrd hc hc' he hl hl' hL hL'
   go_upto_region 6 with fail
   refine wp_region_held_drew (S:=fun W=>Mod N0 w W) (by kernel_rfl) HMR.out.drew (fun hH=>?_)
   refine tq (i:=0) (oi:=⟨some 17,.move (.tmp 0),153, "same.go:482",#[],none⟩) (v:=.slice (some ⟨L',off',none⟩) len cap') hH ?_
   refine tq (i:=1) (oi:=⟨some 18,.move (.tmp 5),3, "same.go:482",#[],none⟩) (v:=.int .i64 k) hH ?_
   refine tq (i:=2) (oi:=⟨some 19,.indexAddr 153 (.tmp 17) (.tmp 18),0, "same.go:482",#[⟨0,.data⟩,⟨1,.data⟩],none⟩) (v:=.pointer (some ⟨L',off'+k,none⟩)) hH ?_
   refine tk (i:=3) (oi:=⟨some 20,.load 275 (.tmp 19),275, "same.go:482",#[⟨2,.data⟩],none⟩) (v:=.agg ds'.toArray) hH (fun w' hSw=>by exact exec_load_pt _ _ 275 _ rfl ⟨L',off'+k,none⟩ rfl (HA.out _ hSw)) ?_
   refine tq (i:=4) (oi:=⟨some 21,.move (.tmp 1),153, "same.go:482",#[],none⟩) (v:=.slice (some ⟨L,off,none⟩) len cap) hH ?_
   refine tq (i:=5) (oi:=⟨some 22,.move (.tmp 5),3, "same.go:482",#[],none⟩) (v:=.int .i64 k) hH ?_
   refine tq (i:=6) (oi:=⟨some 23,.indexAddr 153 (.tmp 21) (.tmp 22),0, "same.go:482",#[⟨4,.data⟩,⟨5,.data⟩],none⟩) (v:=.pointer (some ⟨L,off+k,none⟩)) hH ?_
   refine tk (i:=7) (oi:=⟨some 24,.load 275 (.tmp 23),275, "same.go:482",#[⟨6,.data⟩],none⟩) (v:=.agg ds.toArray) hH (fun w' hSw=>by exact exec_load_pt _ _ 275 _ rfl ⟨L,off+k,none⟩ rfl (HB.out _ hSw)) ?_
   refine tr (rs:=[8]) ?_
   refine AllReadyH.cons (o:=⟨some 25,.call {callee:=.value (.func 147),args:=#[.tmp 20,.tmp 24],argTypes:=#[275,275]},4, "same.go:482",#[⟨3,.data⟩,⟨7,.data⟩],none⟩) rfl (fun K hK=>?_) AllReadyH.nil
   go_simp
   refine (sameSignature _ _ HRD.out.1 HRD.out.2 wr.drew ((HM.out.tr HMR.out).drew)).mono ?_
   rintro e w9 ⟨rfl,hm9⟩
   have HM9:=hh ((HMR.out.drew).tr hm9)
   clear hm9
   refine hK.out _ _ HM9.out (fun hH=>?_)
   clear hK K
   (try simp only [Act.put,ja,jb,jc])
   refine tq (i:=9) (oi:=⟨some 26,.unOp .not 4 (.tmp 25),4, "same.go:482",#[⟨8,.data⟩],none⟩) (v:=.bool false) hH ?_
   refine wpAnyH_done (by kernel_rfl) ?_ _
   go_wp2_with fail
   go_roundw
   case rel=>exact ⟨k+1,by omega,rfl,HM9.out⟩
   case measure=>simp [intOf]; omega
  ·have e:k=len:=by omega
   subst e
   go_wp2_with fail
   go_ret
   exact ⟨rfl,HMR.out⟩
end Go.Proofs.YtckcamlicgdklaaGreat
