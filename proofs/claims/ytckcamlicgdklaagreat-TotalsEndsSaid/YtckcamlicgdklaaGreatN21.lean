/- The Same functions of terms, bundles, outputs, entries. -/
import Derived.Test.YtckcamlicgdklaaGreatN05
import Derived.Test.YtckcamlicgdklaaGreatN20
namespace Go.Proofs.YtckcamlicgdklaaGreat
open Go.RowKit Go.Mo
theorem eqx_field {N n:Nat} {w0 w:World} {Q:Nat->Prop} {cs cs':List Value} {fs:Array Field} (hfs:∀ (i:Nat) (f:Field),fs[i]?=some f->Eqv Tryz.prog deepT N (Rd w0) Q w n f.type ((cs.drop f.offset).take (Tryz.prog.cellsOf f.type)) ((cs'.drop f.offset).take (Tryz.prog.cellsOf f.type))) (i:Nat) {f:Field} (hf:fs[i]?=some f) (ft:TypeId) (o m:Nat) (h1:f.type=ft) (h2:f.offset=o) (h3:Tryz.prog.cellsOf ft=m) :
  EqX N w0 Q w n ft ((cs.drop o).take m) ((cs'.drop o).take m):=by
 have:=hfs i f hf
 rwa [h1,h2,h3] at this
theorem take_one {cs:List Value} {o:Nat} {v:Value} (h:cs[o]?=some v):(cs.drop o).take 1=[v]:=by
 obtain ⟨hlt,rfl⟩:=List.getElem?_eq_some_iff.1 h
 rw [List.drop_eq_getElem_cons hlt]; rfl
theorem flat_cell {cs cs':List Value} {o:Nat} {v:Value} (h:(cs'.drop o).take 1=(cs.drop o).take 1) (hv:cs[o]?=some v):cs'[o]?=some v:=by
 have h1:((cs'.drop o).take 1)[0]?=((cs.drop o).take 1)[0]?:=by rw [h]
 simpa [List.getElem?_take,List.getElem?_drop,hv] using h1
set_option maxRecDepth 100000 in
set_option maxHeartbeats 1000000 in
theorem sameTerm {N n:Nat} {w0 w1:World} {Q:Nat->Prop} (cs cs':List Value) (hr:Rd w0 69 cs) (h:EqX N w0 Q w1 n 69 cs cs') (w:World) (hm:Mod N0 w1 w):Calls Tryz.prog 70 #[.agg cs'.toArray,.agg cs.toArray] w fun e w'=>e=.returned (.bool true)/\Mod N0 w w':=by
 obtain ⟨m,rfl,hl,hl',hfs⟩:=h.struct rfl Tryz.underlying69
 rw [zc69] at hl hl'
 obtain ⟨u0,hu0,hru0⟩:=hr.cellAt Tryz.underlying69 0 rfl 67 0 rfl rfl zc67 zc69 (by omega)
 obtain ⟨u0',hu0'⟩:∃ u,cs'[0]?=some u:=⟨_,List.getElem?_eq_getElem (by omega)⟩
 have he0:EqX N w0 Q w1 m 67 [u0] [u0']:=by
  have:=eqx_field hfs 0 rfl 67 0 1 rfl rfl zc67
  rwa [take_one hu0,take_one hu0'] at this
 obtain ⟨_,_,a0,a0',l0,c0,c0',rfl,rfl,_⟩:=id (he0.slice rfl Tryz.underlying67 zc212)
 have HU0:=hh (And.intro hu0 hu0')
 have HE0:=hh (And.intro hru0 he0)
 clear hu0 hu0' hru0 he0
 obtain ⟨w2,hw2⟩:∃ w2,(w.alloc (.cells cs'.toArray 69)).alloc (.cells cs.toArray 69)=w2:=⟨_,rfl⟩
 have hA:w2.heap[w.heap.size]?=some (.cells cs'.toArray 69 (0,0)):=by rw [← hw2]; exact allocB (newB w _) _
 have hB:w2.heap[w.heap.size+1]?=some (.cells cs.toArray 69 (0,0)):=by
  rw [← hw2]; have:=newB (w.alloc (.cells cs'.toArray 69)) (.cells cs.toArray 69); rwa [World.size_alloc] at this
 have hm2:Mod N0 w w2:=by rw [← hw2]; exact ((Mod.refl _ w).alloc _).alloc _
 have HA:=hh (fun (W:World) (hW:Mod N0 w2 W)=>(hW.block _ (ltB hA) (fun q=>q)).trans hA)
 have HB:=hh (fun (W:World) (hW:Mod N0 w2 W)=>(hW.block _ (ltB hB) (fun q=>q)).trans hB)
 have HL:=hh (And.intro hl hl')
 have HM2:=hh hm2
 have HM:=hh (hm.tr hm2)
 clear hA hB hm2 hm hl hl' hfs hr h
 go_enter Tryz.func70,Tryz.ntmps70
 go_upto_region 1 with fail
 refine wp_region_lit ?_
 refine ex (v:=.pointer (some ⟨w.heap.size,0,none⟩)) ?_
 have s:w2.cell? ⟨w.heap.size,0,none⟩=some (.slice a0' l0 c0'):=(cellB (HA.out _ (Mod.refl N0 w2)) 0).trans (by rw [List.getElem?_toArray]; exact HU0.out.2)
 refine ex (v:=.slice a0' l0 c0') ?_
 clear s
 refine ex (v:=.pointer (some ⟨w.heap.size+1,0,none⟩)) ?_
 have s:w2.cell? ⟨w.heap.size+1,0,none⟩=some (.slice a0 l0 c0):=(cellB (HB.out _ (Mod.refl N0 w2)) 0).trans (by rw [List.getElem?_toArray]; exact HU0.out.1)
 refine ex (v:=.slice a0 l0 c0) ?_
 clear s
 go_wp2_with fail
 refine (sameNodes _ _ HE0.out.1 HE0.out.2 w2 (HM.out.tr (Mod.refl N0 w2))).mono ?_
 rintro e v1 ⟨rfl,hm1⟩
 rename_i hK
 refine hK _ _ ?_
 clear hK
 (try simp only [Act.put,ja,jb,jc])
 have HV1:=hh ((Mod.refl N0 w2).tr hm1)
 clear hm1
 refine ex (v:=.bool true) ?_
 go_wp2_with fail
 go_ret
 exact ⟨rfl,HM2.out.tr HV1.out⟩
set_option maxRecDepth 100000 in
set_option maxHeartbeats 1000000 in
theorem sameTerms {N n:Nat} {w0 w1:World} {Q:Nat->Prop} (v v':Value) (hr:Rd w0 155 [v]) (h:EqX N w0 Q w1 n 155 [v] [v']) (w:World) (hm:Mod N0 w1 w):Calls Tryz.prog 124 #[v',v] w fun e w'=>e=.returned (.bool true)/\Mod N0 w w':=by
 obtain ⟨m,rfl,a,a',len,cap,cap',rfl,rfl,hel⟩:=h.slice rfl Tryz.underlying155 zc69
 obtain ⟨a2,len2,cap2,e2,hb,_,_⟩:=hr.slice Tryz.underlying155 zc69 (by omega)
 simp only [Value.slice.injEq] at e2
 obtain ⟨rfl,rfl,rfl⟩:=e2
 have hlen:=len_of_bytes hb zb69
 have HE:=hh hel
 have HM:=hh hm
 clear hel hm hr hb
 go_enter Tryz.func124,Tryz.ntmps124
 go_wp2_with fail
 go_loopw [5] (fun i wr=>∃ k:Nat,k<=len/\i=.int .i64 k/\Mod N0 w wr) (fun i _=>len - (intOf i).toNat)
 case atStart=>exact ⟨0,by omega,rfl,Mod.refl _ w⟩
 case round=>
  obtain ⟨k,hk,rfl,hmr⟩:=hrel
  have HMR:=hh hmr
  clear hmr
  by_cases hlt:k<len
  ·obtain ⟨L,off,ds,L',off',ds',rfl,rfl,hrd,_,hL,hL',_,hl,hl',hc,hc',he⟩:=HE.out k hlt
   have HA:=hh (fun (W:World) (hW:Mod N0 w W)=>(show (loadVar 69 ⟨L',off'+k,none⟩).run Tryz.prog W=.ok (.agg ds'.toArray) W from by
    have:=load_mid (w:=W) (p:=off'+k * 1) (fun j u hu=>((HM.out.tr hW).cell (p:=⟨L',_,none⟩) hL' (fun q=>q)).trans (hc' j u hu)) 69 0 1 _ Tryz.underlying69 rfl zs69 (by omega)
    rw [List.drop_zero,List.take_of_length_le (by omega),Nat.add_zero] at this; simp only [Nat.mul_one] at this
    exact this))
   have HB:=hh (fun (W:World) (hW:Mod N0 w W)=>(show (loadVar 69 ⟨L,off+k,none⟩).run Tryz.prog W=.ok (.agg ds.toArray) W from by
    have:=load_mid (w:=W) (p:=off+k * 1) (fun j u hu=>((HM.out.tr hW).cell (p:=⟨L,_,none⟩) hL (fun q=>q)).trans (hc j u hu)) 69 0 1 _ Tryz.underlying69 rfl zs69 (by omega)
    rw [List.drop_zero,List.take_of_length_le (by omega),Nat.add_zero] at this; simp only [Nat.mul_one] at this
    exact this))
   have HRD:=hh (And.intro hrd he)
   clear hrd hc hc' he hl hl' hL hL'
   go_upto_region 6 with fail
   refine wp_region_held_drew (S:=fun W=>Mod N0 w W) (by kernel_rfl) HMR.out.drew (fun hH=>?_)
   refine tq (i:=0) (oi:=⟨some 17,.move (.tmp 0),155, "same.go:185",#[],none⟩) (v:=.slice (some ⟨L',off',none⟩) len cap') hH ?_
   refine tq (i:=1) (oi:=⟨some 18,.move (.tmp 5),3, "same.go:185",#[],none⟩) (v:=.int .i64 k) hH ?_
   refine tq (i:=2) (oi:=⟨some 19,.indexAddr 155 (.tmp 17) (.tmp 18),0, "same.go:185",#[⟨0,.data⟩,⟨1,.data⟩],none⟩) (v:=.pointer (some ⟨L',off'+k,none⟩)) hH ?_
   refine tk (i:=3) (oi:=⟨some 20,.load 69 (.tmp 19),69, "same.go:185",#[⟨2,.data⟩],none⟩) (v:=.agg ds'.toArray) hH (fun w' hSw=>by exact exec_load_pt _ _ 69 _ rfl ⟨L',off'+k,none⟩ rfl (HA.out _ hSw)) ?_
   refine tq (i:=4) (oi:=⟨some 21,.move (.tmp 1),155, "same.go:185",#[],none⟩) (v:=.slice (some ⟨L,off,none⟩) len cap) hH ?_
   refine tq (i:=5) (oi:=⟨some 22,.move (.tmp 5),3, "same.go:185",#[],none⟩) (v:=.int .i64 k) hH ?_
   refine tq (i:=6) (oi:=⟨some 23,.indexAddr 155 (.tmp 21) (.tmp 22),0, "same.go:185",#[⟨4,.data⟩,⟨5,.data⟩],none⟩) (v:=.pointer (some ⟨L,off+k,none⟩)) hH ?_
   refine tk (i:=7) (oi:=⟨some 24,.load 69 (.tmp 23),69, "same.go:185",#[⟨6,.data⟩],none⟩) (v:=.agg ds.toArray) hH (fun w' hSw=>by exact exec_load_pt _ _ 69 _ rfl ⟨L,off+k,none⟩ rfl (HB.out _ hSw)) ?_
   refine tr (rs:=[8]) ?_
   refine AllReadyH.cons (o:=⟨some 25,.call {callee:=.value (.func 70),args:=#[.tmp 20,.tmp 24],argTypes:=#[69,69]},4, "same.go:185",#[⟨3,.data⟩,⟨7,.data⟩],none⟩) rfl (fun K hK=>?_) AllReadyH.nil
   go_simp
   refine (sameTerm _ _ HRD.out.1 HRD.out.2 wr.drew ((HM.out.tr HMR.out).drew)).mono ?_
   rintro e w9 ⟨rfl,hm9⟩
   have HM9:=hh ((HMR.out.drew).tr hm9)
   clear hm9
   refine hK.out _ _ HM9.out (fun hH=>?_)
   clear hK K
   (try simp only [Act.put,ja,jb,jc])
   refine tq (i:=9) (oi:=⟨some 26,.unOp .not 4 (.tmp 25),4, "same.go:185",#[⟨8,.data⟩],none⟩) (v:=.bool false) hH ?_
   refine wpAnyH_done (by kernel_rfl) ?_ _
   go_wp2_with fail
   go_roundw
   case rel=>exact ⟨k+1,by omega,rfl,HM9.out⟩
   case measure=>simp [intOf]; omega
  ·have e:k=len:=by omega
   subst e
   go_wp2_with fail
   go_ret
   exact ⟨rfl,HMR.out⟩
set_option maxRecDepth 100000 in
set_option maxHeartbeats 1000000 in
theorem sameValue {N n:Nat} {w0 w1:World} {Q:Nat->Prop} (cs cs':List Value) (hr:Rd w0 65 cs) (h:EqX N w0 Q w1 n 65 cs cs') (w:World) (hm:Mod N0 w1 w):Calls Tryz.prog 69 #[.agg cs'.toArray,.agg cs.toArray] w fun e w'=>e=.returned (.bool true)/\Mod N0 w w':=by
 obtain ⟨m,rfl,hl,hl',hfs⟩:=h.struct rfl Tryz.underlying65
 rw [zc65] at hl hl'
 obtain ⟨u0,hu0,hru0⟩:=hr.cellAt Tryz.underlying65 0 rfl 2 0 rfl rfl zc2 zc65 (by omega)
 obtain ⟨n0,rfl,_⟩:=hru0.int Tryz.underlying2
 have hu0':cs'[0]?=some (.int .i64 n0):=flat_cell ((eqx_field hfs 0 rfl 2 0 1 rfl rfl zc2).flat rfl) hu0
 have HU0:=hh (And.intro hu0 hu0')
 clear hu0 hu0' hru0
 obtain ⟨u1,hu1,hru1⟩:=hr.cellAt Tryz.underlying65 1 rfl 63 1 rfl rfl zc63 zc65 (by omega)
 obtain ⟨u1',hu1'⟩:∃ u,cs'[1]?=some u:=⟨_,List.getElem?_eq_getElem (by omega)⟩
 have he1:EqX N w0 Q w1 m 63 [u1] [u1']:=by
  have:=eqx_field hfs 1 rfl 63 1 1 rfl rfl zc63
  rwa [take_one hu1,take_one hu1'] at this
 obtain ⟨_,_,a1,a1',l1,c1,c1',rfl,rfl,_⟩:=id (he1.slice rfl Tryz.underlying63 zc76)
 have HU1:=hh (And.intro hu1 hu1')
 have HE1:=hh (And.intro hru1 he1)
 clear hu1 hu1' hru1 he1
 obtain ⟨w2,hw2⟩:∃ w2,(w.alloc (.cells cs'.toArray 65)).alloc (.cells cs.toArray 65)=w2:=⟨_,rfl⟩
 have hA:w2.heap[w.heap.size]?=some (.cells cs'.toArray 65 (0,0)):=by rw [← hw2]; exact allocB (newB w _) _
 have hB:w2.heap[w.heap.size+1]?=some (.cells cs.toArray 65 (0,0)):=by
  rw [← hw2]; have:=newB (w.alloc (.cells cs'.toArray 65)) (.cells cs.toArray 65); rwa [World.size_alloc] at this
 have hm2:Mod N0 w w2:=by rw [← hw2]; exact ((Mod.refl _ w).alloc _).alloc _
 have HA:=hh (fun (W:World) (hW:Mod N0 w2 W)=>(hW.block _ (ltB hA) (fun q=>q)).trans hA)
 have HB:=hh (fun (W:World) (hW:Mod N0 w2 W)=>(hW.block _ (ltB hB) (fun q=>q)).trans hB)
 have HL:=hh (And.intro hl hl')
 have HM2:=hh hm2
 have HM:=hh (hm.tr hm2)
 clear hA hB hm2 hm hl hl' hfs hr h
 go_enter Tryz.func69,Tryz.ntmps69
 go_upto_region 1 with fail
 refine wp_region_lit ?_
 refine ex (v:=.pointer (some ⟨w.heap.size,0,none⟩)) ?_
 have s:w2.cell? ⟨w.heap.size,0,none⟩=some (.int .i64 n0):=(cellB (HA.out _ (Mod.refl N0 w2)) 0).trans (by rw [List.getElem?_toArray]; exact HU0.out.2)
 refine ex (v:=.int .i64 n0) ?_
 clear s
 refine ex (v:=.pointer (some ⟨w.heap.size+1,0,none⟩)) ?_
 have s:w2.cell? ⟨w.heap.size+1,0,none⟩=some (.int .i64 n0):=(cellB (HB.out _ (Mod.refl N0 w2)) 0).trans (by rw [List.getElem?_toArray]; exact HU0.out.1)
 refine ex (v:=.int .i64 n0) ?_
 clear s
 refine ex (v:=.bool true) ?_
 refine ex (v:=.bool true) ?_
 refine eg (v:=.pointer (some ⟨w.heap.size,1,none⟩)) ?_
 have s:w2.cell? ⟨w.heap.size,1,none⟩=some (.slice a1' l1 c1'):=(cellB (HA.out _ (Mod.refl N0 w2)) 1).trans (by rw [List.getElem?_toArray]; exact HU1.out.2)
 refine eg (v:=.slice a1' l1 c1') ?_
 clear s
 refine eg (v:=.pointer (some ⟨w.heap.size+1,1,none⟩)) ?_
 have s:w2.cell? ⟨w.heap.size+1,1,none⟩=some (.slice a1 l1 c1):=(cellB (HB.out _ (Mod.refl N0 w2)) 1).trans (by rw [List.getElem?_toArray]; exact HU1.out.1)
 refine eg (v:=.slice a1 l1 c1) ?_
 clear s
 go_wp2_with fail
 refine (sameAssets _ _ HE1.out.1 HE1.out.2 w2 (HM.out.tr (Mod.refl N0 w2))).mono ?_
 rintro e v1 ⟨rfl,hm1⟩
 rename_i hK
 refine hK _ _ ?_
 clear hK
 (try simp only [Act.put,ja,jb,jc])
 have HV1:=hh ((Mod.refl N0 w2).tr hm1)
 clear hm1
 refine ex (v:=.bool true) ?_
 refine ex (v:=.bool true) ?_
 go_wp2_with fail
 go_ret
 exact ⟨rfl,HM2.out.tr HV1.out⟩
set_option maxRecDepth 100000 in
set_option maxHeartbeats 1000000 in
theorem sameOutput {N n:Nat} {w0 w1:World} {Q:Nat->Prop} (cs cs':List Value) (hr:Rd w0 71 cs) (h:EqX N w0 Q w1 n 71 cs cs') (w:World) (hm:Mod N0 w1 w):Calls Tryz.prog 44 #[.agg cs'.toArray,.agg cs.toArray] w fun e w'=>e=.returned (.bool true)/\Mod N0 w w':=by
 obtain ⟨m,rfl,hl,hl',hfs⟩:=h.struct rfl Tryz.underlying71
 rw [zc71] at hl hl'
 have HF0:=hh (And.intro (hr.fieldAt Tryz.underlying71 0 rfl 41 0 33 rfl rfl zc41) (show (cs'.drop 0).take 33=(cs.drop 0).take 33 from (eqx_field hfs 0 rfl 41 0 33 rfl rfl zc41).flat rfl))
 have HE1:=hh (And.intro (hr.fieldAt Tryz.underlying71 1 rfl 65 33 2 rfl rfl zc65) (show EqX N w0 Q w1 m 65 ((cs.drop 33).take 2) ((cs'.drop 33).take 2) from eqx_field hfs 1 rfl 65 33 2 rfl rfl zc65))
 obtain ⟨u2,hu2,hru2⟩:=hr.cellAt Tryz.underlying71 2 rfl 66 35 rfl rfl zc66 zc71 (by omega)
 obtain ⟨n2,rfl,_⟩:=hru2.int Tryz.underlying66
 have hu2':cs'[35]?=some (.int .i64 n2):=flat_cell ((eqx_field hfs 2 rfl 66 35 1 rfl rfl zc66).flat rfl) hu2
 have HU2:=hh (And.intro hu2 hu2')
 clear hu2 hu2' hru2
 have HF3:=hh (And.intro (hr.fieldAt Tryz.underlying71 3 rfl 27 36 32 rfl rfl zc27) (show (cs'.drop 36).take 32=(cs.drop 36).take 32 from (eqx_field hfs 3 rfl 27 36 32 rfl rfl zc27).flat rfl))
 have HE4:=hh (And.intro (hr.fieldAt Tryz.underlying71 4 rfl 69 68 1 rfl rfl zc69) (show EqX N w0 Q w1 m 69 ((cs.drop 68).take 1) ((cs'.drop 68).take 1) from eqx_field hfs 4 rfl 69 68 1 rfl rfl zc69))
 obtain ⟨w2,hw2⟩:∃ w2,(w.alloc (.cells cs'.toArray 71)).alloc (.cells cs.toArray 71)=w2:=⟨_,rfl⟩
 have hA:w2.heap[w.heap.size]?=some (.cells cs'.toArray 71 (0,0)):=by rw [← hw2]; exact allocB (newB w _) _
 have hB:w2.heap[w.heap.size+1]?=some (.cells cs.toArray 71 (0,0)):=by
  rw [← hw2]; have:=newB (w.alloc (.cells cs'.toArray 71)) (.cells cs.toArray 71); rwa [World.size_alloc] at this
 have hm2:Mod N0 w w2:=by rw [← hw2]; exact ((Mod.refl _ w).alloc _).alloc _
 have HA:=hh (fun (W:World) (hW:Mod N0 w2 W)=>(hW.block _ (ltB hA) (fun q=>q)).trans hA)
 have HB:=hh (fun (W:World) (hW:Mod N0 w2 W)=>(hW.block _ (ltB hB) (fun q=>q)).trans hB)
 have HL:=hh (And.intro hl hl')
 have HM2:=hh hm2
 have HM:=hh (hm.tr hm2)
 clear hA hB hm2 hm hl hl' hfs hr h
 go_enter Tryz.func44,Tryz.ntmps44
 go_upto_region 1 with fail
 refine wp_region_lit ?_
 refine ex (v:=.pointer (some ⟨w.heap.size,0,none⟩)) ?_
 have hld:(loadVar 41 ⟨w.heap.size,0,none⟩).run Tryz.prog w2=.ok (.agg ((cs.drop 0).take 33).toArray) w2:=by
  have:=load_box (HA.out _ (Mod.refl N0 w2)) 41 0 33 _ Tryz.underlying41 rfl zs41 (by have:=HL.out.2; omega)
  rw [HF0.out.2] at this
  exact this
 refine wx (exec_load_pt _ _ 41 _ rfl ⟨w.heap.size,0,none⟩ rfl hld) ?_
 clear hld
 refine ex (v:=.pointer (some ⟨w.heap.size+1,0,none⟩)) ?_
 have hld:(loadVar 41 ⟨w.heap.size+1,0,none⟩).run Tryz.prog w2=.ok (.agg ((cs.drop 0).take 33).toArray) w2:=by
  have:=load_box (HB.out _ (Mod.refl N0 w2)) 41 0 33 _ Tryz.underlying41 rfl zs41 (by have:=HL.out.1; omega)
  exact this
 refine wx (exec_load_pt _ _ 41 _ rfl ⟨w.heap.size+1,0,none⟩ rfl hld) ?_
 clear hld
 refine wx (exec_eql_same _ _ rfl (ds:=(cs.drop 0).take 33) rfl rfl 3 (by omega) kt41 (formed41 (by have:=HL.out.1; simp; omega)) gt41 HF0.out.1) ?_
 refine ex (v:=.bool true) ?_
 refine eg (v:=.pointer (some ⟨w.heap.size,33,none⟩)) ?_
 refine gx (exec_load_pt _ _ 65 _ rfl ⟨w.heap.size,33,none⟩ rfl (load_box (HA.out _ (Mod.refl N0 w2)) 65 33 2 _ Tryz.underlying65 rfl zs65 (by have:=HL.out.2; omega))) ?_
 refine eg (v:=.pointer (some ⟨w.heap.size+1,33,none⟩)) ?_
 refine gx (exec_load_pt _ _ 65 _ rfl ⟨w.heap.size+1,33,none⟩ rfl (load_box (HB.out _ (Mod.refl N0 w2)) 65 33 2 _ Tryz.underlying65 rfl zs65 (by have:=HL.out.1; omega))) ?_
 go_wp2_with fail
 refine (sameValue _ _ HE1.out.1 HE1.out.2 w2 (HM.out.tr (Mod.refl N0 w2))).mono ?_
 rintro e v1 ⟨rfl,hm1⟩
 rename_i hK
 refine hK _ _ ?_
 clear hK
 (try simp only [Act.put,ja,jb,jc])
 have HV1:=hh ((Mod.refl N0 w2).tr hm1)
 clear hm1
 refine ex (v:=.bool true) ?_
 refine ex (v:=.bool true) ?_
 refine eg (v:=.pointer (some ⟨w.heap.size,35,none⟩)) ?_
 have s:v1.cell? ⟨w.heap.size,35,none⟩=some (.int .i64 n2):=(cellB (HA.out _ HV1.out) 35).trans (by rw [List.getElem?_toArray]; exact HU2.out.2)
 refine eg (v:=.int .i64 n2) ?_
 clear s
 refine eg (v:=.pointer (some ⟨w.heap.size+1,35,none⟩)) ?_
 have s:v1.cell? ⟨w.heap.size+1,35,none⟩=some (.int .i64 n2):=(cellB (HB.out _ HV1.out) 35).trans (by rw [List.getElem?_toArray]; exact HU2.out.1)
 refine eg (v:=.int .i64 n2) ?_
 clear s
 refine eg (v:=.bool true) ?_
 refine ex (v:=.bool true) ?_
 refine ex (v:=.bool true) ?_
 refine eg (v:=.pointer (some ⟨w.heap.size,36,none⟩)) ?_
 have hld:(loadVar 27 ⟨w.heap.size,36,none⟩).run Tryz.prog v1=.ok (.agg ((cs.drop 36).take 32).toArray) v1:=by
  have:=load_box (HA.out _ HV1.out) 27 36 32 _ Tryz.underlying27 rfl zs27 (by have:=HL.out.2; omega)
  rw [HF3.out.2] at this
  exact this
 refine gx (exec_load_pt _ _ 27 _ rfl ⟨w.heap.size,36,none⟩ rfl hld) ?_
 clear hld
 refine eg (v:=.pointer (some ⟨w.heap.size+1,36,none⟩)) ?_
 have hld:(loadVar 27 ⟨w.heap.size+1,36,none⟩).run Tryz.prog v1=.ok (.agg ((cs.drop 36).take 32).toArray) v1:=by
  have:=load_box (HB.out _ HV1.out) 27 36 32 _ Tryz.underlying27 rfl zs27 (by have:=HL.out.1; omega)
  exact this
 refine gx (exec_load_pt _ _ 27 _ rfl ⟨w.heap.size+1,36,none⟩ rfl hld) ?_
 clear hld
 refine gx (exec_eql_same _ _ rfl (ds:=(cs.drop 36).take 32) rfl rfl 2 (by omega) kt27 (formed27 (by have:=HL.out.1; simp; omega)) gt27 HF3.out.1) ?_
 refine ex (v:=.bool true) ?_
 refine ex (v:=.bool true) ?_
 refine eg (v:=.pointer (some ⟨w.heap.size,68,none⟩)) ?_
 refine gx (exec_load_pt _ _ 69 _ rfl ⟨w.heap.size,68,none⟩ rfl (load_box (HA.out _ HV1.out) 69 68 1 _ Tryz.underlying69 rfl zs69 (by have:=HL.out.2; omega))) ?_
 refine eg (v:=.pointer (some ⟨w.heap.size+1,68,none⟩)) ?_
 refine gx (exec_load_pt _ _ 69 _ rfl ⟨w.heap.size+1,68,none⟩ rfl (load_box (HB.out _ HV1.out) 69 68 1 _ Tryz.underlying69 rfl zs69 (by have:=HL.out.1; omega))) ?_
 go_wp2_with fail
 refine (sameTerm _ _ HE4.out.1 HE4.out.2 v1 (HM.out.tr HV1.out)).mono ?_
 rintro e v2 ⟨rfl,hm2⟩
 rename_i hK
 refine hK _ _ ?_
 clear hK
 (try simp only [Act.put,ja,jb,jc])
 have HV2:=hh (HV1.out.tr hm2)
 clear hm2
 refine ex (v:=.bool true) ?_
 refine ex (v:=.bool true) ?_
 go_wp2_with fail
 go_ret
 exact ⟨rfl,HM2.out.tr HV2.out⟩
end Go.Proofs.YtckcamlicgdklaaGreat
