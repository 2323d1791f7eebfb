/- The Same functions of transactions, blocks, states. -/
import Derived.Test.YtckcamlicgdklaaGreatN22
namespace Go.Proofs.YtckcamlicgdklaaGreat
open Go.RowKit Go.Mo
set_option maxRecDepth 100000 in
set_option maxHeartbeats 1000000 in
theorem sameBody {N n:Nat} {w0 w1:World} {Q:Nat->Prop} (cs cs':List Value) (hr:Rd w0 152 cs) (h:EqX N w0 Q w1 n 152 cs cs') (w:World) (hm:Mod N0 w1 w):Calls Tryz.prog 121 #[.agg cs'.toArray,.agg cs.toArray] w fun e w'=>e=.returned (.bool true)/\Mod N0 w w':=by
 obtain ⟨m,rfl,hl,hl',hfs⟩:=h.struct rfl Tryz.underlying152
 rw [zc152] at hl hl'
 obtain ⟨u0,hu0,hru0⟩:=hr.cellAt Tryz.underlying152 0 rfl 150 0 rfl rfl zc150 zc152 (by omega)
 obtain ⟨u0',hu0'⟩:∃ u,cs'[0]?=some u:=⟨_,List.getElem?_eq_getElem (by omega)⟩
 have he0:EqX N w0 Q w1 m 150 [u0] [u0']:=by
  have:=eqx_field hfs 0 rfl 150 0 1 rfl rfl zc150
  rwa [take_one hu0,take_one hu0'] at this
 obtain ⟨_,_,a0,a0',l0,c0,c0',rfl,rfl,_⟩:=id (he0.slice rfl Tryz.underlying150 zc62)
 have HU0:=hh (And.intro hu0 hu0')
 have HE0:=hh (And.intro hru0 he0)
 clear hu0 hu0' hru0 he0
 obtain ⟨u1,hu1,hru1⟩:=hr.cellAt Tryz.underlying152 1 rfl 150 1 rfl rfl zc150 zc152 (by omega)
 obtain ⟨u1',hu1'⟩:∃ u,cs'[1]?=some u:=⟨_,List.getElem?_eq_getElem (by omega)⟩
 have he1:EqX N w0 Q w1 m 150 [u1] [u1']:=by
  have:=eqx_field hfs 1 rfl 150 1 1 rfl rfl zc150
  rwa [take_one hu1,take_one hu1'] at this
 obtain ⟨_,_,a1,a1',l1,c1,c1',rfl,rfl,_⟩:=id (he1.slice rfl Tryz.underlying150 zc62)
 have HU1:=hh (And.intro hu1 hu1')
 have HE1:=hh (And.intro hru1 he1)
 clear hu1 hu1' hru1 he1
 obtain ⟨u2,hu2,hru2⟩:=hr.cellAt Tryz.underlying152 2 rfl 37 2 rfl rfl zc37 zc152 (by omega)
 obtain ⟨u2',hu2'⟩:∃ u,cs'[2]?=some u:=⟨_,List.getElem?_eq_getElem (by omega)⟩
 have he2:EqX N w0 Q w1 m 37 [u2] [u2']:=by
  have:=eqx_field hfs 2 rfl 37 2 1 rfl rfl zc37
  rwa [take_one hu2,take_one hu2'] at this
 obtain ⟨_,_,a2,a2',l2,c2,c2',rfl,rfl,_⟩:=id (he2.slice rfl Tryz.underlying37 zc71)
 have HU2:=hh (And.intro hu2 hu2')
 have HE2:=hh (And.intro hru2 he2)
 clear hu2 hu2' hru2 he2
 obtain ⟨u3,hu3,hru3⟩:=hr.cellAt Tryz.underlying152 3 rfl 37 3 rfl rfl zc37 zc152 (by omega)
 obtain ⟨u3',hu3'⟩:∃ u,cs'[3]?=some u:=⟨_,List.getElem?_eq_getElem (by omega)⟩
 have he3:EqX N w0 Q w1 m 37 [u3] [u3']:=by
  have:=eqx_field hfs 3 rfl 37 3 1 rfl rfl zc37
  rwa [take_one hu3,take_one hu3'] at this
 obtain ⟨_,_,a3,a3',l3,c3,c3',rfl,rfl,_⟩:=id (he3.slice rfl Tryz.underlying37 zc71)
 have HU3:=hh (And.intro hu3 hu3')
 have HE3:=hh (And.intro hru3 he3)
 clear hu3 hu3' hru3 he3
 obtain ⟨u4,hu4,hru4⟩:=hr.cellAt Tryz.underlying152 4 rfl 2 4 rfl rfl zc2 zc152 (by omega)
 obtain ⟨n4,rfl,_⟩:=hru4.int Tryz.underlying2
 have hu4':cs'[4]?=some (.int .i64 n4):=flat_cell ((eqx_field hfs 4 rfl 2 4 1 rfl rfl zc2).flat rfl) hu4
 have HU4:=hh (And.intro hu4 hu4')
 clear hu4 hu4' hru4
 obtain ⟨u5,hu5,hru5⟩:=hr.cellAt Tryz.underlying152 5 rfl 2 5 rfl rfl zc2 zc152 (by omega)
 obtain ⟨n5,rfl,_⟩:=hru5.int Tryz.underlying2
 have hu5':cs'[5]?=some (.int .i64 n5):=flat_cell ((eqx_field hfs 5 rfl 2 5 1 rfl rfl zc2).flat rfl) hu5
 have HU5:=hh (And.intro hu5 hu5')
 clear hu5 hu5' hru5
 obtain ⟨u6,hu6,hru6⟩:=hr.cellAt Tryz.underlying152 6 rfl 2 6 rfl rfl zc2 zc152 (by omega)
 obtain ⟨n6,rfl,_⟩:=hru6.int Tryz.underlying2
 have hu6':cs'[6]?=some (.int .i64 n6):=flat_cell ((eqx_field hfs 6 rfl 2 6 1 rfl rfl zc2).flat rfl) hu6
 have HU6:=hh (And.intro hu6 hu6')
 clear hu6 hu6' hru6
 obtain ⟨u7,hu7,hru7⟩:=hr.cellAt Tryz.underlying152 7 rfl 63 7 rfl rfl zc63 zc152 (by omega)
 obtain ⟨u7',hu7'⟩:∃ u,cs'[7]?=some u:=⟨_,List.getElem?_eq_getElem (by omega)⟩
 have he7:EqX N w0 Q w1 m 63 [u7] [u7']:=by
  have:=eqx_field hfs 7 rfl 63 7 1 rfl rfl zc63
  rwa [take_one hu7,take_one hu7'] at this
 obtain ⟨_,_,a7,a7',l7,c7,c7',rfl,rfl,_⟩:=id (he7.slice rfl Tryz.underlying63 zc76)
 have HU7:=hh (And.intro hu7 hu7')
 have HE7:=hh (And.intro hru7 he7)
 clear hu7 hu7' hru7 he7
 have HF8:=hh (And.intro (hr.fieldAt Tryz.underlying152 8 rfl 27 8 32 rfl rfl zc27) (show (cs'.drop 8).take 32=(cs.drop 8).take 32 from (eqx_field hfs 8 rfl 27 8 32 rfl rfl zc27).flat rfl))
 obtain ⟨w2,hw2⟩:∃ w2,(w.alloc (.cells cs'.toArray 152)).alloc (.cells cs.toArray 152)=w2:=⟨_,rfl⟩
 have hA:w2.heap[w.heap.size]?=some (.cells cs'.toArray 152 (0,0)):=by rw [← hw2]; exact allocB (newB w _) _
 have hB:w2.heap[w.heap.size+1]?=some (.cells cs.toArray 152 (0,0)):=by
  rw [← hw2]; have:=newB (w.alloc (.cells cs'.toArray 152)) (.cells cs.toArray 152); rwa [World.size_alloc] at this
 have hm2:Mod N0 w w2:=by rw [← hw2]; exact ((Mod.refl _ w).alloc _).alloc _
 have HA:=hh (fun (W:World) (hW:Mod N0 w2 W)=>(hW.block _ (ltB hA) (fun q=>q)).trans hA)
 have HB:=hh (fun (W:World) (hW:Mod N0 w2 W)=>(hW.block _ (ltB hB) (fun q=>q)).trans hB)
 have HL:=hh (And.intro hl hl')
 have HM2:=hh hm2
 have HM:=hh (hm.tr hm2)
 clear hA hB hm2 hm hl hl' hfs hr h
 go_enter Tryz.func121,Tryz.ntmps121
 go_upto_region 1 with fail
 refine wp_region_lit ?_
 refine ex (v:=.pointer (some ⟨w.heap.size,0,none⟩)) ?_
 have s:w2.cell? ⟨w.heap.size,0,none⟩=some (.slice a0' l0 c0'):=(cellB (HA.out _ (Mod.refl N0 w2)) 0).trans (by rw [List.getElem?_toArray]; exact HU0.out.2)
 refine ex (v:=.slice a0' l0 c0') ?_
 clear s
 refine ex (v:=.pointer (some ⟨w.heap.size+1,0,none⟩)) ?_
 have s:w2.cell? ⟨w.heap.size+1,0,none⟩=some (.slice a0 l0 c0):=(cellB (HB.out _ (Mod.refl N0 w2)) 0).trans (by rw [List.getElem?_toArray]; exact HU0.out.1)
 refine ex (v:=.slice a0 l0 c0) ?_
 clear s
 go_wp2_with fail
 refine (sameRefs _ _ HE0.out.1 HE0.out.2 w2 (HM.out.tr (Mod.refl N0 w2))).mono ?_
 rintro e v1 ⟨rfl,hm1⟩
 rename_i hK
 refine hK _ _ ?_
 clear hK
 (try simp only [Act.put,ja,jb,jc])
 have HV1:=hh ((Mod.refl N0 w2).tr hm1)
 clear hm1
 refine ex (v:=.bool true) ?_
 refine eg (v:=.pointer (some ⟨w.heap.size,1,none⟩)) ?_
 have s:v1.cell? ⟨w.heap.size,1,none⟩=some (.slice a1' l1 c1'):=(cellB (HA.out _ HV1.out) 1).trans (by rw [List.getElem?_toArray]; exact HU1.out.2)
 refine eg (v:=.slice a1' l1 c1') ?_
 clear s
 refine eg (v:=.pointer (some ⟨w.heap.size+1,1,none⟩)) ?_
 have s:v1.cell? ⟨w.heap.size+1,1,none⟩=some (.slice a1 l1 c1):=(cellB (HB.out _ HV1.out) 1).trans (by rw [List.getElem?_toArray]; exact HU1.out.1)
 refine eg (v:=.slice a1 l1 c1) ?_
 clear s
 go_wp2_with fail
 refine (sameRefs _ _ HE1.out.1 HE1.out.2 v1 (HM.out.tr HV1.out)).mono ?_
 rintro e v2 ⟨rfl,hm2⟩
 rename_i hK
 refine hK _ _ ?_
 clear hK
 (try simp only [Act.put,ja,jb,jc])
 have HV2:=hh (HV1.out.tr hm2)
 clear hm2
 refine ex (v:=.bool true) ?_
 refine ex (v:=.bool true) ?_
 refine eg (v:=.pointer (some ⟨w.heap.size,2,none⟩)) ?_
 have s:v2.cell? ⟨w.heap.size,2,none⟩=some (.slice a2' l2 c2'):=(cellB (HA.out _ HV2.out) 2).trans (by rw [List.getElem?_toArray]; exact HU2.out.2)
 refine eg (v:=.slice a2' l2 c2') ?_
 clear s
 refine eg (v:=.pointer (some ⟨w.heap.size+1,2,none⟩)) ?_
 have s:v2.cell? ⟨w.heap.size+1,2,none⟩=some (.slice a2 l2 c2):=(cellB (HB.out _ HV2.out) 2).trans (by rw [List.getElem?_toArray]; exact HU2.out.1)
 refine eg (v:=.slice a2 l2 c2) ?_
 clear s
 go_wp2_with fail
 refine (sameOutputs _ _ HE2.out.1 HE2.out.2 v2 (HM.out.tr HV2.out)).mono ?_
 rintro e v3 ⟨rfl,hm3⟩
 rename_i hK
 refine hK _ _ ?_
 clear hK
 (try simp only [Act.put,ja,jb,jc])
 have HV3:=hh (HV2.out.tr hm3)
 clear hm3
 refine ex (v:=.bool true) ?_
 refine ex (v:=.bool true) ?_
 refine eg (v:=.pointer (some ⟨w.heap.size,3,none⟩)) ?_
 have s:v3.cell? ⟨w.heap.size,3,none⟩=some (.slice a3' l3 c3'):=(cellB (HA.out _ HV3.out) 3).trans (by rw [List.getElem?_toArray]; exact HU3.out.2)
 refine eg (v:=.slice a3' l3 c3') ?_
 clear s
 refine eg (v:=.pointer (some ⟨w.heap.size+1,3,none⟩)) ?_
 have s:v3.cell? ⟨w.heap.size+1,3,none⟩=some (.slice a3 l3 c3):=(cellB (HB.out _ HV3.out) 3).trans (by rw [List.getElem?_toArray]; exact HU3.out.1)
 refine eg (v:=.slice a3 l3 c3) ?_
 clear s
 go_wp2_with fail
 refine (sameOutputs _ _ HE3.out.1 HE3.out.2 v3 (HM.out.tr HV3.out)).mono ?_
 rintro e v4 ⟨rfl,hm4⟩
 rename_i hK
 refine hK _ _ ?_
 clear hK
 (try simp only [Act.put,ja,jb,jc])
 have HV4:=hh (HV3.out.tr hm4)
 clear hm4
 refine ex (v:=.bool true) ?_
 refine ex (v:=.bool true) ?_
 refine eg (v:=.pointer (some ⟨w.heap.size,4,none⟩)) ?_
 have s:v4.cell? ⟨w.heap.size,4,none⟩=some (.int .i64 n4):=(cellB (HA.out _ HV4.out) 4).trans (by rw [List.getElem?_toArray]; exact HU4.out.2)
 refine eg (v:=.int .i64 n4) ?_
 clear s
 refine eg (v:=.pointer (some ⟨w.heap.size+1,4,none⟩)) ?_
 have s:v4.cell? ⟨w.heap.size+1,4,none⟩=some (.int .i64 n4):=(cellB (HB.out _ HV4.out) 4).trans (by rw [List.getElem?_toArray]; exact HU4.out.1)
 refine eg (v:=.int .i64 n4) ?_
 clear s
 refine eg (v:=.bool true) ?_
 refine ex (v:=.bool true) ?_
 refine ex (v:=.bool true) ?_
 refine eg (v:=.pointer (some ⟨w.heap.size,5,none⟩)) ?_
 have s:v4.cell? ⟨w.heap.size,5,none⟩=some (.int .i64 n5):=(cellB (HA.out _ HV4.out) 5).trans (by rw [List.getElem?_toArray]; exact HU5.out.2)
 refine eg (v:=.int .i64 n5) ?_
 clear s
 refine eg (v:=.pointer (some ⟨w.heap.size+1,5,none⟩)) ?_
 have s:v4.cell? ⟨w.heap.size+1,5,none⟩=some (.int .i64 n5):=(cellB (HB.out _ HV4.out) 5).trans (by rw [List.getElem?_toArray]; exact HU5.out.1)
 refine eg (v:=.int .i64 n5) ?_
 clear s
 refine eg (v:=.bool true) ?_
 refine ex (v:=.bool true) ?_
 refine ex (v:=.bool true) ?_
 refine eg (v:=.pointer (some ⟨w.heap.size,6,none⟩)) ?_
 have s:v4.cell? ⟨w.heap.size,6,none⟩=some (.int .i64 n6):=(cellB (HA.out _ HV4.out) 6).trans (by rw [List.getElem?_toArray]; exact HU6.out.2)
 refine eg (v:=.int .i64 n6) ?_
 clear s
 refine eg (v:=.pointer (some ⟨w.heap.size+1,6,none⟩)) ?_
 have s:v4.cell? ⟨w.heap.size+1,6,none⟩=some (.int .i64 n6):=(cellB (HB.out _ HV4.out) 6).trans (by rw [List.getElem?_toArray]; exact HU6.out.1)
 refine eg (v:=.int .i64 n6) ?_
 clear s
 refine eg (v:=.bool true) ?_
 refine ex (v:=.bool true) ?_
 refine ex (v:=.bool true) ?_
 refine eg (v:=.pointer (some ⟨w.heap.size,7,none⟩)) ?_
 have s:v4.cell? ⟨w.heap.size,7,none⟩=some (.slice a7' l7 c7'):=(cellB (HA.out _ HV4.out) 7).trans (by rw [List.getElem?_toArray]; exact HU7.out.2)
 refine eg (v:=.slice a7' l7 c7') ?_
 clear s
 refine eg (v:=.pointer (some ⟨w.heap.size+1,7,none⟩)) ?_
 have s:v4.cell? ⟨w.heap.size+1,7,none⟩=some (.slice a7 l7 c7):=(cellB (HB.out _ HV4.out) 7).trans (by rw [List.getElem?_toArray]; exact HU7.out.1)
 refine eg (v:=.slice a7 l7 c7) ?_
 clear s
 go_wp2_with fail
 refine (sameAssets _ _ HE7.out.1 HE7.out.2 v4 (HM.out.tr HV4.out)).mono ?_
 rintro e v5 ⟨rfl,hm5⟩
 rename_i hK
 refine hK _ _ ?_
 clear hK
 (try simp only [Act.put,ja,jb,jc])
 have HV5:=hh (HV4.out.tr hm5)
 clear hm5
 refine ex (v:=.bool true) ?_
 refine ex (v:=.bool true) ?_
 refine eg (v:=.pointer (some ⟨w.heap.size,8,none⟩)) ?_
 have hld:(loadVar 27 ⟨w.heap.size,8,none⟩).run Tryz.prog v5=.ok (.agg ((cs.drop 8).take 32).toArray) v5:=by
  have:=load_box (HA.out _ HV5.out) 27 8 32 _ Tryz.underlying27 rfl zs27 (by have:=HL.out.2; omega)
  rw [HF8.out.2] at this
  exact this
 refine gx (exec_load_pt _ _ 27 _ rfl ⟨w.heap.size,8,none⟩ rfl hld) ?_
 clear hld
 refine eg (v:=.pointer (some ⟨w.heap.size+1,8,none⟩)) ?_
 have hld:(loadVar 27 ⟨w.heap.size+1,8,none⟩).run Tryz.prog v5=.ok (.agg ((cs.drop 8).take 32).toArray) v5:=by
  have:=load_box (HB.out _ HV5.out) 27 8 32 _ Tryz.underlying27 rfl zs27 (by have:=HL.out.1; omega)
  exact this
 refine gx (exec_load_pt _ _ 27 _ rfl ⟨w.heap.size+1,8,none⟩ rfl hld) ?_
 clear hld
 refine gx (exec_eql_same _ _ rfl (ds:=(cs.drop 8).take 32) rfl rfl 2 (by omega) kt27 (formed27 (by have:=HL.out.1; simp; omega)) gt27 HF8.out.1) ?_
 refine ex (v:=.bool true) ?_
 refine ex (v:=.bool true) ?_
 go_wp2_with fail
 go_ret
 exact ⟨rfl,HM2.out.tr HV5.out⟩
set_option maxRecDepth 100000 in
set_option maxHeartbeats 1000000 in
theorem sameTx {N n:Nat} {w0 w1:World} {Q:Nat->Prop} (cs cs':List Value) (hr:Rd w0 158 cs) (h:EqX N w0 Q w1 n 158 cs cs') (w:World) (hm:Mod N0 w1 w):Calls Tryz.prog 68 #[.agg cs'.toArray,.agg cs.toArray] w fun e w'=>e=.returned (.bool true)/\Mod N0 w w':=by
 obtain ⟨m,rfl,hl,hl',hfs⟩:=h.struct rfl Tryz.underlying158
 rw [zc158] at hl hl'
 have HE0:=hh (And.intro (hr.fieldAt Tryz.underlying158 0 rfl 152 0 40 rfl rfl zc152) (show EqX N w0 Q w1 m 152 ((cs.drop 0).take 40) ((cs'.drop 0).take 40) from eqx_field hfs 0 rfl 152 0 40 rfl rfl zc152))
 obtain ⟨u1,hu1,hru1⟩:=hr.cellAt Tryz.underlying158 1 rfl 153 40 rfl rfl zc153 zc158 (by omega)
 obtain ⟨u1',hu1'⟩:∃ u,cs'[40]?=some u:=⟨_,List.getElem?_eq_getElem (by omega)⟩
 have he1:EqX N w0 Q w1 m 153 [u1] [u1']:=by
  have:=eqx_field hfs 1 rfl 153 40 1 rfl rfl zc153
  rwa [take_one hu1,take_one hu1'] at this
 obtain ⟨_,_,a1,a1',l1,c1,c1',rfl,rfl,_⟩:=id (he1.slice rfl Tryz.underlying153 zc275)
 have HU1:=hh (And.intro hu1 hu1')
 have HE1:=hh (And.intro hru1 he1)
 clear hu1 hu1' hru1 he1
 obtain ⟨u2,hu2,hru2⟩:=hr.cellAt Tryz.underlying158 2 rfl 154 41 rfl rfl zc154 zc158 (by omega)
 obtain ⟨u2',hu2'⟩:∃ u,cs'[41]?=some u:=⟨_,List.getElem?_eq_getElem (by omega)⟩
 have he2:EqX N w0 Q w1 m 154 [u2] [u2']:=by
  have:=eqx_field hfs 2 rfl 154 41 1 rfl rfl zc154
  rwa [take_one hu2,take_one hu2'] at this
 obtain ⟨_,_,a2,a2',l2,c2,c2',rfl,rfl,_⟩:=id (he2.slice rfl Tryz.underlying154 zc264)
 have HU2:=hh (And.intro hu2 hu2')
 have HE2:=hh (And.intro hru2 he2)
 clear hu2 hu2' hru2 he2
 obtain ⟨u3,hu3,hru3⟩:=hr.cellAt Tryz.underlying158 3 rfl 155 42 rfl rfl zc155 zc158 (by omega)
 obtain ⟨u3',hu3'⟩:∃ u,cs'[42]?=some u:=⟨_,List.getElem?_eq_getElem (by omega)⟩
 have he3:EqX N w0 Q w1 m 155 [u3] [u3']:=by
  have:=eqx_field hfs 3 rfl 155 42 1 rfl rfl zc155
  rwa [take_one hu3,take_one hu3'] at this
 obtain ⟨_,_,a3,a3',l3,c3,c3',rfl,rfl,_⟩:=id (he3.slice rfl Tryz.underlying155 zc69)
 have HU3:=hh (And.intro hu3 hu3')
 have HE3:=hh (And.intro hru3 he3)
 clear hu3 hu3' hru3 he3
 obtain ⟨u4,hu4,hru4⟩:=hr.cellAt Tryz.underlying158 4 rfl 156 43 rfl rfl zc156 zc158 (by omega)
 obtain ⟨u4',hu4'⟩:∃ u,cs'[43]?=some u:=⟨_,List.getElem?_eq_getElem (by omega)⟩
 have he4:EqX N w0 Q w1 m 156 [u4] [u4']:=by
  have:=eqx_field hfs 4 rfl 156 43 1 rfl rfl zc156
  rwa [take_one hu4,take_one hu4'] at this
 obtain ⟨_,_,a4,a4',l4,c4,c4',rfl,rfl,_⟩:=id (he4.slice rfl Tryz.underlying156 zc269)
 have HU4:=hh (And.intro hu4 hu4')
 have HE4:=hh (And.intro hru4 he4)
 clear hu4 hu4' hru4 he4
 obtain ⟨u5,hu5,hru5⟩:=hr.cellAt Tryz.underlying158 5 rfl 4 44 rfl rfl zc4 zc158 (by omega)
 obtain ⟨n5,rfl⟩:=hru5.bool Tryz.underlying4
 have hu5':cs'[44]?=some (.bool n5):=flat_cell ((eqx_field hfs 5 rfl 4 44 1 rfl rfl zc4).flat rfl) hu5
 have HU5:=hh (And.intro hu5 hu5')
 clear hu5 hu5' hru5
 obtain ⟨w2,hw2⟩:∃ w2,(w.alloc (.cells cs'.toArray 158)).alloc (.cells cs.toArray 158)=w2:=⟨_,rfl⟩
 have hA:w2.heap[w.heap.size]?=some (.cells cs'.toArray 158 (0,0)):=by rw [← hw2]; exact allocB (newB w _) _
 have hB:w2.heap[w.heap.size+1]?=some (.cells cs.toArray 158 (0,0)):=by
  rw [← hw2]; have:=newB (w.alloc (.cells cs'.toArray 158)) (.cells cs.toArray 158); rwa [World.size_alloc] at this
 have hm2:Mod N0 w w2:=by rw [← hw2]; exact ((Mod.refl _ w).alloc _).alloc _
 have HA:=hh (fun (W:World) (hW:Mod N0 w2 W)=>(hW.block _ (ltB hA) (fun q=>q)).trans hA)
 have HB:=hh (fun (W:World) (hW:Mod N0 w2 W)=>(hW.block _ (ltB hB) (fun q=>q)).trans hB)
 have HL:=hh (And.intro hl hl')
 have HM2:=hh hm2
 have HM:=hh (hm.tr hm2)
 clear hA hB hm2 hm hl hl' hfs hr h
 go_enter Tryz.func68,Tryz.ntmps68
 go_upto_region 1 with fail
 refine wp_region_lit ?_
 refine ex (v:=.pointer (some ⟨w.heap.size,0,none⟩)) ?_
 refine wx (exec_load_pt _ _ 152 _ rfl ⟨w.heap.size,0,none⟩ rfl (load_box (HA.out _ (Mod.refl N0 w2)) 152 0 40 _ Tryz.underlying152 rfl zs152 (by have:=HL.out.2; omega))) ?_
 refine ex (v:=.pointer (some ⟨w.heap.size+1,0,none⟩)) ?_
 refine wx (exec_load_pt _ _ 152 _ rfl ⟨w.heap.size+1,0,none⟩ rfl (load_box (HB.out _ (Mod.refl N0 w2)) 152 0 40 _ Tryz.underlying152 rfl zs152 (by have:=HL.out.1; omega))) ?_
 go_wp2_with fail
 refine (sameBody _ _ HE0.out.1 HE0.out.2 w2 (HM.out.tr (Mod.refl N0 w2))).mono ?_
 rintro e v1 ⟨rfl,hm1⟩
 rename_i hK
 refine hK _ _ ?_
 clear hK
 (try simp only [Act.put,ja,jb,jc])
 have HV1:=hh ((Mod.refl N0 w2).tr hm1)
 clear hm1
 refine ex (v:=.bool true) ?_
 refine eg (v:=.pointer (some ⟨w.heap.size,40,none⟩)) ?_
 have s:v1.cell? ⟨w.heap.size,40,none⟩=some (.slice a1' l1 c1'):=(cellB (HA.out _ HV1.out) 40).trans (by rw [List.getElem?_toArray]; exact HU1.out.2)
 refine eg (v:=.slice a1' l1 c1') ?_
 clear s
 refine eg (v:=.pointer (some ⟨w.heap.size+1,40,none⟩)) ?_
 have s:v1.cell? ⟨w.heap.size+1,40,none⟩=some (.slice a1 l1 c1):=(cellB (HB.out _ HV1.out) 40).trans (by rw [List.getElem?_toArray]; exact HU1.out.1)
 refine eg (v:=.slice a1 l1 c1) ?_
 clear s
 go_wp2_with fail
 refine (sameSignatures _ _ HE1.out.1 HE1.out.2 v1 (HM.out.tr HV1.out)).mono ?_
 rintro e v2 ⟨rfl,hm2⟩
 rename_i hK
 refine hK _ _ ?_
 clear hK
 (try simp only [Act.put,ja,jb,jc])
 have HV2:=hh (HV1.out.tr hm2)
 clear hm2
 refine ex (v:=.bool true) ?_
 refine ex (v:=.bool true) ?_
 refine eg (v:=.pointer (some ⟨w.heap.size,41,none⟩)) ?_
 have s:v2.cell? ⟨w.heap.size,41,none⟩=some (.slice a2' l2 c2'):=(cellB (HA.out _ HV2.out) 41).trans (by rw [List.getElem?_toArray]; exact HU2.out.2)
 refine eg (v:=.slice a2' l2 c2') ?_
 clear s
 refine eg (v:=.pointer (some ⟨w.heap.size+1,41,none⟩)) ?_
 have s:v2.cell? ⟨w.heap.size+1,41,none⟩=some (.slice a2 l2 c2):=(cellB (HB.out _ HV2.out) 41).trans (by rw [List.getElem?_toArray]; exact HU2.out.1)
 refine eg (v:=.slice a2 l2 c2) ?_
 clear s
 go_wp2_with fail
 refine (samePrograms _ _ HE2.out.1 HE2.out.2 v2 (HM.out.tr HV2.out)).mono ?_
 rintro e v3 ⟨rfl,hm3⟩
 rename_i hK
 refine hK _ _ ?_
 clear hK
 (try simp only [Act.put,ja,jb,jc])
 have HV3:=hh (HV2.out.tr hm3)
 clear hm3
 refine ex (v:=.bool true) ?_
 refine ex (v:=.bool true) ?_
 refine eg (v:=.pointer (some ⟨w.heap.size,42,none⟩)) ?_
 have s:v3.cell? ⟨w.heap.size,42,none⟩=some (.slice a3' l3 c3'):=(cellB (HA.out _ HV3.out) 42).trans (by rw [List.getElem?_toArray]; exact HU3.out.2)
 refine eg (v:=.slice a3' l3 c3') ?_
 clear s
 refine eg (v:=.pointer (some ⟨w.heap.size+1,42,none⟩)) ?_
 have s:v3.cell? ⟨w.heap.size+1,42,none⟩=some (.slice a3 l3 c3):=(cellB (HB.out _ HV3.out) 42).trans (by rw [List.getElem?_toArray]; exact HU3.out.1)
 refine eg (v:=.slice a3 l3 c3) ?_
 clear s
 go_wp2_with fail
 refine (sameTerms _ _ HE3.out.1 HE3.out.2 v3 (HM.out.tr HV3.out)).mono ?_
 rintro e v4 ⟨rfl,hm4⟩
 rename_i hK
 refine hK _ _ ?_
 clear hK
 (try simp only [Act.put,ja,jb,jc])
 have HV4:=hh (HV3.out.tr hm4)
 clear hm4
 refine ex (v:=.bool true) ?_
 refine ex (v:=.bool true) ?_
 refine eg (v:=.pointer (some ⟨w.heap.size,43,none⟩)) ?_
 have s:v4.cell? ⟨w.heap.size,43,none⟩=some (.slice a4' l4 c4'):=(cellB (HA.out _ HV4.out) 43).trans (by rw [List.getElem?_toArray]; exact HU4.out.2)
 refine eg (v:=.slice a4' l4 c4') ?_
 clear s
 refine eg (v:=.pointer (some ⟨w.heap.size+1,43,none⟩)) ?_
 have s:v4.cell? ⟨w.heap.size+1,43,none⟩=some (.slice a4 l4 c4):=(cellB (HB.out _ HV4.out) 43).trans (by rw [List.getElem?_toArray]; exact HU4.out.1)
 refine eg (v:=.slice a4 l4 c4) ?_
 clear s
 go_wp2_with fail
 refine (sameRedeemers _ _ HE4.out.1 HE4.out.2 v4 (HM.out.tr HV4.out)).mono ?_
 rintro e v5 ⟨rfl,hm5⟩
 rename_i hK
 refine hK _ _ ?_
 clear hK
 (try simp only [Act.put,ja,jb,jc])
 have HV5:=hh (HV4.out.tr hm5)
 clear hm5
 refine ex (v:=.bool true) ?_
 refine ex (v:=.bool true) ?_
 refine eg (v:=.pointer (some ⟨w.heap.size,44,none⟩)) ?_
 have s:v5.cell? ⟨w.heap.size,44,none⟩=some (.bool n5):=(cellB (HA.out _ HV5.out) 44).trans (by rw [List.getElem?_toArray]; exact HU5.out.2)
 refine eg (v:=.bool n5) ?_
 clear s
 refine eg (v:=.pointer (some ⟨w.heap.size+1,44,none⟩)) ?_
 have s:v5.cell? ⟨w.heap.size+1,44,none⟩=some (.bool n5):=(cellB (HB.out _ HV5.out) 44).trans (by rw [List.getElem?_toArray]; exact HU5.out.1)
 refine eg (v:=.bool n5) ?_
 clear s
 refine eg (v:=.bool true) ?_
 refine ex (v:=.bool true) ?_
 refine ex (v:=.bool true) ?_
 go_wp2_with fail
 go_ret
 exact ⟨rfl,HM2.out.tr HV5.out⟩
set_option maxRecDepth 100000 in
set_option maxHeartbeats 1000000 in
theorem sameTxs {N n:Nat} {w0 w1:World} {Q:Nat->Prop} (v v':Value) (hr:Rd w0 34 [v]) (h:EqX N w0 Q w1 n 34 [v] [v']) (w:World) (hm:Mod N0 w1 w):Calls Tryz.prog 43 #[v',v] w fun e w'=>e=.returned (.bool true)/\Mod N0 w w':=by
 obtain ⟨m,rfl,a,a',len,cap,cap',rfl,rfl,hel⟩:=h.slice rfl Tryz.underlying34 zc158
 obtain ⟨a2,len2,cap2,e2,hb,_,_⟩:=hr.slice Tryz.underlying34 zc158 (by omega)
 simp only [Value.slice.injEq] at e2
 obtain ⟨rfl,rfl,rfl⟩:=e2
 have hlen:=len_of_bytes hb zb158
 have HE:=hh hel
 have HM:=hh hm
 clear hel hm hr hb
 go_enter Tryz.func43,Tryz.ntmps43
 go_wp2_with fail
 go_loopw [5] (fun i wr=>∃ k:Nat,k<=len/\i=.int .i64 k/\Mod N0 w wr) (fun i _=>len - (intOf i).toNat)
 case atStart=>exact ⟨0,by omega,rfl,Mod.refl _ w⟩
 case round=>
  obtain ⟨k,hk,rfl,hmr⟩:=hrel
  have HMR:=hh hmr
  clear hmr
  by_cases hlt:k<len
  ·obtain ⟨L,off,ds,L',off',ds',rfl,rfl,hrd,_,hL,hL',_,hl,hl',hc,hc',he⟩:=HE.out k hlt
   have HA:=hh (fun (W:World) (hW:Mod N0 w W)=>(show (loadVar 158 ⟨L',off'+k * 45,none⟩).run Tryz.prog W=.ok (.agg ds'.toArray) W from by
    have:=load_mid (w:=W) (p:=off'+k * 45) (fun j u hu=>((HM.out.tr hW).cell (p:=⟨L',_,none⟩) hL' (fun q=>q)).trans (hc' j u hu)) 158 0 45 _ Tryz.underlying158 rfl zs158 (by omega)
    rw [List.drop_zero,List.take_of_length_le (by omega),Nat.add_zero] at this
    exact this))
   have HB:=hh (fun (W:World) (hW:Mod N0 w W)=>(show (loadVar 158 ⟨L,off+k * 45,none⟩).run Tryz.prog W=.ok (.agg ds.toArray) W from by
    have:=load_mid (w:=W) (p:=off+k * 45) (fun j u hu=>((HM.out.tr hW).cell (p:=⟨L,_,none⟩) hL (fun q=>q)).trans (hc j u hu)) 158 0 45 _ Tryz.underlying158 rfl zs158 (by omega)
    rw [List.drop_zero,List.take_of_length_le (by omega),Nat.add_zero] at this
    exact this))
   have HRD:=hh (And.intro hrd he)
   clear hrd hc hc' he hl hl' hL hL'
   go_upto_region 6 with fail
   refine wp_region_held_drew (S:=fun W=>Mod N0 w W) (by kernel_rfl) HMR.out.drew (fun hH=>?_)
   refine tq (i:=0) (oi:=⟨some 17,.move (.tmp 0),34, "same.go:518",#[],none⟩) (v:=.slice (some ⟨L',off',none⟩) len cap') hH ?_
   refine tq (i:=1) (oi:=⟨some 18,.move (.tmp 5),3, "same.go:518",#[],none⟩) (v:=.int .i64 k) hH ?_
   refine tq (i:=2) (oi:=⟨some 19,.indexAddr 34 (.tmp 17) (.tmp 18),0, "same.go:518",#[⟨0,.data⟩,⟨1,.data⟩],none⟩) (v:=.pointer (some ⟨L',off'+k * 45,none⟩)) hH ?_
   refine tk (i:=3) (oi:=⟨some 20,.load 158 (.tmp 19),158, "same.go:518",#[⟨2,.data⟩],none⟩) (v:=.agg ds'.toArray) hH (fun w' hSw=>by exact exec_load_pt _ _ 158 _ rfl ⟨L',off'+k * 45,none⟩ rfl (HA.out _ hSw)) ?_
   refine tq (i:=4) (oi:=⟨some 21,.move (.tmp 1),34, "same.go:518",#[],none⟩) (v:=.slice (some ⟨L,off,none⟩) len cap) hH ?_
   refine tq (i:=5) (oi:=⟨some 22,.move (.tmp 5),3, "same.go:518",#[],none⟩) (v:=.int .i64 k) hH ?_
   refine tq (i:=6) (oi:=⟨some 23,.indexAddr 34 (.tmp 21) (.tmp 22),0, "same.go:518",#[⟨4,.data⟩,⟨5,.data⟩],none⟩) (v:=.pointer (some ⟨L,off+k * 45,none⟩)) hH ?_
   refine tk (i:=7) (oi:=⟨some 24,.load 158 (.tmp 23),158, "same.go:518",#[⟨6,.data⟩],none⟩) (v:=.agg ds.toArray) hH (fun w' hSw=>by exact exec_load_pt _ _ 158 _ rfl ⟨L,off+k * 45,none⟩ rfl (HB.out _ hSw)) ?_
   refine tr (rs:=[8]) ?_
   refine AllReadyH.cons (o:=⟨some 25,.call {callee:=.value (.func 68),args:=#[.tmp 20,.tmp 24],argTypes:=#[158,158]},4, "same.go:518",#[⟨3,.data⟩,⟨7,.data⟩],none⟩) rfl (fun K hK=>?_) AllReadyH.nil
   go_simp
   refine (sameTx _ _ HRD.out.1 HRD.out.2 wr.drew ((HM.out.tr HMR.out).drew)).mono ?_
   rintro e w9 ⟨rfl,hm9⟩
   have HM9:=hh ((HMR.out.drew).tr hm9)
   clear hm9
   refine hK.out _ _ HM9.out (fun hH=>?_)
   clear hK K
   (try simp only [Act.put,ja,jb,jc])
   refine tq (i:=9) (oi:=⟨some 26,.unOp .not 4 (.tmp 25),4, "same.go:518",#[⟨8,.data⟩],none⟩) (v:=.bool false) hH ?_
   refine wpAnyH_done (by kernel_rfl) ?_ _
   go_wp2_with fail
   go_roundw
   case rel=>exact ⟨k+1,by omega,rfl,HM9.out⟩
   case measure=>simp [intOf]; omega
  ·have e:k=len:=by omega
   subst e
   go_wp2_with fail
   go_ret
   exact ⟨rfl,HMR.out⟩
set_option maxRecDepth 100000 in
set_option maxHeartbeats 1000000 in
theorem sameBlock {N n:Nat} {w0 w1:World} {Q:Nat->Prop} (cs cs':List Value) (hr:Rd w0 140 cs) (h:EqX N w0 Q w1 n 140 cs cs') (w:World) (hm:Mod N0 w1 w):Calls Tryz.prog 119 #[.agg cs'.toArray,.agg cs.toArray] w fun e w'=>e=.returned (.bool true)/\Mod N0 w w':=by
 obtain ⟨m,rfl,hl,hl',hfs⟩:=h.struct rfl Tryz.underlying140
 rw [zc140] at hl hl'
 have HF0:=hh (And.intro (hr.fieldAt Tryz.underlying140 0 rfl 32 0 67 rfl rfl zc32) (show (cs'.drop 0).take 67=(cs.drop 0).take 67 from (eqx_field hfs 0 rfl 32 0 67 rfl rfl zc32).flat rfl))
 obtain ⟨u1,hu1,hru1⟩:=hr.cellAt Tryz.underlying140 1 rfl 34 67 rfl rfl zc34 zc140 (by omega)
 obtain ⟨u1',hu1'⟩:∃ u,cs'[67]?=some u:=⟨_,List.getElem?_eq_getElem (by omega)⟩
 have he1:EqX N w0 Q w1 m 34 [u1] [u1']:=by
  have:=eqx_field hfs 1 rfl 34 67 1 rfl rfl zc34
  rwa [take_one hu1,take_one hu1'] at this
 obtain ⟨_,_,a1,a1',l1,c1,c1',rfl,rfl,_⟩:=id (he1.slice rfl Tryz.underlying34 zc158)
 have HU1:=hh (And.intro hu1 hu1')
 have HE1:=hh (And.intro hru1 he1)
 clear hu1 hu1' hru1 he1
 obtain ⟨w2,hw2⟩:∃ w2,(w.alloc (.cells cs'.toArray 140)).alloc (.cells cs.toArray 140)=w2:=⟨_,rfl⟩
 have hA:w2.heap[w.heap.size]?=some (.cells cs'.toArray 140 (0,0)):=by rw [← hw2]; exact allocB (newB w _) _
 have hB:w2.heap[w.heap.size+1]?=some (.cells cs.toArray 140 (0,0)):=by
  rw [← hw2]; have:=newB (w.alloc (.cells cs'.toArray 140)) (.cells cs.toArray 140); rwa [World.size_alloc] at this
 have hm2:Mod N0 w w2:=by rw [← hw2]; exact ((Mod.refl _ w).alloc _).alloc _
 have HA:=hh (fun (W:World) (hW:Mod N0 w2 W)=>(hW.block _ (ltB hA) (fun q=>q)).trans hA)
 have HB:=hh (fun (W:World) (hW:Mod N0 w2 W)=>(hW.block _ (ltB hB) (fun q=>q)).trans hB)
 have HL:=hh (And.intro hl hl')
 have HM2:=hh hm2
 have HM:=hh (hm.tr hm2)
 clear hA hB hm2 hm hl hl' hfs hr h
 go_enter Tryz.func119,Tryz.ntmps119
 go_upto_region 1 with fail
 refine wp_region_lit ?_
 refine ex (v:=.pointer (some ⟨w.heap.size,0,none⟩)) ?_
 have hld:(loadVar 32 ⟨w.heap.size,0,none⟩).run Tryz.prog w2=.ok (.agg ((cs.drop 0).take 67).toArray) w2:=by
  have:=load_box (HA.out _ (Mod.refl N0 w2)) 32 0 67 _ Tryz.underlying32 rfl zs32 (by have:=HL.out.2; omega)
  rw [HF0.out.2] at this
  exact this
 refine wx (exec_load_pt _ _ 32 _ rfl ⟨w.heap.size,0,none⟩ rfl hld) ?_
 clear hld
 refine ex (v:=.pointer (some ⟨w.heap.size+1,0,none⟩)) ?_
 have hld:(loadVar 32 ⟨w.heap.size+1,0,none⟩).run Tryz.prog w2=.ok (.agg ((cs.drop 0).take 67).toArray) w2:=by
  have:=load_box (HB.out _ (Mod.refl N0 w2)) 32 0 67 _ Tryz.underlying32 rfl zs32 (by have:=HL.out.1; omega)
  exact this
 refine wx (exec_load_pt _ _ 32 _ rfl ⟨w.heap.size+1,0,none⟩ rfl hld) ?_
 clear hld
 refine wx (exec_eql_same _ _ rfl (ds:=(cs.drop 0).take 67) rfl rfl 3 (by omega) kt32 (formed32 (by have:=HL.out.1; simp; omega)) gt32 HF0.out.1) ?_
 refine ex (v:=.bool true) ?_
 refine eg (v:=.pointer (some ⟨w.heap.size,67,none⟩)) ?_
 have s:w2.cell? ⟨w.heap.size,67,none⟩=some (.slice a1' l1 c1'):=(cellB (HA.out _ (Mod.refl N0 w2)) 67).trans (by rw [List.getElem?_toArray]; exact HU1.out.2)
 refine eg (v:=.slice a1' l1 c1') ?_
 clear s
 refine eg (v:=.pointer (some ⟨w.heap.size+1,67,none⟩)) ?_
 have s:w2.cell? ⟨w.heap.size+1,67,none⟩=some (.slice a1 l1 c1):=(cellB (HB.out _ (Mod.refl N0 w2)) 67).trans (by rw [List.getElem?_toArray]; exact HU1.out.1)
 refine eg (v:=.slice a1 l1 c1) ?_
 clear s
 go_wp2_with fail
 refine (sameTxs _ _ HE1.out.1 HE1.out.2 w2 (HM.out.tr (Mod.refl N0 w2))).mono ?_
 rintro e v1 ⟨rfl,hm1⟩
 rename_i hK
 refine hK _ _ ?_
 clear hK
 (try simp only [Act.put,ja,jb,jc])
 have HV1:=hh ((Mod.refl N0 w2).tr hm1)
 clear hm1
 refine ex (v:=.bool true) ?_
 refine ex (v:=.bool true) ?_
 go_wp2_with fail
 go_ret
 exact ⟨rfl,HM2.out.tr HV1.out⟩
set_option maxRecDepth 100000 in
set_option maxHeartbeats 1000000 in
theorem sameDiff {N n:Nat} {w0 w1:World} {Q:Nat->Prop} (cs cs':List Value) (hr:Rd w0 143 cs) (h:EqX N w0 Q w1 n 143 cs cs') (w:World) (hm:Mod N0 w1 w):Calls Tryz.prog 120 #[.agg cs'.toArray,.agg cs.toArray] w fun e w'=>e=.returned (.bool true)/\Mod N0 w w':=by
 obtain ⟨m,rfl,hl,hl',hfs⟩:=h.struct rfl Tryz.underlying143
 rw [zc143] at hl hl'
 obtain ⟨u0,hu0,hru0⟩:=hr.cellAt Tryz.underlying143 0 rfl 28 0 rfl rfl zc28 zc143 (by omega)
 obtain ⟨u0',hu0'⟩:∃ u,cs'[0]?=some u:=⟨_,List.getElem?_eq_getElem (by omega)⟩
 have he0:EqX N w0 Q w1 m 28 [u0] [u0']:=by
  have:=eqx_field hfs 0 rfl 28 0 1 rfl rfl zc28
  rwa [take_one hu0,take_one hu0'] at this
 obtain ⟨_,_,a0,a0',l0,c0,c0',rfl,rfl,_⟩:=id (he0.slice rfl Tryz.underlying28 zc73)
 have HU0:=hh (And.intro hu0 hu0')
 have HE0:=hh (And.intro hru0 he0)
 clear hu0 hu0' hru0 he0
 obtain ⟨u1,hu1,hru1⟩:=hr.cellAt Tryz.underlying143 1 rfl 28 1 rfl rfl zc28 zc143 (by omega)
 obtain ⟨u1',hu1'⟩:∃ u,cs'[1]?=some u:=⟨_,List.getElem?_eq_getElem (by omega)⟩
 have he1:EqX N w0 Q w1 m 28 [u1] [u1']:=by
  have:=eqx_field hfs 1 rfl 28 1 1 rfl rfl zc28
  rwa [take_one hu1,take_one hu1'] at this
 obtain ⟨_,_,a1,a1',l1,c1,c1',rfl,rfl,_⟩:=id (he1.slice rfl Tryz.underlying28 zc73)
 have HU1:=hh (And.intro hu1 hu1')
 have HE1:=hh (And.intro hru1 he1)
 clear hu1 hu1' hru1 he1
 obtain ⟨u2,hu2,hru2⟩:=hr.cellAt Tryz.underlying143 2 rfl 2 2 rfl rfl zc2 zc143 (by omega)
 obtain ⟨n2,rfl,_⟩:=hru2.int Tryz.underlying2
 have hu2':cs'[2]?=some (.int .i64 n2):=flat_cell ((eqx_field hfs 2 rfl 2 2 1 rfl rfl zc2).flat rfl) hu2
 have HU2:=hh (And.intro hu2 hu2')
 clear hu2 hu2' hru2
 obtain ⟨u3,hu3,hru3⟩:=hr.cellAt Tryz.underlying143 3 rfl 2 3 rfl rfl zc2 zc143 (by omega)
 obtain ⟨n3,rfl,_⟩:=hru3.int Tryz.underlying2
 have hu3':cs'[3]?=some (.int .i64 n3):=flat_cell ((eqx_field hfs 3 rfl 2 3 1 rfl rfl zc2).flat rfl) hu3
 have HU3:=hh (And.intro hu3 hu3')
 clear hu3 hu3' hru3
 obtain ⟨u4,hu4,hru4⟩:=hr.cellAt Tryz.underlying143 4 rfl 33 4 rfl rfl zc33 zc143 (by omega)
 obtain ⟨u4',hu4'⟩:∃ u,cs'[4]?=some u:=⟨_,List.getElem?_eq_getElem (by omega)⟩
 have he4:EqX N w0 Q w1 m 33 [u4] [u4']:=by
  have:=eqx_field hfs 4 rfl 33 4 1 rfl rfl zc33
  rwa [take_one hu4,take_one hu4'] at this
 obtain ⟨_,_,a4,a4',l4,c4,c4',rfl,rfl,_⟩:=id (he4.slice rfl Tryz.underlying33 zc78)
 have HU4:=hh (And.intro hu4 hu4')
 have HE4:=hh (And.intro hru4 he4)
 clear hu4 hu4' hru4 he4
 obtain ⟨w2,hw2⟩:∃ w2,(w.alloc (.cells cs'.toArray 143)).alloc (.cells cs.toArray 143)=w2:=⟨_,rfl⟩
 have hA:w2.heap[w.heap.size]?=some (.cells cs'.toArray 143 (0,0)):=by rw [← hw2]; exact allocB (newB w _) _
 have hB:w2.heap[w.heap.size+1]?=some (.cells cs.toArray 143 (0,0)):=by
  rw [← hw2]; have:=newB (w.alloc (.cells cs'.toArray 143)) (.cells cs.toArray 143); rwa [World.size_alloc] at this
 have hm2:Mod N0 w w2:=by rw [← hw2]; exact ((Mod.refl _ w).alloc _).alloc _
 have HA:=hh (fun (W:World) (hW:Mod N0 w2 W)=>(hW.block _ (ltB hA) (fun q=>q)).trans hA)
 have HB:=hh (fun (W:World) (hW:Mod N0 w2 W)=>(hW.block _ (ltB hB) (fun q=>q)).trans hB)
 have HL:=hh (And.intro hl hl')
 have HM2:=hh hm2
 have HM:=hh (hm.tr hm2)
 clear hA hB hm2 hm hl hl' hfs hr h
 go_enter Tryz.func120,Tryz.ntmps120
 go_upto_region 1 with fail
 refine wp_region_lit ?_
 refine ex (v:=.pointer (some ⟨w.heap.size,0,none⟩)) ?_
 have s:w2.cell? ⟨w.heap.size,0,none⟩=some (.slice a0' l0 c0'):=(cellB (HA.out _ (Mod.refl N0 w2)) 0).trans (by rw [List.getElem?_toArray]; exact HU0.out.2)
 refine ex (v:=.slice a0' l0 c0') ?_
 clear s
 refine ex (v:=.pointer (some ⟨w.heap.size+1,0,none⟩)) ?_
 have s:w2.cell? ⟨w.heap.size+1,0,none⟩=some (.slice a0 l0 c0):=(cellB (HB.out _ (Mod.refl N0 w2)) 0).trans (by rw [List.getElem?_toArray]; exact HU0.out.1)
 refine ex (v:=.slice a0 l0 c0) ?_
 clear s
 go_wp2_with fail
 refine (sameEntries _ _ HE0.out.1 HE0.out.2 w2 (HM.out.tr (Mod.refl N0 w2))).mono ?_
 rintro e v1 ⟨rfl,hm1⟩
 rename_i hK
 refine hK _ _ ?_
 clear hK
 (try simp only [Act.put,ja,jb,jc])
 have HV1:=hh ((Mod.refl N0 w2).tr hm1)
 clear hm1
 refine ex (v:=.bool true) ?_
 refine eg (v:=.pointer (some ⟨w.heap.size,1,none⟩)) ?_
 have s:v1.cell? ⟨w.heap.size,1,none⟩=some (.slice a1' l1 c1'):=(cellB (HA.out _ HV1.out) 1).trans (by rw [List.getElem?_toArray]; exact HU1.out.2)
 refine eg (v:=.slice a1' l1 c1') ?_
 clear s
 refine eg (v:=.pointer (some ⟨w.heap.size+1,1,none⟩)) ?_
 have s:v1.cell? ⟨w.heap.size+1,1,none⟩=some (.slice a1 l1 c1):=(cellB (HB.out _ HV1.out) 1).trans (by rw [List.getElem?_toArray]; exact HU1.out.1)
 refine eg (v:=.slice a1 l1 c1) ?_
 clear s
 go_wp2_with fail
 refine (sameEntries _ _ HE1.out.1 HE1.out.2 v1 (HM.out.tr HV1.out)).mono ?_
 rintro e v2 ⟨rfl,hm2⟩
 rename_i hK
 refine hK _ _ ?_
 clear hK
 (try simp only [Act.put,ja,jb,jc])
 have HV2:=hh (HV1.out.tr hm2)
 clear hm2
 refine ex (v:=.bool true) ?_
 refine ex (v:=.bool true) ?_
 refine eg (v:=.pointer (some ⟨w.heap.size,2,none⟩)) ?_
 have s:v2.cell? ⟨w.heap.size,2,none⟩=some (.int .i64 n2):=(cellB (HA.out _ HV2.out) 2).trans (by rw [List.getElem?_toArray]; exact HU2.out.2)
 refine eg (v:=.int .i64 n2) ?_
 clear s
 refine eg (v:=.pointer (some ⟨w.heap.size+1,2,none⟩)) ?_
 have s:v2.cell? ⟨w.heap.size+1,2,none⟩=some (.int .i64 n2):=(cellB (HB.out _ HV2.out) 2).trans (by rw [List.getElem?_toArray]; exact HU2.out.1)
 refine eg (v:=.int .i64 n2) ?_
 clear s
 refine eg (v:=.bool true) ?_
 refine ex (v:=.bool true) ?_
 refine ex (v:=.bool true) ?_
 refine eg (v:=.pointer (some ⟨w.heap.size,3,none⟩)) ?_
 have s:v2.cell? ⟨w.heap.size,3,none⟩=some (.int .i64 n3):=(cellB (HA.out _ HV2.out) 3).trans (by rw [List.getElem?_toArray]; exact HU3.out.2)
 refine eg (v:=.int .i64 n3) ?_
 clear s
 refine eg (v:=.pointer (some ⟨w.heap.size+1,3,none⟩)) ?_
 have s:v2.cell? ⟨w.heap.size+1,3,none⟩=some (.int .i64 n3):=(cellB (HB.out _ HV2.out) 3).trans (by rw [List.getElem?_toArray]; exact HU3.out.1)
 refine eg (v:=.int .i64 n3) ?_
 clear s
 refine eg (v:=.bool true) ?_
 refine ex (v:=.bool true) ?_
 refine ex (v:=.bool true) ?_
 refine eg (v:=.pointer (some ⟨w.heap.size,4,none⟩)) ?_
 have s:v2.cell? ⟨w.heap.size,4,none⟩=some (.slice a4' l4 c4'):=(cellB (HA.out _ HV2.out) 4).trans (by rw [List.getElem?_toArray]; exact HU4.out.2)
 refine eg (v:=.slice a4' l4 c4') ?_
 clear s
 refine eg (v:=.pointer (some ⟨w.heap.size+1,4,none⟩)) ?_
 have s:v2.cell? ⟨w.heap.size+1,4,none⟩=some (.slice a4 l4 c4):=(cellB (HB.out _ HV2.out) 4).trans (by rw [List.getElem?_toArray]; exact HU4.out.1)
 refine eg (v:=.slice a4 l4 c4) ?_
 clear s
 go_wp2_with fail
 refine (sameTotals _ _ HE4.out.1 HE4.out.2 v2 (HM.out.tr HV2.out)).mono ?_
 rintro e v3 ⟨rfl,hm3⟩
 rename_i hK
 refine hK _ _ ?_
 clear hK
 (try simp only [Act.put,ja,jb,jc])
 have HV3:=hh (HV2.out.tr hm3)
 clear hm3
 refine ex (v:=.bool true) ?_
 refine ex (v:=.bool true) ?_
 go_wp2_with fail
 go_ret
 exact ⟨rfl,HM2.out.tr HV3.out⟩
set_option maxRecDepth 100000 in
set_option maxHeartbeats 1000000 in
theorem sameStored {N n:Nat} {w0 w1:World} {Q:Nat->Prop} (cs cs':List Value) (hr:Rd w0 145 cs) (h:EqX N w0 Q w1 n 145 cs cs') (w:World) (hm:Mod N0 w1 w):Calls Tryz.prog 67 #[.agg cs'.toArray,.agg cs.toArray] w fun e w'=>e=.returned (.bool true)/\Mod N0 w w':=by
 obtain ⟨m,rfl,hl,hl',hfs⟩:=h.struct rfl Tryz.underlying145
 rw [zc145] at hl hl'
 have HF0:=hh (And.intro (hr.fieldAt Tryz.underlying145 0 rfl 27 0 32 rfl rfl zc27) (show (cs'.drop 0).take 32=(cs.drop 0).take 32 from (eqx_field hfs 0 rfl 27 0 32 rfl rfl zc27).flat rfl))
 have HE1:=hh (And.intro (hr.fieldAt Tryz.underlying145 1 rfl 140 32 68 rfl rfl zc140) (show EqX N w0 Q w1 m 140 ((cs.drop 32).take 68) ((cs'.drop 32).take 68) from eqx_field hfs 1 rfl 140 32 68 rfl rfl zc140))
 obtain ⟨u2,hu2,hru2⟩:=hr.cellAt Tryz.underlying145 2 rfl 141 100 rfl rfl zc141 zc145 (by omega)
 obtain ⟨n2,rfl,_⟩:=hru2.int Tryz.underlying141
 have hu2':cs'[100]?=some (.int .i64 n2):=flat_cell ((eqx_field hfs 2 rfl 141 100 1 rfl rfl zc141).flat rfl) hu2
 have HU2:=hh (And.intro hu2 hu2')
 clear hu2 hu2' hru2
 have HE3:=hh (And.intro (hr.fieldAt Tryz.underlying145 3 rfl 143 101 5 rfl rfl zc143) (show EqX N w0 Q w1 m 143 ((cs.drop 101).take 5) ((cs'.drop 101).take 5) from eqx_field hfs 3 rfl 143 101 5 rfl rfl zc143))
 obtain ⟨w2,hw2⟩:∃ w2,(w.alloc (.cells cs'.toArray 145)).alloc (.cells cs.toArray 145)=w2:=⟨_,rfl⟩
 have hA:w2.heap[w.heap.size]?=some (.cells cs'.toArray 145 (0,0)):=by rw [← hw2]; exact allocB (newB w _) _
 have hB:w2.heap[w.heap.size+1]?=some (.cells cs.toArray 145 (0,0)):=by
  rw [← hw2]; have:=newB (w.alloc (.cells cs'.toArray 145)) (.cells cs.toArray 145); rwa [World.size_alloc] at this
 have hm2:Mod N0 w w2:=by rw [← hw2]; exact ((Mod.refl _ w).alloc _).alloc _
 have HA:=hh (fun (W:World) (hW:Mod N0 w2 W)=>(hW.block _ (ltB hA) (fun q=>q)).trans hA)
 have HB:=hh (fun (W:World) (hW:Mod N0 w2 W)=>(hW.block _ (ltB hB) (fun q=>q)).trans hB)
 have HL:=hh (And.intro hl hl')
 have HM2:=hh hm2
 have HM:=hh (hm.tr hm2)
 clear hA hB hm2 hm hl hl' hfs hr h
 go_enter Tryz.func67,Tryz.ntmps67
 go_upto_region 1 with fail
 refine wp_region_lit ?_
 refine ex (v:=.pointer (some ⟨w.heap.size,0,none⟩)) ?_
 have hld:(loadVar 27 ⟨w.heap.size,0,none⟩).run Tryz.prog w2=.ok (.agg ((cs.drop 0).take 32).toArray) w2:=by
  have:=load_box (HA.out _ (Mod.refl N0 w2)) 27 0 32 _ Tryz.underlying27 rfl zs27 (by have:=HL.out.2; omega)
  rw [HF0.out.2] at this
  exact this
 refine wx (exec_load_pt _ _ 27 _ rfl ⟨w.heap.size,0,none⟩ rfl hld) ?_
 clear hld
 refine ex (v:=.pointer (some ⟨w.heap.size+1,0,none⟩)) ?_
 have hld:(loadVar 27 ⟨w.heap.size+1,0,none⟩).run Tryz.prog w2=.ok (.agg ((cs.drop 0).take 32).toArray) w2:=by
  have:=load_box (HB.out _ (Mod.refl N0 w2)) 27 0 32 _ Tryz.underlying27 rfl zs27 (by have:=HL.out.1; omega)
  exact this
 refine wx (exec_load_pt _ _ 27 _ rfl ⟨w.heap.size+1,0,none⟩ rfl hld) ?_
 clear hld
 refine wx (exec_eql_same _ _ rfl (ds:=(cs.drop 0).take 32) rfl rfl 2 (by omega) kt27 (formed27 (by have:=HL.out.1; simp; omega)) gt27 HF0.out.1) ?_
 refine ex (v:=.bool true) ?_
 refine eg (v:=.pointer (some ⟨w.heap.size,32,none⟩)) ?_
 refine gx (exec_load_pt _ _ 140 _ rfl ⟨w.heap.size,32,none⟩ rfl (load_box (HA.out _ (Mod.refl N0 w2)) 140 32 68 _ Tryz.underlying140 rfl zs140 (by have:=HL.out.2; omega))) ?_
 refine eg (v:=.pointer (some ⟨w.heap.size+1,32,none⟩)) ?_
 refine gx (exec_load_pt _ _ 140 _ rfl ⟨w.heap.size+1,32,none⟩ rfl (load_box (HB.out _ (Mod.refl N0 w2)) 140 32 68 _ Tryz.underlying140 rfl zs140 (by have:=HL.out.1; omega))) ?_
 go_wp2_with fail
 refine (sameBlock _ _ HE1.out.1 HE1.out.2 w2 (HM.out.tr (Mod.refl N0 w2))).mono ?_
 rintro e v1 ⟨rfl,hm1⟩
 rename_i hK
 refine hK _ _ ?_
 clear hK
 (try simp only [Act.put,ja,jb,jc])
 have HV1:=hh ((Mod.refl N0 w2).tr hm1)
 clear hm1
 refine ex (v:=.bool true) ?_
 refine ex (v:=.bool true) ?_
 refine eg (v:=.pointer (some ⟨w.heap.size,100,none⟩)) ?_
 have s:v1.cell? ⟨w.heap.size,100,none⟩=some (.int .i64 n2):=(cellB (HA.out _ HV1.out) 100).trans (by rw [List.getElem?_toArray]; exact HU2.out.2)
 refine eg (v:=.int .i64 n2) ?_
 clear s
 refine eg (v:=.pointer (some ⟨w.heap.size+1,100,none⟩)) ?_
 have s:v1.cell? ⟨w.heap.size+1,100,none⟩=some (.int .i64 n2):=(cellB (HB.out _ HV1.out) 100).trans (by rw [List.getElem?_toArray]; exact HU2.out.1)
 refine eg (v:=.int .i64 n2) ?_
 clear s
 refine eg (v:=.bool true) ?_
 refine ex (v:=.bool true) ?_
 refine ex (v:=.bool true) ?_
 refine eg (v:=.pointer (some ⟨w.heap.size,101,none⟩)) ?_
 refine gx (exec_load_pt _ _ 143 _ rfl ⟨w.heap.size,101,none⟩ rfl (load_box (HA.out _ HV1.out) 143 101 5 _ Tryz.underlying143 rfl zs143 (by have:=HL.out.2; omega))) ?_
 refine eg (v:=.pointer (some ⟨w.heap.size+1,101,none⟩)) ?_
 refine gx (exec_load_pt _ _ 143 _ rfl ⟨w.heap.size+1,101,none⟩ rfl (load_box (HB.out _ HV1.out) 143 101 5 _ Tryz.underlying143 rfl zs143 (by have:=HL.out.1; omega))) ?_
 go_wp2_with fail
 refine (sameDiff _ _ HE3.out.1 HE3.out.2 v1 (HM.out.tr HV1.out)).mono ?_
 rintro e v2 ⟨rfl,hm2⟩
 rename_i hK
 refine hK _ _ ?_
 clear hK
 (try simp only [Act.put,ja,jb,jc])
 have HV2:=hh (HV1.out.tr hm2)
 clear hm2
 refine ex (v:=.bool true) ?_
 refine ex (v:=.bool true) ?_
 go_wp2_with fail
 go_ret
 exact ⟨rfl,HM2.out.tr HV2.out⟩
set_option maxRecDepth 100000 in
set_option maxHeartbeats 1000000 in
theorem sameStoredRows {N n:Nat} {w0 w1:World} {Q:Nat->Prop} (v v':Value) (hr:Rd w0 29 [v]) (h:EqX N w0 Q w1 n 29 [v] [v']) (w:World) (hm:Mod N0 w1 w):Calls Tryz.prog 42 #[v',v] w fun e w'=>e=.returned (.bool true)/\Mod N0 w w':=by
 obtain ⟨m,rfl,a,a',len,cap,cap',rfl,rfl,hel⟩:=h.slice rfl Tryz.underlying29 zc145
 obtain ⟨a2,len2,cap2,e2,hb,_,_⟩:=hr.slice Tryz.underlying29 zc145 (by omega)
 simp only [Value.slice.injEq] at e2
 obtain ⟨rfl,rfl,rfl⟩:=e2
 have hlen:=len_of_bytes hb zb145
 have HE:=hh hel
 have HM:=hh hm
 clear hel hm hr hb
 go_enter Tryz.func42,Tryz.ntmps42
 go_wp2_with fail
 go_loopw [5] (fun i wr=>∃ k:Nat,k<=len/\i=.int .i64 k/\Mod N0 w wr) (fun i _=>len - (intOf i).toNat)
 case atStart=>exact ⟨0,by omega,rfl,Mod.refl _ w⟩
 case round=>
  obtain ⟨k,hk,rfl,hmr⟩:=hrel
  have HMR:=hh hmr
  clear hmr
  by_cases hlt:k<len
  ·obtain ⟨L,off,ds,L',off',ds',rfl,rfl,hrd,_,hL,hL',_,hl,hl',hc,hc',he⟩:=HE.out k hlt
   have HA:=hh (fun (W:World) (hW:Mod N0 w W)=>(show (loadVar 145 ⟨L',off'+k * 106,none⟩).run Tryz.prog W=.ok (.agg ds'.toArray) W from by
    have:=load_mid (w:=W) (p:=off'+k * 106) (fun j u hu=>((HM.out.tr hW).cell (p:=⟨L',_,none⟩) hL' (fun q=>q)).trans (hc' j u hu)) 145 0 106 _ Tryz.underlying145 rfl zs145 (by omega)
    rw [List.drop_zero,List.take_of_length_le (by omega),Nat.add_zero] at this
    exact this))
   have HB:=hh (fun (W:World) (hW:Mod N0 w W)=>(show (loadVar 145 ⟨L,off+k * 106,none⟩).run Tryz.prog W=.ok (.agg ds.toArray) W from by
    have:=load_mid (w:=W) (p:=off+k * 106) (fun j u hu=>((HM.out.tr hW).cell (p:=⟨L,_,none⟩) hL (fun q=>q)).trans (hc j u hu)) 145 0 106 _ Tryz.underlying145 rfl zs145 (by omega)
    rw [List.drop_zero,List.take_of_length_le (by omega),Nat.add_zero] at this
    exact this))
   have HRD:=hh (And.intro hrd he)
   clear hrd hc hc' he hl hl' hL hL'
   go_upto_region 6 with fail
   refine wp_region_held_drew (S:=fun W=>Mod N0 w W) (by kernel_rfl) HMR.out.drew (fun hH=>?_)
   refine tq (i:=0) (oi:=⟨some 17,.move (.tmp 0),29, "same.go:649",#[],none⟩) (v:=.slice (some ⟨L',off',none⟩) len cap') hH ?_
   refine tq (i:=1) (oi:=⟨some 18,.move (.tmp 5),3, "same.go:649",#[],none⟩) (v:=.int .i64 k) hH ?_
   refine tq (i:=2) (oi:=⟨some 19,.indexAddr 29 (.tmp 17) (.tmp 18),0, "same.go:649",#[⟨0,.data⟩,⟨1,.data⟩],none⟩) (v:=.pointer (some ⟨L',off'+k * 106,none⟩)) hH ?_
   refine tk (i:=3) (oi:=⟨some 20,.load 145 (.tmp 19),145, "same.go:649",#[⟨2,.data⟩],none⟩) (v:=.agg ds'.toArray) hH (fun w' hSw=>by exact exec_load_pt _ _ 145 _ rfl ⟨L',off'+k * 106,none⟩ rfl (HA.out _ hSw)) ?_
   refine tq (i:=4) (oi:=⟨some 21,.move (.tmp 1),29, "same.go:649",#[],none⟩) (v:=.slice (some ⟨L,off,none⟩) len cap) hH ?_
   refine tq (i:=5) (oi:=⟨some 22,.move (.tmp 5),3, "same.go:649",#[],none⟩) (v:=.int .i64 k) hH ?_
   refine tq (i:=6) (oi:=⟨some 23,.indexAddr 29 (.tmp 21) (.tmp 22),0, "same.go:649",#[⟨4,.data⟩,⟨5,.data⟩],none⟩) (v:=.pointer (some ⟨L,off+k * 106,none⟩)) hH ?_
   refine tk (i:=7) (oi:=⟨some 24,.load 145 (.tmp 23),145, "same.go:649",#[⟨6,.data⟩],none⟩) (v:=.agg ds.toArray) hH (fun w' hSw=>by exact exec_load_pt _ _ 145 _ rfl ⟨L,off+k * 106,none⟩ rfl (HB.out _ hSw)) ?_
   refine tr (rs:=[8]) ?_
   refine AllReadyH.cons (o:=⟨some 25,.call {callee:=.value (.func 67),args:=#[.tmp 20,.tmp 24],argTypes:=#[145,145]},4, "same.go:649",#[⟨3,.data⟩,⟨7,.data⟩],none⟩) rfl (fun K hK=>?_) AllReadyH.nil
   go_simp
   refine (sameStored _ _ HRD.out.1 HRD.out.2 wr.drew ((HM.out.tr HMR.out).drew)).mono ?_
   rintro e w9 ⟨rfl,hm9⟩
   have HM9:=hh ((HMR.out.drew).tr hm9)
   clear hm9
   refine hK.out _ _ HM9.out (fun hH=>?_)
   clear hK K
   (try simp only [Act.put,ja,jb,jc])
   refine tq (i:=9) (oi:=⟨some 26,.unOp .not 4 (.tmp 25),4, "same.go:649",#[⟨8,.data⟩],none⟩) (v:=.bool false) hH ?_
   refine wpAnyH_done (by kernel_rfl) ?_ _
   go_wp2_with fail
   go_roundw
   case rel=>exact ⟨k+1,by omega,rfl,HM9.out⟩
   case measure=>simp [intOf]; omega
  ·have e:k=len:=by omega
   subst e
   go_wp2_with fail
   go_ret
   exact ⟨rfl,HMR.out⟩
set_option maxRecDepth 100000 in
set_option maxHeartbeats 1000000 in
theorem sameState {N n:Nat} {w0 w1:World} {Q:Nat->Prop} (cs cs':List Value) (hr:Rd w0 36 cs) (h:EqX N w0 Q w1 n 36 cs cs') (w:World) (hm:Mod N0 w1 w):Calls Tryz.prog 19 #[.agg cs'.toArray,.agg cs.toArray] w fun e w'=>e=.returned (.bool true)/\Mod N0 w w':=by
 obtain ⟨m,rfl,hl,hl',hfs⟩:=h.struct rfl Tryz.underlying36
 rw [zc36] at hl hl'
 have HF0:=hh (And.intro (hr.fieldAt Tryz.underlying36 0 rfl 25 0 12 rfl rfl zc25) (show (cs'.drop 0).take 12=(cs.drop 0).take 12 from (eqx_field hfs 0 rfl 25 0 12 rfl rfl zc25).flat rfl))
 have HF1:=hh (And.intro (hr.fieldAt Tryz.underlying36 1 rfl 27 12 32 rfl rfl zc27) (show (cs'.drop 12).take 32=(cs.drop 12).take 32 from (eqx_field hfs 1 rfl 27 12 32 rfl rfl zc27).flat rfl))
 obtain ⟨u2,hu2,hru2⟩:=hr.cellAt Tryz.underlying36 2 rfl 28 44 rfl rfl zc28 zc36 (by omega)
 obtain ⟨u2',hu2'⟩:∃ u,cs'[44]?=some u:=⟨_,List.getElem?_eq_getElem (by omega)⟩
 have he2:EqX N w0 Q w1 m 28 [u2] [u2']:=by
  have:=eqx_field hfs 2 rfl 28 44 1 rfl rfl zc28
  rwa [take_one hu2,take_one hu2'] at this
 obtain ⟨_,_,a2,a2',l2,c2,c2',rfl,rfl,_⟩:=id (he2.slice rfl Tryz.underlying28 zc73)
 have HU2:=hh (And.intro hu2 hu2')
 have HE2:=hh (And.intro hru2 he2)
 clear hu2 hu2' hru2 he2
 obtain ⟨u3,hu3,hru3⟩:=hr.cellAt Tryz.underlying36 3 rfl 29 45 rfl rfl zc29 zc36 (by omega)
 obtain ⟨u3',hu3'⟩:∃ u,cs'[45]?=some u:=⟨_,List.getElem?_eq_getElem (by omega)⟩
 have he3:EqX N w0 Q w1 m 29 [u3] [u3']:=by
  have:=eqx_field hfs 3 rfl 29 45 1 rfl rfl zc29
  rwa [take_one hu3,take_one hu3'] at this
 obtain ⟨_,_,a3,a3',l3,c3,c3',rfl,rfl,_⟩:=id (he3.slice rfl Tryz.underlying29 zc145)
 have HU3:=hh (And.intro hu3 hu3')
 have HE3:=hh (And.intro hru3 he3)
 clear hu3 hu3' hru3 he3
 have HF4:=hh (And.intro (hr.fieldAt Tryz.underlying36 4 rfl 32 46 67 rfl rfl zc32) (show (cs'.drop 46).take 67=(cs.drop 46).take 67 from (eqx_field hfs 4 rfl 32 46 67 rfl rfl zc32).flat rfl))
 have HF5:=hh (And.intro (hr.fieldAt Tryz.underlying36 5 rfl 27 113 32 rfl rfl zc27) (show (cs'.drop 113).take 32=(cs.drop 113).take 32 from (eqx_field hfs 5 rfl 27 113 32 rfl rfl zc27).flat rfl))
 have HF6:=hh (And.intro (hr.fieldAt Tryz.underlying36 6 rfl 27 145 32 rfl rfl zc27) (show (cs'.drop 145).take 32=(cs.drop 145).take 32 from (eqx_field hfs 6 rfl 27 145 32 rfl rfl zc27).flat rfl))
 obtain ⟨u7,hu7,hru7⟩:=hr.cellAt Tryz.underlying36 7 rfl 2 177 rfl rfl zc2 zc36 (by omega)
 obtain ⟨n7,rfl,_⟩:=hru7.int Tryz.underlying2
 have hu7':cs'[177]?=some (.int .i64 n7):=flat_cell ((eqx_field hfs 7 rfl 2 177 1 rfl rfl zc2).flat rfl) hu7
 have HU7:=hh (And.intro hu7 hu7')
 clear hu7 hu7' hru7
 obtain ⟨u8,hu8,hru8⟩:=hr.cellAt Tryz.underlying36 8 rfl 2 178 rfl rfl zc2 zc36 (by omega)
 obtain ⟨n8,rfl,_⟩:=hru8.int Tryz.underlying2
 have hu8':cs'[178]?=some (.int .i64 n8):=flat_cell ((eqx_field hfs 8 rfl 2 178 1 rfl rfl zc2).flat rfl) hu8
 have HU8:=hh (And.intro hu8 hu8')
 clear hu8 hu8' hru8
 obtain ⟨u9,hu9,hru9⟩:=hr.cellAt Tryz.underlying36 9 rfl 33 179 rfl rfl zc33 zc36 (by omega)
 obtain ⟨u9',hu9'⟩:∃ u,cs'[179]?=some u:=⟨_,List.getElem?_eq_getElem (by omega)⟩
 have he9:EqX N w0 Q w1 m 33 [u9] [u9']:=by
  have:=eqx_field hfs 9 rfl 33 179 1 rfl rfl zc33
  rwa [take_one hu9,take_one hu9'] at this
 obtain ⟨_,_,a9,a9',l9,c9,c9',rfl,rfl,_⟩:=id (he9.slice rfl Tryz.underlying33 zc78)
 have HU9:=hh (And.intro hu9 hu9')
 have HE9:=hh (And.intro hru9 he9)
 clear hu9 hu9' hru9 he9
 obtain ⟨u10,hu10,hru10⟩:=hr.cellAt Tryz.underlying36 10 rfl 34 180 rfl rfl zc34 zc36 (by omega)
 obtain ⟨u10',hu10'⟩:∃ u,cs'[180]?=some u:=⟨_,List.getElem?_eq_getElem (by omega)⟩
 have he10:EqX N w0 Q w1 m 34 [u10] [u10']:=by
  have:=eqx_field hfs 10 rfl 34 180 1 rfl rfl zc34
  rwa [take_one hu10,take_one hu10'] at this
 obtain ⟨_,_,a10,a10',l10,c10,c10',rfl,rfl,_⟩:=id (he10.slice rfl Tryz.underlying34 zc158)
 have HU10:=hh (And.intro hu10 hu10')
 have HE10:=hh (And.intro hru10 he10)
 clear hu10 hu10' hru10 he10
 obtain ⟨u11,hu11,hru11⟩:=hr.cellAt Tryz.underlying36 11 rfl 2 181 rfl rfl zc2 zc36 (by omega)
 obtain ⟨n11,rfl,_⟩:=hru11.int Tryz.underlying2
 have hu11':cs'[181]?=some (.int .i64 n11):=flat_cell ((eqx_field hfs 11 rfl 2 181 1 rfl rfl zc2).flat rfl) hu11
 have HU11:=hh (And.intro hu11 hu11')
 clear hu11 hu11' hru11
 obtain ⟨w2,hw2⟩:∃ w2,(w.alloc (.cells cs'.toArray 36)).alloc (.cells cs.toArray 36)=w2:=⟨_,rfl⟩
 have hA:w2.heap[w.heap.size]?=some (.cells cs'.toArray 36 (0,0)):=by rw [← hw2]; exact allocB (newB w _) _
 have hB:w2.heap[w.heap.size+1]?=some (.cells cs.toArray 36 (0,0)):=by
  rw [← hw2]; have:=newB (w.alloc (.cells cs'.toArray 36)) (.cells cs.toArray 36); rwa [World.size_alloc] at this
 have hm2:Mod N0 w w2:=by rw [← hw2]; exact ((Mod.refl _ w).alloc _).alloc _
 have HA:=hh (fun (W:World) (hW:Mod N0 w2 W)=>(hW.block _ (ltB hA) (fun q=>q)).trans hA)
 have HB:=hh (fun (W:World) (hW:Mod N0 w2 W)=>(hW.block _ (ltB hB) (fun q=>q)).trans hB)
 have HL:=hh (And.intro hl hl')
 have HM2:=hh hm2
 have HM:=hh (hm.tr hm2)
 clear hA hB hm2 hm hl hl' hfs hr h
 go_enter Tryz.func19,Tryz.ntmps19
 go_upto_region 1 with fail
 refine wp_region_lit ?_
 refine ex (v:=.pointer (some ⟨w.heap.size,0,none⟩)) ?_
 have hld:(loadVar 25 ⟨w.heap.size,0,none⟩).run Tryz.prog w2=.ok (.agg ((cs.drop 0).take 12).toArray) w2:=by
  have:=load_box (HA.out _ (Mod.refl N0 w2)) 25 0 12 _ Tryz.underlying25 rfl zs25 (by have:=HL.out.2; omega)
  rw [HF0.out.2] at this
  exact this
 refine wx (exec_load_pt _ _ 25 _ rfl ⟨w.heap.size,0,none⟩ rfl hld) ?_
 clear hld
 refine ex (v:=.pointer (some ⟨w.heap.size+1,0,none⟩)) ?_
 have hld:(loadVar 25 ⟨w.heap.size+1,0,none⟩).run Tryz.prog w2=.ok (.agg ((cs.drop 0).take 12).toArray) w2:=by
  have:=load_box (HB.out _ (Mod.refl N0 w2)) 25 0 12 _ Tryz.underlying25 rfl zs25 (by have:=HL.out.1; omega)
  exact this
 refine wx (exec_load_pt _ _ 25 _ rfl ⟨w.heap.size+1,0,none⟩ rfl hld) ?_
 clear hld
 refine wx (exec_eql_same _ _ rfl (ds:=(cs.drop 0).take 12) rfl rfl 3 (by omega) kt25 (formed25 (by have:=HL.out.1; simp; omega)) gt25 HF0.out.1) ?_
 refine ex (v:=.bool true) ?_
 refine eg (v:=.pointer (some ⟨w.heap.size,12,none⟩)) ?_
 have hld:(loadVar 27 ⟨w.heap.size,12,none⟩).run Tryz.prog w2=.ok (.agg ((cs.drop 12).take 32).toArray) w2:=by
  have:=load_box (HA.out _ (Mod.refl N0 w2)) 27 12 32 _ Tryz.underlying27 rfl zs27 (by have:=HL.out.2; omega)
  rw [HF1.out.2] at this
  exact this
 refine gx (exec_load_pt _ _ 27 _ rfl ⟨w.heap.size,12,none⟩ rfl hld) ?_
 clear hld
 refine eg (v:=.pointer (some ⟨w.heap.size+1,12,none⟩)) ?_
 have hld:(loadVar 27 ⟨w.heap.size+1,12,none⟩).run Tryz.prog w2=.ok (.agg ((cs.drop 12).take 32).toArray) w2:=by
  have:=load_box (HB.out _ (Mod.refl N0 w2)) 27 12 32 _ Tryz.underlying27 rfl zs27 (by have:=HL.out.1; omega)
  exact this
 refine gx (exec_load_pt _ _ 27 _ rfl ⟨w.heap.size+1,12,none⟩ rfl hld) ?_
 clear hld
 refine gx (exec_eql_same _ _ rfl (ds:=(cs.drop 12).take 32) rfl rfl 2 (by omega) kt27 (formed27 (by have:=HL.out.1; simp; omega)) gt27 HF1.out.1) ?_
 refine ex (v:=.bool true) ?_
 refine ex (v:=.bool true) ?_
 refine eg (v:=.pointer (some ⟨w.heap.size,44,none⟩)) ?_
 have s:w2.cell? ⟨w.heap.size,44,none⟩=some (.slice a2' l2 c2'):=(cellB (HA.out _ (Mod.refl N0 w2)) 44).trans (by rw [List.getElem?_toArray]; exact HU2.out.2)
 refine eg (v:=.slice a2' l2 c2') ?_
 clear s
 refine eg (v:=.pointer (some ⟨w.heap.size+1,44,none⟩)) ?_
 have s:w2.cell? ⟨w.heap.size+1,44,none⟩=some (.slice a2 l2 c2):=(cellB (HB.out _ (Mod.refl N0 w2)) 44).trans (by rw [List.getElem?_toArray]; exact HU2.out.1)
 refine eg (v:=.slice a2 l2 c2) ?_
 clear s
 go_wp2_with fail
 refine (sameEntries _ _ HE2.out.1 HE2.out.2 w2 (HM.out.tr (Mod.refl N0 w2))).mono ?_
 rintro e v1 ⟨rfl,hm1⟩
 rename_i hK
 refine hK _ _ ?_
 clear hK
 (try simp only [Act.put,ja,jb,jc])
 have HV1:=hh ((Mod.refl N0 w2).tr hm1)
 clear hm1
 refine ex (v:=.bool true) ?_
 refine ex (v:=.bool true) ?_
 refine eg (v:=.pointer (some ⟨w.heap.size,45,none⟩)) ?_
 have s:v1.cell? ⟨w.heap.size,45,none⟩=some (.slice a3' l3 c3'):=(cellB (HA.out _ HV1.out) 45).trans (by rw [List.getElem?_toArray]; exact HU3.out.2)
 refine eg (v:=.slice a3' l3 c3') ?_
 clear s
 refine eg (v:=.pointer (some ⟨w.heap.size+1,45,none⟩)) ?_
 have s:v1.cell? ⟨w.heap.size+1,45,none⟩=some (.slice a3 l3 c3):=(cellB (HB.out _ HV1.out) 45).trans (by rw [List.getElem?_toArray]; exact HU3.out.1)
 refine eg (v:=.slice a3 l3 c3) ?_
 clear s
 go_wp2_with fail
 refine (sameStoredRows _ _ HE3.out.1 HE3.out.2 v1 (HM.out.tr HV1.out)).mono ?_
 rintro e v2 ⟨rfl,hm2⟩
 rename_i hK
 refine hK _ _ ?_
 clear hK
 (try simp only [Act.put,ja,jb,jc])
 have HV2:=hh (HV1.out.tr hm2)
 clear hm2
 refine ex (v:=.bool true) ?_
 refine ex (v:=.bool true) ?_
 refine eg (v:=.pointer (some ⟨w.heap.size,46,none⟩)) ?_
 have hld:(loadVar 32 ⟨w.heap.size,46,none⟩).run Tryz.prog v2=.ok (.agg ((cs.drop 46).take 67).toArray) v2:=by
  have:=load_box (HA.out _ HV2.out) 32 46 67 _ Tryz.underlying32 rfl zs32 (by have:=HL.out.2; omega)
  rw [HF4.out.2] at this
  exact this
 refine gx (exec_load_pt _ _ 32 _ rfl ⟨w.heap.size,46,none⟩ rfl hld) ?_
 clear hld
 refine eg (v:=.pointer (some ⟨w.heap.size+1,46,none⟩)) ?_
 have hld:(loadVar 32 ⟨w.heap.size+1,46,none⟩).run Tryz.prog v2=.ok (.agg ((cs.drop 46).take 67).toArray) v2:=by
  have:=load_box (HB.out _ HV2.out) 32 46 67 _ Tryz.underlying32 rfl zs32 (by have:=HL.out.1; omega)
  exact this
 refine gx (exec_load_pt _ _ 32 _ rfl ⟨w.heap.size+1,46,none⟩ rfl hld) ?_
 clear hld
 refine gx (exec_eql_same _ _ rfl (ds:=(cs.drop 46).take 67) rfl rfl 3 (by omega) kt32 (formed32 (by have:=HL.out.1; simp; omega)) gt32 HF4.out.1) ?_
 refine ex (v:=.bool true) ?_
 refine ex (v:=.bool true) ?_
 refine eg (v:=.pointer (some ⟨w.heap.size,113,none⟩)) ?_
 have hld:(loadVar 27 ⟨w.heap.size,113,none⟩).run Tryz.prog v2=.ok (.agg ((cs.drop 113).take 32).toArray) v2:=by
  have:=load_box (HA.out _ HV2.out) 27 113 32 _ Tryz.underlying27 rfl zs27 (by have:=HL.out.2; omega)
  rw [HF5.out.2] at this
  exact this
 refine gx (exec_load_pt _ _ 27 _ rfl ⟨w.heap.size,113,none⟩ rfl hld) ?_
 clear hld
 refine eg (v:=.pointer (some ⟨w.heap.size+1,113,none⟩)) ?_
 have hld:(loadVar 27 ⟨w.heap.size+1,113,none⟩).run Tryz.prog v2=.ok (.agg ((cs.drop 113).take 32).toArray) v2:=by
  have:=load_box (HB.out _ HV2.out) 27 113 32 _ Tryz.underlying27 rfl zs27 (by have:=HL.out.1; omega)
  exact this
 refine gx (exec_load_pt _ _ 27 _ rfl ⟨w.heap.size+1,113,none⟩ rfl hld) ?_
 clear hld
 refine gx (exec_eql_same _ _ rfl (ds:=(cs.drop 113).take 32) rfl rfl 2 (by omega) kt27 (formed27 (by have:=HL.out.1; simp; omega)) gt27 HF5.out.1) ?_
 refine ex (v:=.bool true) ?_
 refine ex (v:=.bool true) ?_
 refine eg (v:=.pointer (some ⟨w.heap.size,145,none⟩)) ?_
 have hld:(loadVar 27 ⟨w.heap.size,145,none⟩).run Tryz.prog v2=.ok (.agg ((cs.drop 145).take 32).toArray) v2:=by
  have:=load_box (HA.out _ HV2.out) 27 145 32 _ Tryz.underlying27 rfl zs27 (by have:=HL.out.2; omega)
  rw [HF6.out.2] at this
  exact this
 refine gx (exec_load_pt _ _ 27 _ rfl ⟨w.heap.size,145,none⟩ rfl hld) ?_
 clear hld
 refine eg (v:=.pointer (some ⟨w.heap.size+1,145,none⟩)) ?_
 have hld:(loadVar 27 ⟨w.heap.size+1,145,none⟩).run Tryz.prog v2=.ok (.agg ((cs.drop 145).take 32).toArray) v2:=by
  have:=load_box (HB.out _ HV2.out) 27 145 32 _ Tryz.underlying27 rfl zs27 (by have:=HL.out.1; omega)
  exact this
 refine gx (exec_load_pt _ _ 27 _ rfl ⟨w.heap.size+1,145,none⟩ rfl hld) ?_
 clear hld
 refine gx (exec_eql_same _ _ rfl (ds:=(cs.drop 145).take 32) rfl rfl 2 (by omega) kt27 (formed27 (by have:=HL.out.1; simp; omega)) gt27 HF6.out.1) ?_
 refine ex (v:=.bool true) ?_
 refine ex (v:=.bool true) ?_
 refine eg (v:=.pointer (some ⟨w.heap.size,177,none⟩)) ?_
 have s:v2.cell? ⟨w.heap.size,177,none⟩=some (.int .i64 n7):=(cellB (HA.out _ HV2.out) 177).trans (by rw [List.getElem?_toArray]; exact HU7.out.2)
 refine eg (v:=.int .i64 n7) ?_
 clear s
 refine eg (v:=.pointer (some ⟨w.heap.size+1,177,none⟩)) ?_
 have s:v2.cell? ⟨w.heap.size+1,177,none⟩=some (.int .i64 n7):=(cellB (HB.out _ HV2.out) 177).trans (by rw [List.getElem?_toArray]; exact HU7.out.1)
 refine eg (v:=.int .i64 n7) ?_
 clear s
 refine eg (v:=.bool true) ?_
 refine ex (v:=.bool true) ?_
 refine ex (v:=.bool true) ?_
 refine eg (v:=.pointer (some ⟨w.heap.size,178,none⟩)) ?_
 have s:v2.cell? ⟨w.heap.size,178,none⟩=some (.int .i64 n8):=(cellB (HA.out _ HV2.out) 178).trans (by rw [List.getElem?_toArray]; exact HU8.out.2)
 refine eg (v:=.int .i64 n8) ?_
 clear s
 refine eg (v:=.pointer (some ⟨w.heap.size+1,178,none⟩)) ?_
 have s:v2.cell? ⟨w.heap.size+1,178,none⟩=some (.int .i64 n8):=(cellB (HB.out _ HV2.out) 178).trans (by rw [List.getElem?_toArray]; exact HU8.out.1)
 refine eg (v:=.int .i64 n8) ?_
 clear s
 refine eg (v:=.bool true) ?_
 refine ex (v:=.bool true) ?_
 refine ex (v:=.bool true) ?_
 refine eg (v:=.pointer (some ⟨w.heap.size,179,none⟩)) ?_
 have s:v2.cell? ⟨w.heap.size,179,none⟩=some (.slice a9' l9 c9'):=(cellB (HA.out _ HV2.out) 179).trans (by rw [List.getElem?_toArray]; exact HU9.out.2)
 refine eg (v:=.slice a9' l9 c9') ?_
 clear s
 refine eg (v:=.pointer (some ⟨w.heap.size+1,179,none⟩)) ?_
 have s:v2.cell? ⟨w.heap.size+1,179,none⟩=some (.slice a9 l9 c9):=(cellB (HB.out _ HV2.out) 179).trans (by rw [List.getElem?_toArray]; exact HU9.out.1)
 refine eg (v:=.slice a9 l9 c9) ?_
 clear s
 go_wp2_with fail
 refine (sameTotals _ _ HE9.out.1 HE9.out.2 v2 (HM.out.tr HV2.out)).mono ?_
 rintro e v3 ⟨rfl,hm3⟩
 rename_i hK
 refine hK _ _ ?_
 clear hK
 (try simp only [Act.put,ja,jb,jc])
 have HV3:=hh (HV2.out.tr hm3)
 clear hm3
 refine ex (v:=.bool true) ?_
 refine ex (v:=.bool true) ?_
 refine eg (v:=.pointer (some ⟨w.heap.size,180,none⟩)) ?_
 have s:v3.cell? ⟨w.heap.size,180,none⟩=some (.slice a10' l10 c10'):=(cellB (HA.out _ HV3.out) 180).trans (by rw [List.getElem?_toArray]; exact HU10.out.2)
 refine eg (v:=.slice a10' l10 c10') ?_
 clear s
 refine eg (v:=.pointer (some ⟨w.heap.size+1,180,none⟩)) ?_
 have s:v3.cell? ⟨w.heap.size+1,180,none⟩=some (.slice a10 l10 c10):=(cellB (HB.out _ HV3.out) 180).trans (by rw [List.getElem?_toArray]; exact HU10.out.1)
 refine eg (v:=.slice a10 l10 c10) ?_
 clear s
 go_wp2_with fail
 refine (sameTxs _ _ HE10.out.1 HE10.out.2 v3 (HM.out.tr HV3.out)).mono ?_
 rintro e v4 ⟨rfl,hm4⟩
 rename_i hK
 refine hK _ _ ?_
 clear hK
 (try simp only [Act.put,ja,jb,jc])
 have HV4:=hh (HV3.out.tr hm4)
 clear hm4
 refine ex (v:=.bool true) ?_
 refine ex (v:=.bool true) ?_
 refine eg (v:=.pointer (some ⟨w.heap.size,181,none⟩)) ?_
 have s:v4.cell? ⟨w.heap.size,181,none⟩=some (.int .i64 n11):=(cellB (HA.out _ HV4.out) 181).trans (by rw [List.getElem?_toArray]; exact HU11.out.2)
 refine eg (v:=.int .i64 n11) ?_
 clear s
 refine eg (v:=.pointer (some ⟨w.heap.size+1,181,none⟩)) ?_
 have s:v4.cell? ⟨w.heap.size+1,181,none⟩=some (.int .i64 n11):=(cellB (HB.out _ HV4.out) 181).trans (by rw [List.getElem?_toArray]; exact HU11.out.1)
 refine eg (v:=.int .i64 n11) ?_
 clear s
 refine eg (v:=.bool true) ?_
 refine ex (v:=.bool true) ?_
 refine ex (v:=.bool true) ?_
 go_wp2_with fail
 go_ret
 exact ⟨rfl,HM2.out.tr HV4.out⟩
end Go.Proofs.YtckcamlicgdklaaGreat
