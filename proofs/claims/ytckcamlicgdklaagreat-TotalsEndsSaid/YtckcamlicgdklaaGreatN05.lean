/- The Same functions of leaf rows: facts, rows that are compared whole. -/
import Derived.Test.YtckcamlicgdklaaGreatN04
namespace Go.Proofs.YtckcamlicgdklaaGreat
open Go.RowKit Go.Mo
theorem zc23:Tryz.prog.cellsOf 23=2:=by kernel_rfl
theorem zc25:Tryz.prog.cellsOf 25=12:=by kernel_rfl
theorem zc27:Tryz.prog.cellsOf 27=32:=by kernel_rfl
theorem zc28:Tryz.prog.cellsOf 28=1:=by kernel_rfl
theorem zc29:Tryz.prog.cellsOf 29=1:=by kernel_rfl
theorem zc32:Tryz.prog.cellsOf 32=67:=by kernel_rfl
theorem zc33:Tryz.prog.cellsOf 33=1:=by kernel_rfl
theorem zc34:Tryz.prog.cellsOf 34=1:=by kernel_rfl
theorem zc36:Tryz.prog.cellsOf 36=182:=by kernel_rfl
theorem zc37:Tryz.prog.cellsOf 37=1:=by kernel_rfl
theorem zc39:Tryz.prog.cellsOf 39=14:=by kernel_rfl
theorem zc41:Tryz.prog.cellsOf 41=33:=by kernel_rfl
theorem zc48:Tryz.prog.cellsOf 48=2:=by kernel_rfl
theorem zc62:Tryz.prog.cellsOf 62=33:=by kernel_rfl
theorem zc63:Tryz.prog.cellsOf 63=1:=by kernel_rfl
theorem zc65:Tryz.prog.cellsOf 65=2:=by kernel_rfl
theorem zc66:Tryz.prog.cellsOf 66=1:=by kernel_rfl
theorem zc67:Tryz.prog.cellsOf 67=1:=by kernel_rfl
theorem zc69:Tryz.prog.cellsOf 69=1:=by kernel_rfl
theorem zc71:Tryz.prog.cellsOf 71=69:=by kernel_rfl
theorem zc73:Tryz.prog.cellsOf 73=102:=by kernel_rfl
theorem zc76:Tryz.prog.cellsOf 76=34:=by kernel_rfl
theorem zc78:Tryz.prog.cellsOf 78=35:=by kernel_rfl
theorem zc140:Tryz.prog.cellsOf 140=68:=by kernel_rfl
theorem zc141:Tryz.prog.cellsOf 141=1:=by kernel_rfl
theorem zc143:Tryz.prog.cellsOf 143=5:=by kernel_rfl
theorem zc145:Tryz.prog.cellsOf 145=106:=by kernel_rfl
theorem zc150:Tryz.prog.cellsOf 150=1:=by kernel_rfl
theorem zc152:Tryz.prog.cellsOf 152=40:=by kernel_rfl
theorem zc153:Tryz.prog.cellsOf 153=1:=by kernel_rfl
theorem zc154:Tryz.prog.cellsOf 154=1:=by kernel_rfl
theorem zc155:Tryz.prog.cellsOf 155=1:=by kernel_rfl
theorem zc156:Tryz.prog.cellsOf 156=1:=by kernel_rfl
theorem zc158:Tryz.prog.cellsOf 158=45:=by kernel_rfl
theorem zc210:Tryz.prog.cellsOf 210=1:=by kernel_rfl
theorem zc212:Tryz.prog.cellsOf 212=5:=by kernel_rfl
theorem zc248:Tryz.prog.cellsOf 248=1:=by kernel_rfl
theorem zc257:Tryz.prog.cellsOf 257=1:=by kernel_rfl
theorem zc258:Tryz.prog.cellsOf 258=1:=by kernel_rfl
theorem zc260:Tryz.prog.cellsOf 260=4:=by kernel_rfl
theorem zc264:Tryz.prog.cellsOf 264=2:=by kernel_rfl
theorem zc267:Tryz.prog.cellsOf 267=1:=by kernel_rfl
theorem zc269:Tryz.prog.cellsOf 269=5:=by kernel_rfl
theorem zc275:Tryz.prog.cellsOf 275=1:=by kernel_rfl
theorem zc2:Tryz.prog.cellsOf 2=1:=by kernel_rfl
theorem zc3:Tryz.prog.cellsOf 3=1:=by kernel_rfl
theorem zc4:Tryz.prog.cellsOf 4=1:=by kernel_rfl
theorem zc9:Tryz.prog.cellsOf 9=1:=by kernel_rfl
theorem zc30:Tryz.prog.cellsOf 30=1:=by kernel_rfl
theorem zb27:0<Tryz.prog.bytesOf 27:=of_decide_eq_true (by kernel_rfl)
theorem zb62:0<Tryz.prog.bytesOf 62:=of_decide_eq_true (by kernel_rfl)
theorem zb69:0<Tryz.prog.bytesOf 69:=of_decide_eq_true (by kernel_rfl)
theorem zb71:0<Tryz.prog.bytesOf 71:=of_decide_eq_true (by kernel_rfl)
theorem zb73:0<Tryz.prog.bytesOf 73:=of_decide_eq_true (by kernel_rfl)
theorem zb76:0<Tryz.prog.bytesOf 76:=of_decide_eq_true (by kernel_rfl)
theorem zb78:0<Tryz.prog.bytesOf 78:=of_decide_eq_true (by kernel_rfl)
theorem zb145:0<Tryz.prog.bytesOf 145:=of_decide_eq_true (by kernel_rfl)
theorem zb158:0<Tryz.prog.bytesOf 158:=of_decide_eq_true (by kernel_rfl)
theorem zb212:0<Tryz.prog.bytesOf 212:=of_decide_eq_true (by kernel_rfl)
theorem zb260:0<Tryz.prog.bytesOf 260:=of_decide_eq_true (by kernel_rfl)
theorem zb264:0<Tryz.prog.bytesOf 264:=of_decide_eq_true (by kernel_rfl)
theorem zb269:0<Tryz.prog.bytesOf 269:=of_decide_eq_true (by kernel_rfl)
theorem zb275:0<Tryz.prog.bytesOf 275:=of_decide_eq_true (by kernel_rfl)
theorem zs23:(Tryz.prog.info? 23).map (·.size)=some 2:=by kernel_rfl
theorem zs25:(Tryz.prog.info? 25).map (·.size)=some 12:=by kernel_rfl
theorem zs27:(Tryz.prog.info? 27).map (·.size)=some 32:=by kernel_rfl
theorem zs32:(Tryz.prog.info? 32).map (·.size)=some 67:=by kernel_rfl
theorem zs36:(Tryz.prog.info? 36).map (·.size)=some 182:=by kernel_rfl
theorem zs41:(Tryz.prog.info? 41).map (·.size)=some 33:=by kernel_rfl
theorem zs48:(Tryz.prog.info? 48).map (·.size)=some 2:=by kernel_rfl
theorem zs62:(Tryz.prog.info? 62).map (·.size)=some 33:=by kernel_rfl
theorem zs65:(Tryz.prog.info? 65).map (·.size)=some 2:=by kernel_rfl
theorem zs69:(Tryz.prog.info? 69).map (·.size)=some 1:=by kernel_rfl
theorem zs71:(Tryz.prog.info? 71).map (·.size)=some 69:=by kernel_rfl
theorem zs73:(Tryz.prog.info? 73).map (·.size)=some 102:=by kernel_rfl
theorem zs76:(Tryz.prog.info? 76).map (·.size)=some 34:=by kernel_rfl
theorem zs78:(Tryz.prog.info? 78).map (·.size)=some 35:=by kernel_rfl
theorem zs140:(Tryz.prog.info? 140).map (·.size)=some 68:=by kernel_rfl
theorem zs143:(Tryz.prog.info? 143).map (·.size)=some 5:=by kernel_rfl
theorem zs145:(Tryz.prog.info? 145).map (·.size)=some 106:=by kernel_rfl
theorem zs152:(Tryz.prog.info? 152).map (·.size)=some 40:=by kernel_rfl
theorem zs158:(Tryz.prog.info? 158).map (·.size)=some 45:=by kernel_rfl
theorem zs212:(Tryz.prog.info? 212).map (·.size)=some 5:=by kernel_rfl
theorem zs260:(Tryz.prog.info? 260).map (·.size)=some 4:=by kernel_rfl
theorem zs264:(Tryz.prog.info? 264).map (·.size)=some 2:=by kernel_rfl
theorem zs269:(Tryz.prog.info? 269).map (·.size)=some 5:=by kernel_rfl
theorem zs275:(Tryz.prog.info? 275).map (·.size)=some 1:=by kernel_rfl
theorem kt23:Tryz.prog.keyTypeAt 2 23=true:=by kernel_rfl
theorem gt23:Tryz.prog.eqGuardType Tryz.prog.depth 23=false:=by kernel_rfl
theorem formed23 {ds:List Value} (h:ds.length=2):(Value.agg ds.toArray).formed Tryz.prog 23=true:=by
 simp [Value.formed,Tryz.underlying23,zc23,h]
theorem kt25:Tryz.prog.keyTypeAt 3 25=true:=by kernel_rfl
theorem gt25:Tryz.prog.eqGuardType Tryz.prog.depth 25=false:=by kernel_rfl
theorem formed25 {ds:List Value} (h:ds.length=12):(Value.agg ds.toArray).formed Tryz.prog 25=true:=by
 simp [Value.formed,Tryz.underlying25,zc25,h]
theorem kt27:Tryz.prog.keyTypeAt 2 27=true:=by kernel_rfl
theorem gt27:Tryz.prog.eqGuardType Tryz.prog.depth 27=false:=by kernel_rfl
theorem formed27 {ds:List Value} (h:ds.length=32):(Value.agg ds.toArray).formed Tryz.prog 27=true:=by
 simp [Value.formed,Tryz.underlying27,zc27,h]
theorem kt32:Tryz.prog.keyTypeAt 3 32=true:=by kernel_rfl
theorem gt32:Tryz.prog.eqGuardType Tryz.prog.depth 32=false:=by kernel_rfl
theorem formed32 {ds:List Value} (h:ds.length=67):(Value.agg ds.toArray).formed Tryz.prog 32=true:=by
 simp [Value.formed,Tryz.underlying32,zc32,h]
theorem kt41:Tryz.prog.keyTypeAt 3 41=true:=by kernel_rfl
theorem gt41:Tryz.prog.eqGuardType Tryz.prog.depth 41=false:=by kernel_rfl
theorem formed41 {ds:List Value} (h:ds.length=33):(Value.agg ds.toArray).formed Tryz.prog 41=true:=by
 simp [Value.formed,Tryz.underlying41,zc41,h]
theorem kt62:Tryz.prog.keyTypeAt 3 62=true:=by kernel_rfl
theorem gt62:Tryz.prog.eqGuardType Tryz.prog.depth 62=false:=by kernel_rfl
theorem formed62 {ds:List Value} (h:ds.length=33):(Value.agg ds.toArray).formed Tryz.prog 62=true:=by
 simp [Value.formed,Tryz.underlying62,zc62,h]
theorem kt76:Tryz.prog.keyTypeAt 3 76=true:=by kernel_rfl
theorem gt76:Tryz.prog.eqGuardType Tryz.prog.depth 76=false:=by kernel_rfl
theorem formed76 {ds:List Value} (h:ds.length=34):(Value.agg ds.toArray).formed Tryz.prog 76=true:=by
 simp [Value.formed,Tryz.underlying76,zc76,h]
theorem kt78:Tryz.prog.keyTypeAt 3 78=true:=by kernel_rfl
theorem gt78:Tryz.prog.eqGuardType Tryz.prog.depth 78=false:=by kernel_rfl
theorem formed78 {ds:List Value} (h:ds.length=35):(Value.agg ds.toArray).formed Tryz.prog 78=true:=by
 simp [Value.formed,Tryz.underlying78,zc78,h]
theorem kt212:Tryz.prog.keyTypeAt 2 212=true:=by kernel_rfl
theorem gt212:Tryz.prog.eqGuardType Tryz.prog.depth 212=false:=by kernel_rfl
theorem formed212 {ds:List Value} (h:ds.length=5):(Value.agg ds.toArray).formed Tryz.prog 212=true:=by
 simp [Value.formed,Tryz.underlying212,zc212,h]
set_option maxRecDepth 100000 in
set_option maxHeartbeats 1000000 in
theorem sameRefs {N n:Nat} {w0 w1:World} {Q:Nat->Prop} (v v':Value) (hr:Rd w0 150 [v]) (h:EqX N w0 Q w1 n 150 [v] [v']) (w:World) (hm:Mod N0 w1 w):Calls Tryz.prog 172 #[v',v] w fun e w'=>e=.returned (.bool true)/\Mod N0 w w':=by
 obtain ⟨m,rfl,a,a',len,cap,cap',rfl,rfl,hel⟩:=h.slice rfl Tryz.underlying150 zc62
 obtain ⟨a2,len2,cap2,e2,hb,_,_⟩:=hr.slice Tryz.underlying150 zc62 (by omega)
 simp only [Value.slice.injEq] at e2
 obtain ⟨rfl,rfl,rfl⟩:=e2
 have hlen:=len_of_bytes hb zb62
 have HE:=hh hel
 have HM:=hh hm
 clear hel hm hr hb
 go_enter Tryz.func172,Tryz.ntmps172
 go_wp2_with fail
 go_loopw [5] (fun i wr=>∃ k:Nat,k<=len/\i=.int .i64 k/\Mod N0 w wr) (fun i _=>len - (intOf i).toNat)
 case atStart=>exact ⟨0,by omega,rfl,Mod.refl _ w⟩
 case round=>
  obtain ⟨k,hk,rfl,hmr⟩:=hrel
  have HMR:=hh hmr
  clear hmr
  by_cases hlt:k<len
  ·obtain ⟨L,off,ds,L',off',ds',rfl,rfl,hrd,_,hL,hL',_,hl,hl',hc,hc',he⟩:=HE.out k hlt
   have HA:=hh (fun (W:World) (hW:Mod N0 w W)=>(show (loadVar 62 ⟨L',off'+k * 33,none⟩).run Tryz.prog W=.ok (.agg ds'.toArray) W from by
    have:=load_mid (w:=W) (p:=off'+k * 33) (fun j u hu=>((HM.out.tr hW).cell (p:=⟨L',_,none⟩) hL' (fun q=>q)).trans (hc' j u hu)) 62 0 33 _ Tryz.underlying62 rfl zs62 (by omega)
    rw [List.drop_zero,List.take_of_length_le (by omega),Nat.add_zero] at this
    exact this))
   have HB:=hh (fun (W:World) (hW:Mod N0 w W)=>(show (loadVar 62 ⟨L,off+k * 33,none⟩).run Tryz.prog W=.ok (.agg ds.toArray) W from by
    have:=load_mid (w:=W) (p:=off+k * 33) (fun j u hu=>((HM.out.tr hW).cell (p:=⟨L,_,none⟩) hL (fun q=>q)).trans (hc j u hu)) 62 0 33 _ Tryz.underlying62 rfl zs62 (by omega)
    rw [List.drop_zero,List.take_of_length_le (by omega),Nat.add_zero] at this
    exact this))
   have hds:=he.flat rfl
   subst hds
   have HRD:=hh (And.intro hrd hl)
   clear hrd hc hc' he hl hl' hL hL'
   go_upto_region 6 with fail
   refine wp_region_held_drew (S:=fun W=>Mod N0 w W) (by kernel_rfl) HMR.out.drew (fun hH=>?_)
   refine tq (i:=0) (oi:=⟨some 17,.move (.tmp 0),150, "same.go:290",#[],none⟩) (v:=.slice (some ⟨L',off',none⟩) len cap') hH ?_
   refine tq (i:=1) (oi:=⟨some 18,.move (.tmp 5),3, "same.go:290",#[],none⟩) (v:=.int .i64 k) hH ?_
   refine tq (i:=2) (oi:=⟨some 19,.indexAddr 150 (.tmp 17) (.tmp 18),0, "same.go:290",#[⟨0,.data⟩,⟨1,.data⟩],none⟩) (v:=.pointer (some ⟨L',off'+k * 33,none⟩)) hH ?_
   refine tk (i:=3) (oi:=⟨some 20,.load 62 (.tmp 19),62, "same.go:290",#[⟨2,.data⟩],none⟩) (v:=.agg ds'.toArray) hH (fun w' hSw=>by exact exec_load_pt _ _ 62 _ rfl ⟨L',off'+k * 33,none⟩ rfl (HA.out _ hSw)) ?_
   refine tq (i:=4) (oi:=⟨some 21,.move (.tmp 1),150, "same.go:290",#[],none⟩) (v:=.slice (some ⟨L,off,none⟩) len cap) hH ?_
   refine tq (i:=5) (oi:=⟨some 22,.move (.tmp 5),3, "same.go:290",#[],none⟩) (v:=.int .i64 k) hH ?_
   refine tq (i:=6) (oi:=⟨some 23,.indexAddr 150 (.tmp 21) (.tmp 22),0, "same.go:290",#[⟨4,.data⟩,⟨5,.data⟩],none⟩) (v:=.pointer (some ⟨L,off+k * 33,none⟩)) hH ?_
   refine tk (i:=7) (oi:=⟨some 24,.load 62 (.tmp 23),62, "same.go:290",#[⟨6,.data⟩],none⟩) (v:=.agg ds'.toArray) hH (fun w' hSw=>by exact exec_load_pt _ _ 62 _ rfl ⟨L,off+k * 33,none⟩ rfl (HB.out _ hSw)) ?_
   refine tk (i:=8) (oi:=⟨some 25,.binOp .neq 62 (.tmp 20) (.tmp 24) 62,4, "same.go:290",#[⟨3,.data⟩,⟨7,.data⟩],none⟩) (v:=.bool false) hH (fun w' hSw=>by exact exec_neq_same _ _ rfl rfl rfl 3 (by omega) kt62 (formed62 HRD.out.2) gt62 HRD.out.1) ?_
   refine wpAnyH_done (by kernel_rfl) ?_ _
   go_wp2_with fail
   go_roundw
   case rel=>exact ⟨k+1,by omega,rfl,HMR.out.drew⟩
   case measure=>simp [intOf]; omega
  ·have e:k=len:=by omega
   subst e
   go_wp2_with fail
   go_ret
   exact ⟨rfl,HMR.out⟩
set_option maxRecDepth 100000 in
set_option maxHeartbeats 1000000 in
theorem sameHashes {N n:Nat} {w0 w1:World} {Q:Nat->Prop} (v v':Value) (hr:Rd w0 248 [v]) (h:EqX N w0 Q w1 n 248 [v] [v']) (w:World) (hm:Mod N0 w1 w):Calls Tryz.prog 174 #[v',v] w fun e w'=>e=.returned (.bool true)/\Mod N0 w w':=by
 obtain ⟨m,rfl,a,a',len,cap,cap',rfl,rfl,hel⟩:=h.slice rfl Tryz.underlying248 zc27
 obtain ⟨a2,len2,cap2,e2,hb,_,_⟩:=hr.slice Tryz.underlying248 zc27 (by omega)
 simp only [Value.slice.injEq] at e2
 obtain ⟨rfl,rfl,rfl⟩:=e2
 have hlen:=len_of_bytes hb zb27
 have HE:=hh hel
 have HM:=hh hm
 clear hel hm hr hb
 go_enter Tryz.func174,Tryz.ntmps174
 go_wp2_with fail
 go_loopw [5] (fun i wr=>∃ k:Nat,k<=len/\i=.int .i64 k/\Mod N0 w wr) (fun i _=>len - (intOf i).toNat)
 case atStart=>exact ⟨0,by omega,rfl,Mod.refl _ w⟩
 case round=>
  obtain ⟨k,hk,rfl,hmr⟩:=hrel
  have HMR:=hh hmr
  clear hmr
  by_cases hlt:k<len
  ·obtain ⟨L,off,ds,L',off',ds',rfl,rfl,hrd,_,hL,hL',_,hl,hl',hc,hc',he⟩:=HE.out k hlt
   have HA:=hh (fun (W:World) (hW:Mod N0 w W)=>(show (loadVar 27 ⟨L',off'+k * 32,none⟩).run Tryz.prog W=.ok (.agg ds'.toArray) W from by
    have:=load_mid (w:=W) (p:=off'+k * 32) (fun j u hu=>((HM.out.tr hW).cell (p:=⟨L',_,none⟩) hL' (fun q=>q)).trans (hc' j u hu)) 27 0 32 _ Tryz.underlying27 rfl zs27 (by omega)
    rw [List.drop_zero,List.take_of_length_le (by omega),Nat.add_zero] at this
    exact this))
   have HB:=hh (fun (W:World) (hW:Mod N0 w W)=>(show (loadVar 27 ⟨L,off+k * 32,none⟩).run Tryz.prog W=.ok (.agg ds.toArray) W from by
    have:=load_mid (w:=W) (p:=off+k * 32) (fun j u hu=>((HM.out.tr hW).cell (p:=⟨L,_,none⟩) hL (fun q=>q)).trans (hc j u hu)) 27 0 32 _ Tryz.underlying27 rfl zs27 (by omega)
    rw [List.drop_zero,List.take_of_length_le (by omega),Nat.add_zero] at this
    exact this))
   have hds:=he.flat rfl
   subst hds
   have HRD:=hh (And.intro hrd hl)
   clear hrd hc hc' he hl hl' hL hL'
   go_upto_region 6 with fail
   refine wp_region_held_drew (S:=fun W=>Mod N0 w W) (by kernel_rfl) HMR.out.drew (fun hH=>?_)
   refine tq (i:=0) (oi:=⟨some 17,.move (.tmp 0),248, "same.go:139",#[],none⟩) (v:=.slice (some ⟨L',off',none⟩) len cap') hH ?_
   refine tq (i:=1) (oi:=⟨some 18,.move (.tmp 5),3, "same.go:139",#[],none⟩) (v:=.int .i64 k) hH ?_
   refine tq (i:=2) (oi:=⟨some 19,.indexAddr 248 (.tmp 17) (.tmp 18),0, "same.go:139",#[⟨0,.data⟩,⟨1,.data⟩],none⟩) (v:=.pointer (some ⟨L',off'+k * 32,none⟩)) hH ?_
   refine tk (i:=3) (oi:=⟨some 20,.load 27 (.tmp 19),27, "same.go:139",#[⟨2,.data⟩],none⟩) (v:=.agg ds'.toArray) hH (fun w' hSw=>by exact exec_load_pt _ _ 27 _ rfl ⟨L',off'+k * 32,none⟩ rfl (HA.out _ hSw)) ?_
   refine tq (i:=4) (oi:=⟨some 21,.move (.tmp 1),248, "same.go:139",#[],none⟩) (v:=.slice (some ⟨L,off,none⟩) len cap) hH ?_
   refine tq (i:=5) (oi:=⟨some 22,.move (.tmp 5),3, "same.go:139",#[],none⟩) (v:=.int .i64 k) hH ?_
   refine tq (i:=6) (oi:=⟨some 23,.indexAddr 248 (.tmp 21) (.tmp 22),0, "same.go:139",#[⟨4,.data⟩,⟨5,.data⟩],none⟩) (v:=.pointer (some ⟨L,off+k * 32,none⟩)) hH ?_
   refine tk (i:=7) (oi:=⟨some 24,.load 27 (.tmp 23),27, "same.go:139",#[⟨6,.data⟩],none⟩) (v:=.agg ds'.toArray) hH (fun w' hSw=>by exact exec_load_pt _ _ 27 _ rfl ⟨L,off+k * 32,none⟩ rfl (HB.out _ hSw)) ?_
   refine tk (i:=8) (oi:=⟨some 25,.binOp .neq 27 (.tmp 20) (.tmp 24) 27,4, "same.go:139",#[⟨3,.data⟩,⟨7,.data⟩],none⟩) (v:=.bool false) hH (fun w' hSw=>by exact exec_neq_same _ _ rfl rfl rfl 2 (by omega) kt27 (formed27 HRD.out.2) gt27 HRD.out.1) ?_
   refine wpAnyH_done (by kernel_rfl) ?_ _
   go_wp2_with fail
   go_roundw
   case rel=>exact ⟨k+1,by omega,rfl,HMR.out.drew⟩
   case measure=>simp [intOf]; omega
  ·have e:k=len:=by omega
   subst e
   go_wp2_with fail
   go_ret
   exact ⟨rfl,HMR.out⟩
set_option maxRecDepth 100000 in
set_option maxHeartbeats 1000000 in
theorem sameNodes {N n:Nat} {w0 w1:World} {Q:Nat->Prop} (v v':Value) (hr:Rd w0 67 [v]) (h:EqX N w0 Q w1 n 67 [v] [v']) (w:World) (hm:Mod N0 w1 w):Calls Tryz.prog 127 #[v',v] w fun e w'=>e=.returned (.bool true)/\Mod N0 w w':=by
 obtain ⟨m,rfl,a,a',len,cap,cap',rfl,rfl,hel⟩:=h.slice rfl Tryz.underlying67 zc212
 obtain ⟨a2,len2,cap2,e2,hb,_,_⟩:=hr.slice Tryz.underlying67 zc212 (by omega)
 simp only [Value.slice.injEq] at e2
 obtain ⟨rfl,rfl,rfl⟩:=e2
 have hlen:=len_of_bytes hb zb212
 have HE:=hh hel
 have HM:=hh hm
 clear hel hm hr hb
 go_enter Tryz.func127,Tryz.ntmps127
 go_wp2_with fail
 go_loopw [5] (fun i wr=>∃ k:Nat,k<=len/\i=.int .i64 k/\Mod N0 w wr) (fun i _=>len - (intOf i).toNat)
 case atStart=>exact ⟨0,by omega,rfl,Mod.refl _ w⟩
 case round=>
  obtain ⟨k,hk,rfl,hmr⟩:=hrel
  have HMR:=hh hmr
  clear hmr
  by_cases hlt:k<len
  ·obtain ⟨L,off,ds,L',off',ds',rfl,rfl,hrd,_,hL,hL',_,hl,hl',hc,hc',he⟩:=HE.out k hlt
   have HA:=hh (fun (W:World) (hW:Mod N0 w W)=>(show (loadVar 212 ⟨L',off'+k * 5,none⟩).run Tryz.prog W=.ok (.agg ds'.toArray) W from by
    have:=load_mid (w:=W) (p:=off'+k * 5) (fun j u hu=>((HM.out.tr hW).cell (p:=⟨L',_,none⟩) hL' (fun q=>q)).trans (hc' j u hu)) 212 0 5 _ Tryz.underlying212 rfl zs212 (by omega)
    rw [List.drop_zero,List.take_of_length_le (by omega),Nat.add_zero] at this
    exact this))
   have HB:=hh (fun (W:World) (hW:Mod N0 w W)=>(show (loadVar 212 ⟨L,off+k * 5,none⟩).run Tryz.prog W=.ok (.agg ds.toArray) W from by
    have:=load_mid (w:=W) (p:=off+k * 5) (fun j u hu=>((HM.out.tr hW).cell (p:=⟨L,_,none⟩) hL (fun q=>q)).trans (hc j u hu)) 212 0 5 _ Tryz.underlying212 rfl zs212 (by omega)
    rw [List.drop_zero,List.take_of_length_le (by omega),Nat.add_zero] at this
    exact this))
   have hds:=he.flat rfl
   subst hds
   have HRD:=hh (And.intro hrd hl)
   clear hrd hc hc' he hl hl' hL hL'
   go_upto_region 6 with fail
   refine wp_region_held_drew (S:=fun W=>Mod N0 w W) (by kernel_rfl) HMR.out.drew (fun hH=>?_)
   refine tq (i:=0) (oi:=⟨some 17,.move (.tmp 0),67, "same.go:157",#[],none⟩) (v:=.slice (some ⟨L',off',none⟩) len cap') hH ?_
   refine tq (i:=1) (oi:=⟨some 18,.move (.tmp 5),3, "same.go:157",#[],none⟩) (v:=.int .i64 k) hH ?_
   refine tq (i:=2) (oi:=⟨some 19,.indexAddr 67 (.tmp 17) (.tmp 18),0, "same.go:157",#[⟨0,.data⟩,⟨1,.data⟩],none⟩) (v:=.pointer (some ⟨L',off'+k * 5,none⟩)) hH ?_
   refine tk (i:=3) (oi:=⟨some 20,.load 212 (.tmp 19),212, "same.go:157",#[⟨2,.data⟩],none⟩) (v:=.agg ds'.toArray) hH (fun w' hSw=>by exact exec_load_pt _ _ 212 _ rfl ⟨L',off'+k * 5,none⟩ rfl (HA.out _ hSw)) ?_
   refine tq (i:=4) (oi:=⟨some 21,.move (.tmp 1),67, "same.go:157",#[],none⟩) (v:=.slice (some ⟨L,off,none⟩) len cap) hH ?_
   refine tq (i:=5) (oi:=⟨some 22,.move (.tmp 5),3, "same.go:157",#[],none⟩) (v:=.int .i64 k) hH ?_
   refine tq (i:=6) (oi:=⟨some 23,.indexAddr 67 (.tmp 21) (.tmp 22),0, "same.go:157",#[⟨4,.data⟩,⟨5,.data⟩],none⟩) (v:=.pointer (some ⟨L,off+k * 5,none⟩)) hH ?_
   refine tk (i:=7) (oi:=⟨some 24,.load 212 (.tmp 23),212, "same.go:157",#[⟨6,.data⟩],none⟩) (v:=.agg ds'.toArray) hH (fun w' hSw=>by exact exec_load_pt _ _ 212 _ rfl ⟨L,off+k * 5,none⟩ rfl (HB.out _ hSw)) ?_
   refine tk (i:=8) (oi:=⟨some 25,.binOp .neq 212 (.tmp 20) (.tmp 24) 212,4, "same.go:157",#[⟨3,.data⟩,⟨7,.data⟩],none⟩) (v:=.bool false) hH (fun w' hSw=>by exact exec_neq_same _ _ rfl rfl rfl 2 (by omega) kt212 (formed212 HRD.out.2) gt212 HRD.out.1) ?_
   refine wpAnyH_done (by kernel_rfl) ?_ _
   go_wp2_with fail
   go_roundw
   case rel=>exact ⟨k+1,by omega,rfl,HMR.out.drew⟩
   case measure=>simp [intOf]; omega
  ·have e:k=len:=by omega
   subst e
   go_wp2_with fail
   go_ret
   exact ⟨rfl,HMR.out⟩
set_option maxRecDepth 100000 in
set_option maxHeartbeats 1000000 in
theorem sameAssets {N n:Nat} {w0 w1:World} {Q:Nat->Prop} (v v':Value) (hr:Rd w0 63 [v]) (h:EqX N w0 Q w1 n 63 [v] [v']) (w:World) (hm:Mod N0 w1 w):Calls Tryz.prog 126 #[v',v] w fun e w'=>e=.returned (.bool true)/\Mod N0 w w':=by
 obtain ⟨m,rfl,a,a',len,cap,cap',rfl,rfl,hel⟩:=h.slice rfl Tryz.underlying63 zc76
 obtain ⟨a2,len2,cap2,e2,hb,_,_⟩:=hr.slice Tryz.underlying63 zc76 (by omega)
 simp only [Value.slice.injEq] at e2
 obtain ⟨rfl,rfl,rfl⟩:=e2
 have hlen:=len_of_bytes hb zb76
 have HE:=hh hel
 have HM:=hh hm
 clear hel hm hr hb
 go_enter Tryz.func126,Tryz.ntmps126
 go_wp2_with fail
 go_loopw [5] (fun i wr=>∃ k:Nat,k<=len/\i=.int .i64 k/\Mod N0 w wr) (fun i _=>len - (intOf i).toNat)
 case atStart=>exact ⟨0,by omega,rfl,Mod.refl _ w⟩
 case round=>
  obtain ⟨k,hk,rfl,hmr⟩:=hrel
  have HMR:=hh hmr
  clear hmr
  by_cases hlt:k<len
  ·obtain ⟨L,off,ds,L',off',ds',rfl,rfl,hrd,_,hL,hL',_,hl,hl',hc,hc',he⟩:=HE.out k hlt
   have HA:=hh (fun (W:World) (hW:Mod N0 w W)=>(show (loadVar 76 ⟨L',off'+k * 34,none⟩).run Tryz.prog W=.ok (.agg ds'.toArray) W from by
    have:=load_mid (w:=W) (p:=off'+k * 34) (fun j u hu=>((HM.out.tr hW).cell (p:=⟨L',_,none⟩) hL' (fun q=>q)).trans (hc' j u hu)) 76 0 34 _ Tryz.underlying76 rfl zs76 (by omega)
    rw [List.drop_zero,List.take_of_length_le (by omega),Nat.add_zero] at this
    exact this))
   have HB:=hh (fun (W:World) (hW:Mod N0 w W)=>(show (loadVar 76 ⟨L,off+k * 34,none⟩).run Tryz.prog W=.ok (.agg ds.toArray) W from by
    have:=load_mid (w:=W) (p:=off+k * 34) (fun j u hu=>((HM.out.tr hW).cell (p:=⟨L,_,none⟩) hL (fun q=>q)).trans (hc j u hu)) 76 0 34 _ Tryz.underlying76 rfl zs76 (by omega)
    rw [List.drop_zero,List.take_of_length_le (by omega),Nat.add_zero] at this
    exact this))
   have hds:=he.flat rfl
   subst hds
   have HRD:=hh (And.intro hrd hl)
   clear hrd hc hc' he hl hl' hL hL'
   go_upto_region 6 with fail
   refine wp_region_held_drew (S:=fun W=>Mod N0 w W) (by kernel_rfl) HMR.out.drew (fun hH=>?_)
   refine tq (i:=0) (oi:=⟨some 17,.move (.tmp 0),63, "same.go:207",#[],none⟩) (v:=.slice (some ⟨L',off',none⟩) len cap') hH ?_
   refine tq (i:=1) (oi:=⟨some 18,.move (.tmp 5),3, "same.go:207",#[],none⟩) (v:=.int .i64 k) hH ?_
   refine tq (i:=2) (oi:=⟨some 19,.indexAddr 63 (.tmp 17) (.tmp 18),0, "same.go:207",#[⟨0,.data⟩,⟨1,.data⟩],none⟩) (v:=.pointer (some ⟨L',off'+k * 34,none⟩)) hH ?_
   refine tk (i:=3) (oi:=⟨some 20,.load 76 (.tmp 19),76, "same.go:207",#[⟨2,.data⟩],none⟩) (v:=.agg ds'.toArray) hH (fun w' hSw=>by exact exec_load_pt _ _ 76 _ rfl ⟨L',off'+k * 34,none⟩ rfl (HA.out _ hSw)) ?_
   refine tq (i:=4) (oi:=⟨some 21,.move (.tmp 1),63, "same.go:207",#[],none⟩) (v:=.slice (some ⟨L,off,none⟩) len cap) hH ?_
   refine tq (i:=5) (oi:=⟨some 22,.move (.tmp 5),3, "same.go:207",#[],none⟩) (v:=.int .i64 k) hH ?_
   refine tq (i:=6) (oi:=⟨some 23,.indexAddr 63 (.tmp 21) (.tmp 22),0, "same.go:207",#[⟨4,.data⟩,⟨5,.data⟩],none⟩) (v:=.pointer (some ⟨L,off+k * 34,none⟩)) hH ?_
   refine tk (i:=7) (oi:=⟨some 24,.load 76 (.tmp 23),76, "same.go:207",#[⟨6,.data⟩],none⟩) (v:=.agg ds'.toArray) hH (fun w' hSw=>by exact exec_load_pt _ _ 76 _ rfl ⟨L,off+k * 34,none⟩ rfl (HB.out _ hSw)) ?_
   refine tk (i:=8) (oi:=⟨some 25,.binOp .neq 76 (.tmp 20) (.tmp 24) 76,4, "same.go:207",#[⟨3,.data⟩,⟨7,.data⟩],none⟩) (v:=.bool false) hH (fun w' hSw=>by exact exec_neq_same _ _ rfl rfl rfl 3 (by omega) kt76 (formed76 HRD.out.2) gt76 HRD.out.1) ?_
   refine wpAnyH_done (by kernel_rfl) ?_ _
   go_wp2_with fail
   go_roundw
   case rel=>exact ⟨k+1,by omega,rfl,HMR.out.drew⟩
   case measure=>simp [intOf]; omega
  ·have e:k=len:=by omega
   subst e
   go_wp2_with fail
   go_ret
   exact ⟨rfl,HMR.out⟩
set_option maxRecDepth 100000 in
set_option maxHeartbeats 1000000 in
theorem sameTotals {N n:Nat} {w0 w1:World} {Q:Nat->Prop} (v v':Value) (hr:Rd w0 33 [v]) (h:EqX N w0 Q w1 n 33 [v] [v']) (w:World) (hm:Mod N0 w1 w):Calls Tryz.prog 13 #[v',v] w fun e w'=>e=.returned (.bool true)/\Mod N0 w w':=by
 obtain ⟨m,rfl,a,a',len,cap,cap',rfl,rfl,hel⟩:=h.slice rfl Tryz.underlying33 zc78
 obtain ⟨a2,len2,cap2,e2,hb,_,_⟩:=hr.slice Tryz.underlying33 zc78 (by omega)
 simp only [Value.slice.injEq] at e2
 obtain ⟨rfl,rfl,rfl⟩:=e2
 have hlen:=len_of_bytes hb zb78
 have HE:=hh hel
 have HM:=hh hm
 clear hel hm hr hb
 go_enter Tryz.func13,Tryz.ntmps13
 go_wp2_with fail
 go_loopw [5] (fun i wr=>∃ k:Nat,k<=len/\i=.int .i64 k/\Mod N0 w wr) (fun i _=>len - (intOf i).toNat)
 case atStart=>exact ⟨0,by omega,rfl,Mod.refl _ w⟩
 case round=>
  obtain ⟨k,hk,rfl,hmr⟩:=hrel
  have HMR:=hh hmr
  clear hmr
  by_cases hlt:k<len
  ·obtain ⟨L,off,ds,L',off',ds',rfl,rfl,hrd,_,hL,hL',_,hl,hl',hc,hc',he⟩:=HE.out k hlt
   have HA:=hh (fun (W:World) (hW:Mod N0 w W)=>(show (loadVar 78 ⟨L',off'+k * 35,none⟩).run Tryz.prog W=.ok (.agg ds'.toArray) W from by
    have:=load_mid (w:=W) (p:=off'+k * 35) (fun j u hu=>((HM.out.tr hW).cell (p:=⟨L',_,none⟩) hL' (fun q=>q)).trans (hc' j u hu)) 78 0 35 _ Tryz.underlying78 rfl zs78 (by omega)
    rw [List.drop_zero,List.take_of_length_le (by omega),Nat.add_zero] at this
    exact this))
   have HB:=hh (fun (W:World) (hW:Mod N0 w W)=>(show (loadVar 78 ⟨L,off+k * 35,none⟩).run Tryz.prog W=.ok (.agg ds.toArray) W from by
    have:=load_mid (w:=W) (p:=off+k * 35) (fun j u hu=>((HM.out.tr hW).cell (p:=⟨L,_,none⟩) hL (fun q=>q)).trans (hc j u hu)) 78 0 35 _ Tryz.underlying78 rfl zs78 (by omega)
    rw [List.drop_zero,List.take_of_length_le (by omega),Nat.add_zero] at this
    exact this))
   have hds:=he.flat rfl
   subst hds
   have HRD:=hh (And.intro hrd hl)
   clear hrd hc hc' he hl hl' hL hL'
   go_upto_region 6 with fail
   refine wp_region_held_drew (S:=fun W=>Mod N0 w W) (by kernel_rfl) HMR.out.drew (fun hH=>?_)
   refine tq (i:=0) (oi:=⟨some 17,.move (.tmp 0),33, "same.go:706",#[],none⟩) (v:=.slice (some ⟨L',off',none⟩) len cap') hH ?_
   refine tq (i:=1) (oi:=⟨some 18,.move (.tmp 5),3, "same.go:706",#[],none⟩) (v:=.int .i64 k) hH ?_
   refine tq (i:=2) (oi:=⟨some 19,.indexAddr 33 (.tmp 17) (.tmp 18),0, "same.go:706",#[⟨0,.data⟩,⟨1,.data⟩],none⟩) (v:=.pointer (some ⟨L',off'+k * 35,none⟩)) hH ?_
   refine tk (i:=3) (oi:=⟨some 20,.load 78 (.tmp 19),78, "same.go:706",#[⟨2,.data⟩],none⟩) (v:=.agg ds'.toArray) hH (fun w' hSw=>by exact exec_load_pt _ _ 78 _ rfl ⟨L',off'+k * 35,none⟩ rfl (HA.out _ hSw)) ?_
   refine tq (i:=4) (oi:=⟨some 21,.move (.tmp 1),33, "same.go:706",#[],none⟩) (v:=.slice (some ⟨L,off,none⟩) len cap) hH ?_
   refine tq (i:=5) (oi:=⟨some 22,.move (.tmp 5),3, "same.go:706",#[],none⟩) (v:=.int .i64 k) hH ?_
   refine tq (i:=6) (oi:=⟨some 23,.indexAddr 33 (.tmp 21) (.tmp 22),0, "same.go:706",#[⟨4,.data⟩,⟨5,.data⟩],none⟩) (v:=.pointer (some ⟨L,off+k * 35,none⟩)) hH ?_
   refine tk (i:=7) (oi:=⟨some 24,.load 78 (.tmp 23),78, "same.go:706",#[⟨6,.data⟩],none⟩) (v:=.agg ds'.toArray) hH (fun w' hSw=>by exact exec_load_pt _ _ 78 _ rfl ⟨L,off+k * 35,none⟩ rfl (HB.out _ hSw)) ?_
   refine tk (i:=8) (oi:=⟨some 25,.binOp .neq 78 (.tmp 20) (.tmp 24) 78,4, "same.go:706",#[⟨3,.data⟩,⟨7,.data⟩],none⟩) (v:=.bool false) hH (fun w' hSw=>by exact exec_neq_same _ _ rfl rfl rfl 3 (by omega) kt78 (formed78 HRD.out.2) gt78 HRD.out.1) ?_
   refine wpAnyH_done (by kernel_rfl) ?_ _
   go_wp2_with fail
   go_roundw
   case rel=>exact ⟨k+1,by omega,rfl,HMR.out.drew⟩
   case measure=>simp [intOf]; omega
  ·have e:k=len:=by omega
   subst e
   go_wp2_with fail
   go_ret
   exact ⟨rfl,HMR.out⟩
end Go.Proofs.YtckcamlicgdklaaGreat
