/- flatTotals: the walk. -/
import Derived.Test.YtckcamlicgdklaaGreatN44
import Derived.Deep.Cut
import Derived.Deep.CutBlock
import Derived.Deep.CutRange
namespace Go.Proofs.YtckcamlicgdklaaGreat
open Go.RowKit Go.Mo Go.Sort
set_option maxRecDepth 100000 in
set_option maxHeartbeats 1000000 in
theorem flatTotals_calls (w:World) (H ho Kn cK:Nat) (vs:Nat->Value) (ns:Nat->Nat) (hf:Fl w H ho Kn vs ns):Calls Tryz.prog 94 #[.slice (some ⟨H,ho,none⟩) Kn cK] w fun e w'=>e=.returned (.bool true)/\Mod (Sb Kn vs) w w':=by
 have HF:=hh hf
 clear hf
 go_enter Tryz.func94,Tryz.ntmps94
 go_wp2_with fail
 go_loopw [3] (fun i wx=>∃ k:Nat,k<=Kn/\i=.int .i64 k/\P1 w wx Kn vs ns k 0) (fun i _=>Kn - (intOf i).toNat)
 case atStart=>exact ⟨0,by omega,rfl,P1.start HF.out⟩
 case round=>
  obtain ⟨k,hk,rfl,hp⟩:=hrel
  have HP:=hh hp
  clear hp
  by_cases hlt:k<Kn
  ·obtain ⟨a,c,hv⟩:=HF.out.form hlt
   have HV:=hh hv
   clear hv
   have HLD:=hh (fun (W:World) (hW:Mod (Sb Kn vs) w W)=>load33F ((HF.out.hcell hlt hW).trans (congrArg some HV.out)))
   go_wp2_with fail
   go_loopw [4] (fun j wx=>∃ i:Nat,i<=ns k/\j=.int .i64 i/\P1 w wx Kn vs ns k i) (fun j _=>ns k - (intOf j).toNat)
   case atStart=>exact ⟨0,by omega,rfl,HP.out⟩
   case round=>
    obtain ⟨i,hi,rfl,hp2⟩:=hrel
    have HP2:=hh hp2
    have hns:=HF.out.small k hlt
    have hfew:=HF.out.few
    clear hp2
    by_cases hlt2:i<ns k
    ·obtain ⟨X,hX⟩:=HF.out.rows k hlt
     obtain ⟨q,cq,hvq⟩:=own_some hX hlt2
     have e1:=HV.out.symm.trans hvq
     cases e1
     clear hX
     have HVQ:=hh hvq
     clear hvq
     go_upto_region 5 with fail
     refine wp_region_lit ?_
     refine ex (v:=.int .i64 i) ?_
     refine ex (v:=.slice (some ⟨H,ho,none⟩) Kn cK) ?_
     refine ex (v:=.int .i64 k) ?_
     refine ex (v:=.pointer (some ⟨H,ho+k,none⟩)) ?_
     refine wx (exec_load_ptF _ _ 33 _ rfl ⟨H,ho+k,none⟩ rfl (HLD.out _ HP2.out.mod)) ?_
     go_upto_region 7 with fail
     refine wp_region_held_drew (S:=fun W=>Mod (Sb Kn vs) w W) (by kernel_rfl) HP2.out.mod.drew (fun hH=>?_)
     refine tq (i:=0) (oi:=⟨some 31,.move (.tmp 0),58, "apart.go:1329",#[],none⟩) (v:=.slice (some ⟨H,ho,none⟩) Kn cK) hH ?_
     refine tq (i:=1) (oi:=⟨some 32,.move (.tmp 3),3, "apart.go:1329",#[],none⟩) (v:=.int .i64 k) hH ?_
     refine tq (i:=2) (oi:=⟨some 33,.indexAddr 58 (.tmp 31) (.tmp 32),0, "apart.go:1329",#[⟨0,.data⟩,⟨1,.data⟩],none⟩) (v:=.pointer (some ⟨H,ho+k,none⟩)) hH ?_
     refine tk (i:=3) (oi:=⟨some 34,.load 33 (.tmp 33),33, "apart.go:1329",#[⟨2,.data⟩],none⟩) (v:=.slice (some ⟨q,0,none⟩) (ns k) c) hH (fun w' hSw=>by exact exec_load_ptF _ _ 33 _ rfl ⟨H,ho+k,none⟩ rfl (HLD.out _ hSw)) ?_
     refine tq (i:=4) (oi:=⟨some 35,.move (.tmp 4),3, "apart.go:1329",#[],none⟩) (v:=.int .i64 i) hH ?_
     refine tq (i:=5) (oi:=⟨some 36,.move (.tmp 3),3, "apart.go:1329",#[],none⟩) (v:=.int .i64 k) hH ?_
     refine tq (i:=6) (oi:=⟨some 37,.move (.tmp 4),3, "apart.go:1329",#[],none⟩) (v:=.int .i64 i) hH ?_
     refine tr (rs:=[7]) ?_
     refine AllReadyH.cons (o:=⟨some 38,.call {callee:=.value (.func 152),args:=#[.tmp 36,.tmp 37],argTypes:=#[3,3]},78, "apart.go:1329",#[⟨5,.data⟩,⟨6,.data⟩],none⟩) rfl (fun K hK=>?_) AllReadyH.nil
     go_simp
     refine (markTotal_calls k i wr.drew).mono ?_
     rintro e w5 ⟨rfl,hm5⟩
     have HM5:=hh (((Mod.refl N0 wr).drew).tr hm5)
     clear hm5
     refine hK.out _ _ (HP2.out.mod.tr0 HM5.out) (fun hH=>?_)
     clear hK K
     (try simp only [Act.put,ja,jb,jc])
     refine tq (i:=8) (oi:=⟨some 39,.indexAddr 33 (.tmp 34) (.tmp 35),0, "apart.go:1329",#[⟨3,.data⟩,⟨4,.data⟩,⟨0,.phase⟩,⟨1,.phase⟩,⟨2,.phase⟩,⟨3,.phase⟩,⟨4,.phase⟩,⟨5,.phase⟩,⟨6,.phase⟩,⟨7,.phase⟩],none⟩) (v:=.pointer (some ⟨q,i * 35,none⟩)) hH ?_
     obtain ⟨w6,hst,hp6,hm6⟩:=P1.mark HF.out HP2.out HM5.out hlt hlt2 HVQ.out
     refine tr (rs:=[9]) ?_
     refine AllReadyH.cons (o:=⟨none,.store 78 (.tmp 39) (.tmp 38),0, "apart.go:1329",#[⟨8,.data⟩,⟨7,.data⟩,⟨7,.chain⟩,⟨0,.phase⟩,⟨1,.phase⟩,⟨2,.phase⟩,⟨3,.phase⟩,⟨4,.phase⟩,⟨5,.phase⟩,⟨6,.phase⟩,⟨7,.phase⟩],none⟩) rfl (fun K hK=>?_) AllReadyH.nil
     refine step_execS rfl (exec_store_ptB _ _ rfl rfl rfl hst) ?_
     have HP6:=hh hp6
     clear hst hp6 hm6
     refine hK.out _ _ HP6.out.mod (fun hH=>?_)
     clear hK K
     (try simp only [Act.put])
     refine wpAnyH_done (by kernel_rfl) ?_ _
     go_wp2_with fail
     go_roundw
     case rel=>exact ⟨i+1,by omega,rfl,HP6.out⟩
     case measure=>simp [intOf]; omega
    ·have e:i=ns k:=by omega
     subst e
     go_upto_region 5 with fail
     refine wp_region_lit ?_
     refine ex (v:=.int .i64 (ns k)) ?_
     refine ex (v:=.slice (some ⟨H,ho,none⟩) Kn cK) ?_
     refine ex (v:=.int .i64 k) ?_
     refine ex (v:=.pointer (some ⟨H,ho+k,none⟩)) ?_
     refine wx (exec_load_ptF _ _ 33 _ rfl ⟨H,ho+k,none⟩ rfl (HLD.out _ HP2.out.mod)) ?_
     go_wp2_with fail
     exact ⟨⟨k+1,by omega,by simp,HP2.out.next hlt⟩,by simp [intOf]; omega⟩
  ·have e:Kn=k:=by omega
   subst e
   as_aux_lemma=>
    obtain ⟨w2,hmk,⟨cs,hcs,hcl⟩,hgr⟩:=make_rows wr Kn HF.out.few
    have hp2:=P2.start HP.out (Mod.ofGrown hgr) hcs hcl (fun _=>undef) (fun j=>MC j (ns j+64))
    clear hcs hcl hgr
    generalize w2.heap.size=base at hp2
    generalize wr.heap.size=G at hp2 hmk
    have HP2:=hh hp2
    have HMK:=hh hmk
    clear hp2 hmk HP cs
    go_upto_region 8 with fail
    refine wp_region_lit ?_
    refine ex (v:=.slice (some ⟨H,ho,none⟩) Kn cK) ?_
    refine ex (v:=.int .i64 Kn) ?_
    refine ww (exec_make _ _ 58 (x:=.tmp 41) (y:=.tmp 41) rfl rfl rfl HMK.out) ?_
    refine ex (v:=.slice (some ⟨G,0,none⟩) Kn Kn) ?_
    clear HMK
    clear hlt hk
    go_wp2_with fail
    go_loopw [6] (fun i wx=>∃ (k:Nat) (g:Nat->Value),k<=Kn/\i=.int .i64 k/\P2 w wx Kn vs ns G base k g (fun j=>MC j (ns j+64))) (fun i _=>Kn - (intOf i).toNat)
    case atStart=>exact ⟨0,_,by omega,rfl,HP2.out⟩
    case round=>
     obtain ⟨k,g,hk,rfl,hp⟩:=hrel
     have HP:=hh hp
     clear hp HP2
     by_cases hlt:k<Kn
     ·obtain ⟨a,c,hv⟩:=HF.out.form hlt
      have hcu:=Cur.start HF.out HP.out hlt
      rw [hv] at hcu
      have HCU:=hh hcu
      have HV:=hh hv
      clear hv hcu
      have HLD:=hh (fun (W:World) (hW:Mod (Sb Kn vs) w W)=>load33F ((HF.out.hcell hlt hW).trans (congrArg some HV.out)))
      go_upto_region 12 with fail
      refine wp_region_lit ?_
      refine ex (v:=.slice (some ⟨H,ho,none⟩) Kn cK) ?_
      refine ex (v:=.int .i64 k) ?_
      refine ex (v:=.pointer (some ⟨H,ho+k,none⟩)) ?_
      refine wx (exec_load_ptF _ _ 33 _ rfl ⟨H,ho+k,none⟩ rfl (HLD.out _ HP.out.mod)) ?_
      refine ex (v:=.slice a (ns k) c) ?_
      go_wp2_with fail
      go_loopw [7,8] (fun x j wx=>∃ (v:Value) (m:Nat),m<=64/\v=x/\j=.int .i64 m/\Cur w wx Kn vs ns G base k g (fun j=>MC j (ns j+64)) v (ns k+m) (MC k (ns k+m))) (fun _ j _=>64 - (intOf j).toNat)
      case atStart=>exact ⟨_,0,by omega,rfl,rfl,HCU.out⟩
      case round=>
       obtain ⟨v,m,hm,rfl,rfl,hcu⟩:=hrel
       have HC2:=hh hcu
       have hns:=HF.out.small k hlt
       have hfew:=HF.out.few
       clear hcu HCU
       by_cases hlt2:m<64
       ·go_upto_region 16 with fail
        refine wp_region_lit ?_
        refine ex (v:=v) ?_
        refine ex (v:=.int .i64 k) ?_
        refine ex (v:=.slice (some ⟨H,ho,none⟩) Kn cK) ?_
        refine ex (v:=.int .i64 k) ?_
        refine ex (v:=.pointer (some ⟨H,ho+k,none⟩)) ?_
        refine wx (exec_load_ptF _ _ 33 _ rfl ⟨H,ho+k,none⟩ rfl (HLD.out _ HC2.out.p.mod)) ?_
        refine ex (v:=.int .i64 (ns k)) ?_
        refine ex (v:=.int .i64 m) ?_
        refine wpList_exec (v:=.int .i64 ((ns k+m:Nat):Int)) rfl (by go_simp; exact wrap_i64 (by omega) (by omega)) ?_
        (try simp only [Act.put,ja,jb,jc])
        go_wp2_with fail
        refine (markTotal_calls k (ns k+m) wr).mono ?_
        rintro e w5 ⟨rfl,hm5⟩
        rename_i hK
        refine hK _ _ ?_
        clear hK
        (try simp only [Act.put,ja,jb,jc])
        obtain ⟨v',w7,hap,hc7⟩:=Cur.push HF.out (HC2.out.tr hm5) hlt2 33
        have HC7:=hh hc7
        clear hc7 hm5 HC2
        refine ww (exec_slice1 _ _ rfl (mkT k (ns k+m)) rfl) ?_
        refine ww (exec_app33 (x:=.tmp 57) (y:=.tmp 67) _ _ rfl rfl rfl hap) ?_
        clear hap
        refine ex (v:=v') ?_
        go_wp2_with fail
        go_roundw
        case rel=>exact ⟨_,m+1,by omega,rfl,by simp,HC7.out⟩
        case measure=>simp [intOf]; omega
       ·have e:m=64:=by omega
        subst e
        obtain ⟨w5,hst,hp5⟩:=HC2.out.put HF.out rfl
        have HP5:=hh hp5
        clear hp5 HC2
        go_upto_region 17 with fail
        refine wp_region_lit ?_
        refine ex (v:=.slice (some ⟨G,0,none⟩) Kn Kn) ?_
        refine ex (v:=.int .i64 k) ?_
        refine ex (v:=v) ?_
        refine ex (v:=.pointer (some ⟨G,k,none⟩)) ?_
        refine wpList_execS rfl (exec_store_ptB _ _ rfl rfl rfl hst) ?_
        (try simp only [Act.put])
        clear hst
        go_wp2_with fail
        exact ⟨⟨k+1,_,by omega,by simp,HP5.out⟩,by simp [intOf]; omega⟩
     ·have e:Kn=k:=by omega
      subst e
      as_aux_lemma=>
       have HP3:=HP
       clear HP
       generalize wr=w3 at HP3 ⊢
       clear hlt hk
       go_wp2_with fail
       go_loopw [9] (fun i wx=>∃ k:Nat,k<=Kn/\i=.int .i64 k/\Mod N0 w3 wx) (fun i _=>Kn - (intOf i).toNat)
       case atStart=>exact ⟨0,by omega,rfl,Mod.refl _ _⟩
       case round=>
        obtain ⟨k,hk,rfl,hm⟩:=hrel
        have HM:=hh hm
        clear hm
        by_cases hlt:k<Kn
        ·obtain ⟨a,c,hv⟩:=HF.out.form hlt
         obtain ⟨q,cq,hgk⟩:=own_some (HP3.out.gs k hlt) (show 0<ns k+64 by omega)
         have HLD:=hh (fun (W:World) (hW:Mod N0 w3 W)=>load33F ((HF.out.hcell hlt (HP3.out.mod.tr0 hW)).trans (congrArg some hv)))
         have HLG:=hh (fun (W:World) (hW:Mod N0 w3 W)=>load33F ((HP3.out.gcell hlt hW).trans (congrArg some hgk)))
         have HV:=hh (And.intro hv hgk)
         clear hv hgk
         go_wp2_with fail
         go_loopw [10] (fun j wx=>∃ i:Nat,i<=ns k+64/\j=.int .i64 i/\Mod N0 w3 wx) (fun j _=>ns k+64 - (intOf j).toNat)
         case atStart=>exact ⟨0,by omega,rfl,HM.out⟩
         case round=>
          obtain ⟨i,hi,rfl,hm2⟩:=hrel
          have HM2:=hh hm2
          have hns:=HF.out.small k hlt
          have hfew:=HF.out.few
          clear hm2
          by_cases hlt2:i<ns k+64
          ·obtain ⟨q3,c3,hv3,hld3⟩:=own_at (HP3.out.gs k hlt) hlt2 (MC_get k hlt2)
           have e2:=HV.out.2.symm.trans hv3
           cases e2
           by_cases hsm:i<ns k
           ·obtain ⟨q2,c2,hv2,hld2⟩:=own_at (HP3.out.rows k hlt) hsm (MC_get k hsm)
            have e1:=HV.out.1.symm.trans hv2
            cases e1
            have HC:=hh (And.intro hld2 hld3)
            clear hv2 hv3 hld2 hld3
            as_aux_lemma=>
             go_upto_region 22 with fail
             refine wp_region_lit ?_
             refine ex (v:=.int .i64 i) ?_
             refine ex (v:=.slice (some ⟨G,0,none⟩) Kn Kn) ?_
             refine ex (v:=.int .i64 k) ?_
             refine ex (v:=.pointer (some ⟨G,k,none⟩)) ?_
             refine wx (exec_load_ptF _ _ 33 _ rfl ⟨G,k,none⟩ rfl (HLG.out _ HM2.out)) ?_
             go_upto_region 24 with fail
             refine wp_region_held_drew (S:=fun W=>Mod N0 w3 W) (by kernel_rfl) HM2.out.drew (fun hH=>?_)
             refine tq (i:=0) (oi:=⟨some 88,.move (.tmp 5),58, "apart.go:1342",#[],none⟩) (v:=.slice (some ⟨G,0,none⟩) Kn Kn) hH ?_
             refine tq (i:=1) (oi:=⟨some 89,.move (.tmp 9),3, "apart.go:1342",#[],none⟩) (v:=.int .i64 k) hH ?_
             refine tq (i:=2) (oi:=⟨some 90,.indexAddr 58 (.tmp 88) (.tmp 89),0, "apart.go:1342",#[⟨0,.data⟩,⟨1,.data⟩],none⟩) (v:=.pointer (some ⟨G,k,none⟩)) hH ?_
             refine tk (i:=3) (oi:=⟨some 91,.load 33 (.tmp 90),33, "apart.go:1342",#[⟨2,.data⟩],none⟩) (v:=.slice (some ⟨q,0,none⟩) (ns k+64) cq) hH (fun w' hSw=>by exact exec_load_ptF _ _ 33 _ rfl ⟨G,k,none⟩ rfl (HLG.out _ hSw)) ?_
             refine tq (i:=4) (oi:=⟨some 92,.move (.tmp 10),3, "apart.go:1342",#[],none⟩) (v:=.int .i64 i) hH ?_
             refine tq (i:=5) (oi:=⟨some 93,.indexAddr 33 (.tmp 91) (.tmp 92),0, "apart.go:1342",#[⟨3,.data⟩,⟨4,.data⟩],none⟩) (v:=.pointer (some ⟨q,i * 35,none⟩)) hH ?_
             refine tk (i:=6) (oi:=⟨some 94,.load 78 (.tmp 93),78, "apart.go:1342",#[⟨5,.data⟩],none⟩) (v:=.agg (totCells (mkT k i)).toArray) hH (fun w' hSw=>by exact exec_load_ptF _ _ 78 _ rfl ⟨q,i * 35,none⟩ rfl (HC.out.2 _ hSw)) ?_
             refine tq (i:=7) (oi:=⟨some 95,.move (.tmp 9),3, "apart.go:1342",#[],none⟩) (v:=.int .i64 k) hH ?_
             refine tq (i:=8) (oi:=⟨some 96,.move (.tmp 10),3, "apart.go:1342",#[],none⟩) (v:=.int .i64 i) hH ?_
             refine tr (rs:=[9]) ?_
             refine AllReadyH.cons (o:=⟨some 97,.call {callee:=.value (.func 152),args:=#[.tmp 95,.tmp 96],argTypes:=#[3,3]},78, "apart.go:1342",#[⟨7,.data⟩,⟨8,.data⟩],none⟩) rfl (fun K hK=>?_) AllReadyH.nil
             go_simp
             refine (markTotal_calls k i wr.drew).mono ?_
             rintro e w5 ⟨rfl,hm5⟩
             have HM5:=hh ((HM2.out.drew).tr hm5)
             clear hm5
             refine hK.out _ _ HM5.out (fun hH=>?_)
             clear hK K
             (try simp only [Act.put,ja,jb,jc])
             refine tk (i:=10) (oi:=⟨some 98,.binOp .eql 78 (.tmp 94) (.tmp 97) 78,4, "apart.go:1342",#[⟨6,.data⟩,⟨9,.data⟩],none⟩) (v:=.bool true) hH (fun w' hSw=>by exact exec_eql78 _ _ rfl (mkT k i) rfl rfl) ?_
             refine tq (i:=11) (oi:=⟨some 99,.unOp .not 4 (.tmp 98),4, "apart.go:1342",#[⟨10,.data⟩],none⟩) (v:=.bool false) hH ?_
             refine tq (i:=12) (oi:=⟨some 100,.move (.tmp 99),4, "apart.go:1342",#[⟨11,.data⟩,⟨9,.chain⟩],none⟩) (v:=.bool false) hH ?_
             refine tq (i:=13) (oi:=⟨some 101,.move (.tmp 10),3, "apart.go:1342",#[⟨12,.guard⟩],some (12,false)⟩) (v:=.int .i64 i) hH ?_
             refine tq (i:=14) (oi:=⟨some 102,.move (.tmp 0),58, "apart.go:1342",#[⟨12,.guard⟩],some (12,false)⟩) (v:=.slice (some ⟨H,ho,none⟩) Kn cK) hH ?_
             refine tq (i:=15) (oi:=⟨some 103,.move (.tmp 9),3, "apart.go:1342",#[⟨12,.guard⟩],some (12,false)⟩) (v:=.int .i64 k) hH ?_
             refine tq (i:=16) (oi:=⟨some 104,.indexAddr 58 (.tmp 102) (.tmp 103),0, "apart.go:1342",#[⟨14,.data⟩,⟨15,.data⟩,⟨12,.guard⟩],some (12,false)⟩) (v:=.pointer (some ⟨H,ho+k,none⟩)) hH ?_
             refine tk (i:=17) (oi:=⟨some 105,.load 33 (.tmp 104),33, "apart.go:1342",#[⟨16,.data⟩,⟨12,.guard⟩],some (12,false)⟩) (v:=.slice (some ⟨q2,0,none⟩) (ns k) c) hH (fun w' hSw=>by exact exec_load_ptF _ _ 33 _ rfl ⟨H,ho+k,none⟩ rfl (HLD.out _ hSw)) ?_
             refine tq (i:=18) (oi:=⟨some 106,.call {callee:=.builtin .len,args:=#[.tmp 105],argTypes:=#[33]},3, "apart.go:1342",#[⟨17,.data⟩,⟨12,.guard⟩],some (12,false)⟩) (v:=.int .i64 (ns k)) hH ?_
             refine tk (i:=19) (oi:=⟨some 107,.binOp .lss 3 (.tmp 101) (.tmp 106) 3,4, "apart.go:1342",#[⟨13,.data⟩,⟨18,.data⟩,⟨12,.guard⟩],some (12,false)⟩) (v:=.bool true) hH ?_ ?_
             ·intro w' hSw
              have hdec:decide ((i:Int)<(ns k:Int))=true:=by simp; omega
              go_simp
              (try exact hdec)
             refine tq (i:=20) (oi:=⟨some 108,.move (.tmp 107),4, "apart.go:1342",#[⟨19,.data⟩,⟨12,.chain⟩,⟨12,.guard⟩],some (12,false)⟩) (v:=.bool true) hH ?_
             refine tq (i:=21) (oi:=⟨some 109,.move (.tmp 0),58, "apart.go:1342",#[⟨20,.guard⟩],some (20,true)⟩) (v:=.slice (some ⟨H,ho,none⟩) Kn cK) hH ?_
             refine tq (i:=22) (oi:=⟨some 110,.move (.tmp 9),3, "apart.go:1342",#[⟨20,.guard⟩],some (20,true)⟩) (v:=.int .i64 k) hH ?_
             refine tq (i:=23) (oi:=⟨some 111,.indexAddr 58 (.tmp 109) (.tmp 110),0, "apart.go:1342",#[⟨21,.data⟩,⟨22,.data⟩,⟨20,.guard⟩],some (20,true)⟩) (v:=.pointer (some ⟨H,ho+k,none⟩)) hH ?_
             refine tk (i:=24) (oi:=⟨some 112,.load 33 (.tmp 111),33, "apart.go:1342",#[⟨23,.data⟩,⟨20,.guard⟩],some (20,true)⟩) (v:=.slice (some ⟨q2,0,none⟩) (ns k) c) hH (fun w' hSw=>by exact exec_load_ptF _ _ 33 _ rfl ⟨H,ho+k,none⟩ rfl (HLD.out _ hSw)) ?_
             refine tq (i:=25) (oi:=⟨some 113,.move (.tmp 10),3, "apart.go:1342",#[⟨20,.guard⟩],some (20,true)⟩) (v:=.int .i64 i) hH ?_
             refine tq (i:=26) (oi:=⟨some 114,.indexAddr 33 (.tmp 112) (.tmp 113),0, "apart.go:1342",#[⟨24,.data⟩,⟨25,.data⟩,⟨20,.guard⟩],some (20,true)⟩) (v:=.pointer (some ⟨q2,i * 35,none⟩)) hH ?_
             refine tk (i:=27) (oi:=⟨some 115,.load 78 (.tmp 114),78, "apart.go:1342",#[⟨26,.data⟩,⟨20,.guard⟩],some (20,true)⟩) (v:=.agg (totCells (mkT k i)).toArray) hH (fun w' hSw=>by exact exec_load_ptF _ _ 78 _ rfl ⟨q2,i * 35,none⟩ rfl (HC.out.1 _ hSw)) ?_
             refine tq (i:=28) (oi:=⟨some 116,.move (.tmp 9),3, "apart.go:1342",#[⟨20,.guard⟩],some (20,true)⟩) (v:=.int .i64 k) hH ?_
             refine tq (i:=29) (oi:=⟨some 117,.move (.tmp 10),3, "apart.go:1342",#[⟨20,.guard⟩],some (20,true)⟩) (v:=.int .i64 i) hH ?_
             refine tr (rs:=[30]) ?_
             refine AllReadyH.cons (o:=⟨some 118,.call {callee:=.value (.func 152),args:=#[.tmp 116,.tmp 117],argTypes:=#[3,3]},78, "apart.go:1342",#[⟨28,.data⟩,⟨29,.data⟩,⟨20,.chain⟩,⟨20,.guard⟩],some (20,true)⟩) rfl (fun K hK=>?_) AllReadyH.nil
             go_simp
             refine (markTotal_calls k i w5).mono ?_
             rintro e w6 ⟨rfl,hm6⟩
             have HM6:=hh (HM5.out.tr hm6)
             clear hm6
             refine hK.out _ _ HM6.out (fun hH=>?_)
             clear hK K
             (try simp only [Act.put,ja,jb,jc])
             refine tk (i:=31) (oi:=⟨some 119,.binOp .eql 78 (.tmp 115) (.tmp 118) 78,4, "apart.go:1342",#[⟨27,.data⟩,⟨30,.data⟩,⟨20,.guard⟩],some (20,true)⟩) (v:=.bool true) hH (fun w' hSw=>by exact exec_eql78 _ _ rfl (mkT k i) rfl rfl) ?_
             refine tq (i:=32) (oi:=⟨some 120,.unOp .not 4 (.tmp 119),4, "apart.go:1342",#[⟨31,.data⟩,⟨20,.guard⟩],some (20,true)⟩) (v:=.bool false) hH ?_
             refine tq (i:=33) (oi:=⟨some 121,.pick (.tmp 108) (.tmp 120) (.const (.bool false)),4, "apart.go:1342",#[⟨20,.data⟩,⟨32,.data⟩,⟨12,.guard⟩],some (12,false)⟩) (v:=.bool false) hH ?_
             refine tq (i:=34) (oi:=⟨some 122,.pick (.tmp 100) (.const (.bool true)) (.tmp 121),4, "apart.go:1342",#[⟨12,.data⟩,⟨33,.data⟩],none⟩) (v:=.bool false) hH ?_
             refine wpAnyH_done (by kernel_rfl) ?_ _
             go_wp2_with fail
             go_roundw
             case rel=>exact ⟨i+1,by omega,rfl,HM6.out⟩
             case measure=>simp [intOf]; omega
           ·have HC:=hh (And.intro trivial hld3)
            clear hv3 hld3
            as_aux_lemma=>
             go_upto_region 22 with fail
             refine wp_region_lit ?_
             refine ex (v:=.int .i64 i) ?_
             refine ex (v:=.slice (some ⟨G,0,none⟩) Kn Kn) ?_
             refine ex (v:=.int .i64 k) ?_
             refine ex (v:=.pointer (some ⟨G,k,none⟩)) ?_
             refine wx (exec_load_ptF _ _ 33 _ rfl ⟨G,k,none⟩ rfl (HLG.out _ HM2.out)) ?_
             go_upto_region 24 with fail
             refine wp_region_held_drew (S:=fun W=>Mod N0 w3 W) (by kernel_rfl) HM2.out.drew (fun hH=>?_)
             refine tq (i:=0) (oi:=⟨some 88,.move (.tmp 5),58, "apart.go:1342",#[],none⟩) (v:=.slice (some ⟨G,0,none⟩) Kn Kn) hH ?_
             refine tq (i:=1) (oi:=⟨some 89,.move (.tmp 9),3, "apart.go:1342",#[],none⟩) (v:=.int .i64 k) hH ?_
             refine tq (i:=2) (oi:=⟨some 90,.indexAddr 58 (.tmp 88) (.tmp 89),0, "apart.go:1342",#[⟨0,.data⟩,⟨1,.data⟩],none⟩) (v:=.pointer (some ⟨G,k,none⟩)) hH ?_
             refine tk (i:=3) (oi:=⟨some 91,.load 33 (.tmp 90),33, "apart.go:1342",#[⟨2,.data⟩],none⟩) (v:=.slice (some ⟨q,0,none⟩) (ns k+64) cq) hH (fun w' hSw=>by exact exec_load_ptF _ _ 33 _ rfl ⟨G,k,none⟩ rfl (HLG.out _ hSw)) ?_
             refine tq (i:=4) (oi:=⟨some 92,.move (.tmp 10),3, "apart.go:1342",#[],none⟩) (v:=.int .i64 i) hH ?_
             refine tq (i:=5) (oi:=⟨some 93,.indexAddr 33 (.tmp 91) (.tmp 92),0, "apart.go:1342",#[⟨3,.data⟩,⟨4,.data⟩],none⟩) (v:=.pointer (some ⟨q,i * 35,none⟩)) hH ?_
             refine tk (i:=6) (oi:=⟨some 94,.load 78 (.tmp 93),78, "apart.go:1342",#[⟨5,.data⟩],none⟩) (v:=.agg (totCells (mkT k i)).toArray) hH (fun w' hSw=>by exact exec_load_ptF _ _ 78 _ rfl ⟨q,i * 35,none⟩ rfl (HC.out.2 _ hSw)) ?_
             refine tq (i:=7) (oi:=⟨some 95,.move (.tmp 9),3, "apart.go:1342",#[],none⟩) (v:=.int .i64 k) hH ?_
             refine tq (i:=8) (oi:=⟨some 96,.move (.tmp 10),3, "apart.go:1342",#[],none⟩) (v:=.int .i64 i) hH ?_
             refine tr (rs:=[9]) ?_
             refine AllReadyH.cons (o:=⟨some 97,.call {callee:=.value (.func 152),args:=#[.tmp 95,.tmp 96],argTypes:=#[3,3]},78, "apart.go:1342",#[⟨7,.data⟩,⟨8,.data⟩],none⟩) rfl (fun K hK=>?_) AllReadyH.nil
             go_simp
             refine (markTotal_calls k i wr.drew).mono ?_
             rintro e w5 ⟨rfl,hm5⟩
             have HM5:=hh ((HM2.out.drew).tr hm5)
             clear hm5
             refine hK.out _ _ HM5.out (fun hH=>?_)
             clear hK K
             (try simp only [Act.put,ja,jb,jc])
             refine tk (i:=10) (oi:=⟨some 98,.binOp .eql 78 (.tmp 94) (.tmp 97) 78,4, "apart.go:1342",#[⟨6,.data⟩,⟨9,.data⟩],none⟩) (v:=.bool true) hH (fun w' hSw=>by exact exec_eql78 _ _ rfl (mkT k i) rfl rfl) ?_
             refine tq (i:=11) (oi:=⟨some 99,.unOp .not 4 (.tmp 98),4, "apart.go:1342",#[⟨10,.data⟩],none⟩) (v:=.bool false) hH ?_
             refine tq (i:=12) (oi:=⟨some 100,.move (.tmp 99),4, "apart.go:1342",#[⟨11,.data⟩,⟨9,.chain⟩],none⟩) (v:=.bool false) hH ?_
             refine tq (i:=13) (oi:=⟨some 101,.move (.tmp 10),3, "apart.go:1342",#[⟨12,.guard⟩],some (12,false)⟩) (v:=.int .i64 i) hH ?_
             refine tq (i:=14) (oi:=⟨some 102,.move (.tmp 0),58, "apart.go:1342",#[⟨12,.guard⟩],some (12,false)⟩) (v:=.slice (some ⟨H,ho,none⟩) Kn cK) hH ?_
             refine tq (i:=15) (oi:=⟨some 103,.move (.tmp 9),3, "apart.go:1342",#[⟨12,.guard⟩],some (12,false)⟩) (v:=.int .i64 k) hH ?_
             refine tq (i:=16) (oi:=⟨some 104,.indexAddr 58 (.tmp 102) (.tmp 103),0, "apart.go:1342",#[⟨14,.data⟩,⟨15,.data⟩,⟨12,.guard⟩],some (12,false)⟩) (v:=.pointer (some ⟨H,ho+k,none⟩)) hH ?_
             refine tk (i:=17) (oi:=⟨some 105,.load 33 (.tmp 104),33, "apart.go:1342",#[⟨16,.data⟩,⟨12,.guard⟩],some (12,false)⟩) (v:=.slice a (ns k) c) hH (fun w' hSw=>by exact exec_load_ptF _ _ 33 _ rfl ⟨H,ho+k,none⟩ rfl (HLD.out _ hSw)) ?_
             refine tq (i:=18) (oi:=⟨some 106,.call {callee:=.builtin .len,args:=#[.tmp 105],argTypes:=#[33]},3, "apart.go:1342",#[⟨17,.data⟩,⟨12,.guard⟩],some (12,false)⟩) (v:=.int .i64 (ns k)) hH ?_
             refine tk (i:=19) (oi:=⟨some 107,.binOp .lss 3 (.tmp 101) (.tmp 106) 3,4, "apart.go:1342",#[⟨13,.data⟩,⟨18,.data⟩,⟨12,.guard⟩],some (12,false)⟩) (v:=.bool false) hH ?_ ?_
             ·intro w' hSw
              have hdec:decide ((i:Int)<(ns k:Int))=false:=by simp; omega
              go_simp
              (try exact hdec)
             refine tq (i:=20) (oi:=⟨some 108,.move (.tmp 107),4, "apart.go:1342",#[⟨19,.data⟩,⟨12,.chain⟩,⟨12,.guard⟩],some (12,false)⟩) (v:=.bool false) hH ?_
             refine tn (i:=21) (oi:=⟨some 109,.move (.tmp 0),58, "apart.go:1342",#[⟨20,.guard⟩],some (20,true)⟩) (v:=undef) hH ?_
             refine tn (i:=22) (oi:=⟨some 110,.move (.tmp 9),3, "apart.go:1342",#[⟨20,.guard⟩],some (20,true)⟩) (v:=undef) hH ?_
             refine tn (i:=23) (oi:=⟨some 111,.indexAddr 58 (.tmp 109) (.tmp 110),0, "apart.go:1342",#[⟨21,.data⟩,⟨22,.data⟩,⟨20,.guard⟩],some (20,true)⟩) (v:=undef) hH ?_
             refine tn (i:=24) (oi:=⟨some 112,.load 33 (.tmp 111),33, "apart.go:1342",#[⟨23,.data⟩,⟨20,.guard⟩],some (20,true)⟩) (v:=undef) hH ?_
             refine tn (i:=25) (oi:=⟨some 113,.move (.tmp 10),3, "apart.go:1342",#[⟨20,.guard⟩],some (20,true)⟩) (v:=undef) hH ?_
             refine tn (i:=26) (oi:=⟨some 114,.indexAddr 33 (.tmp 112) (.tmp 113),0, "apart.go:1342",#[⟨24,.data⟩,⟨25,.data⟩,⟨20,.guard⟩],some (20,true)⟩) (v:=undef) hH ?_
             refine tn (i:=27) (oi:=⟨some 115,.load 78 (.tmp 114),78, "apart.go:1342",#[⟨26,.data⟩,⟨20,.guard⟩],some (20,true)⟩) (v:=undef) hH ?_
             refine tn (i:=28) (oi:=⟨some 116,.move (.tmp 9),3, "apart.go:1342",#[⟨20,.guard⟩],some (20,true)⟩) (v:=undef) hH ?_
             refine tn (i:=29) (oi:=⟨some 117,.move (.tmp 10),3, "apart.go:1342",#[⟨20,.guard⟩],some (20,true)⟩) (v:=undef) hH ?_
             refine tr (rs:=[30]) ?_
             refine AllReadyH.cons (o:=⟨some 118,.call {callee:=.value (.func 152),args:=#[.tmp 116,.tmp 117],argTypes:=#[3,3]},78, "apart.go:1342",#[⟨28,.data⟩,⟨29,.data⟩,⟨20,.chain⟩,⟨20,.guard⟩],some (20,true)⟩) rfl (fun K hK=>?_) AllReadyH.nil
             rw [if_neg (by rw [show Region.wanted _ _=false by rfl]; simp)]
             refine hK.out _ _ HM5.out (fun hH=>?_)
             clear hK K
             (try simp only [Act.put,ja,jb,jc])
             refine tn (i:=31) (oi:=⟨some 119,.binOp .eql 78 (.tmp 115) (.tmp 118) 78,4, "apart.go:1342",#[⟨27,.data⟩,⟨30,.data⟩,⟨20,.guard⟩],some (20,true)⟩) (v:=undef) hH ?_
             refine tn (i:=32) (oi:=⟨some 120,.unOp .not 4 (.tmp 119),4, "apart.go:1342",#[⟨31,.data⟩,⟨20,.guard⟩],some (20,true)⟩) (v:=undef) hH ?_
             refine tq (i:=33) (oi:=⟨some 121,.pick (.tmp 108) (.tmp 120) (.const (.bool false)),4, "apart.go:1342",#[⟨20,.data⟩,⟨32,.data⟩,⟨12,.guard⟩],some (12,false)⟩) (v:=.bool false) hH ?_
             refine tq (i:=34) (oi:=⟨some 122,.pick (.tmp 100) (.const (.bool true)) (.tmp 121),4, "apart.go:1342",#[⟨12,.data⟩,⟨33,.data⟩],none⟩) (v:=.bool false) hH ?_
             refine wpAnyH_done (by kernel_rfl) ?_ _
             go_wp2_with fail
             go_roundw
             case rel=>exact ⟨i+1,by omega,rfl,HM5.out⟩
             case measure=>simp [intOf]; omega
          ·have e:i=ns k+64:=by omega
           subst e
           go_upto_region 22 with fail
           refine wp_region_lit ?_
           refine ex (v:=.int .i64 ((ns k+64:Nat):Int)) ?_
           refine ex (v:=.slice (some ⟨G,0,none⟩) Kn Kn) ?_
           refine ex (v:=.int .i64 k) ?_
           refine ex (v:=.pointer (some ⟨G,k,none⟩)) ?_
           refine wx (exec_load_ptF _ _ 33 _ rfl ⟨G,k,none⟩ rfl (HLG.out _ HM2.out)) ?_
           go_wp2_with fail
           exact ⟨⟨k+1,by omega,by simp,HM2.out⟩,by simp [intOf]; omega⟩
        ·have e:Kn=k:=by omega
         subst e
         as_aux_lemma=>
          have HP:=hh ((HP3.out.tr HM.out).zero (fun _=>undef) (fun j=>MC j (ns j) ++ MC (j+Kn) 64))
          clear HP3 HM
          clear hlt hk
          go_wp2_with fail
          go_loopw [11] (fun i wx=>∃ (k:Nat) (g:Nat->Value),k<=Kn/\i=.int .i64 k/\P2 w wx Kn vs ns G base k g (fun j=>MC j (ns j) ++ MC (j+Kn) 64)) (fun i _=>Kn - (intOf i).toNat)
          case atStart=>exact ⟨0,_,by omega,rfl,HP.out⟩
          case round=>
           obtain ⟨k,g,hk,rfl,hp⟩:=hrel
           clear HP
           have HP:=hh hp
           clear hp
           by_cases hlt:k<Kn
           ·obtain ⟨a,c,hv⟩:=HF.out.form hlt
            have HV:=hh hv
            clear hv
            have HLD:=hh (fun (W:World) (hW:Mod (Sb Kn vs) w W)=>load33F ((HF.out.hcell hlt hW).trans (congrArg some HV.out)))
            obtain ⟨w5,X,hmk,hown,hgr⟩:=make_tots wr
            have HMN:=hh (Mn.start HP.out (Mod.ofGrown hgr) hown)
            have HMK:=hh hmk
            clear hmk hown hgr
            go_upto_region 29 with fail
            refine wp_region_lit ?_
            refine ww (exec_make (x:=.const (.int .i64 64)) (y:=.const (.int .i64 64)) _ _ 33 rfl rfl rfl HMK.out) ?_
            clear HMK HP
            generalize wr.heap.size=Q at HMN ⊢
            refine ex (v:=.slice (some ⟨Q,0,none⟩) 64 64) ?_
            go_wp2_with fail
            go_loopw [13] (fun j wx=>∃ m:Nat,m<=64/\j=.int .i64 m/\Mn w wx Kn vs ns G base k g (fun j=>MC j (ns j) ++ MC (j+Kn) 64) Q m) (fun j _=>64 - (intOf j).toNat)
            case atStart=>exact ⟨0,by omega,rfl,HMN.out⟩
            case round=>
             obtain ⟨m,hm,rfl,hmn⟩:=hrel
             clear HMN
             have HMN:=hh hmn
             have hfew:=HF.out.few
             clear hmn
             by_cases hlt2:m<64
             ·go_upto_region 33 with fail
              refine wp_region_lit ?_
              refine ex (v:=.slice (some ⟨Q,0,none⟩) 64 64) ?_
              refine ex (v:=.int .i64 m) ?_
              refine ex (v:=.int .i64 k) ?_
              refine ex (v:=.slice (some ⟨H,ho,none⟩) Kn cK) ?_
              refine ex (v:=.int .i64 Kn) ?_
              refine wpList_exec (v:=.int .i64 ((k+Kn:Nat):Int)) rfl (by go_simp; exact wrap_i64 (by omega) (by omega)) ?_
              (try simp only [Act.put,ja,jb,jc])
              refine ex (v:=.int .i64 m) ?_
              go_wp2_with fail
              refine (markTotal_calls (k+Kn) m wr).mono ?_
              rintro e w6 ⟨rfl,hm6⟩
              rename_i hK
              refine hK _ _ ?_
              clear hK
              (try simp only [Act.put,ja,jb,jc])
              obtain ⟨w7,hst,hmn7⟩:=HMN.out.mark hm6 hlt2
              have HM7:=hh hmn7
              clear hmn7 hm6 HMN
              refine ex (v:=.pointer (some ⟨Q,m * 35,none⟩)) ?_
              refine wpList_execS rfl (exec_store_ptB _ _ rfl rfl rfl hst) ?_
              (try simp only [Act.put])
              clear hst
              go_wp2_with fail
              go_roundw
              case rel=>exact ⟨m+1,by omega,rfl,HM7.out⟩
              case measure=>simp [intOf]; omega
             ·have e:m=64:=by omega
              subst e
              have hpm:=HMN.out.p.mod
              obtain ⟨v',w6,hap,hc6⟩:=HMN.out.app HF.out hlt 33
              obtain ⟨w7,hst,hp7⟩:=hc6.put HF.out rfl
              rw [HV.out] at hap
              have HP7:=hh hp7
              have HPM:=hh hpm
              clear hp7 hc6 HMN hpm
              go_upto_region 34 with fail
              refine wp_region_lit ?_
              refine ex (v:=.slice (some ⟨G,0,none⟩) Kn Kn) ?_
              refine ex (v:=.int .i64 k) ?_
              refine ex (v:=.slice (some ⟨H,ho,none⟩) Kn cK) ?_
              refine ex (v:=.int .i64 k) ?_
              refine ex (v:=.pointer (some ⟨H,ho+k,none⟩)) ?_
              refine wx (exec_load_ptF _ _ 33 _ rfl ⟨H,ho+k,none⟩ rfl (HLD.out _ HPM.out)) ?_
              refine ex (v:=.slice (some ⟨Q,0,none⟩) 64 64) ?_
              refine ww (exec_app33 (x:=.tmp 148) (y:=.tmp 149) _ _ rfl rfl rfl hap) ?_
              refine ex (v:=.pointer (some ⟨G,k,none⟩)) ?_
              refine wpList_execS rfl (exec_store_ptB _ _ rfl rfl rfl hst) ?_
              (try simp only [Act.put])
              clear hst hap
              go_wp2_with fail
              exact ⟨⟨k+1,_,by omega,by simp,HP7.out⟩,by simp [intOf]; omega⟩
           ·have e:Kn=k:=by omega
            subst e
            as_aux_lemma=>
             have HP4:=HP
             clear HP
             generalize wr=w4 at HP4 ⊢
             clear hlt hk
             go_wp2_with fail
             go_loopw [14] (fun i wx=>∃ k:Nat,k<=Kn/\i=.int .i64 k/\Mod N0 w4 wx) (fun i _=>Kn - (intOf i).toNat)
             case atStart=>exact ⟨0,by omega,rfl,Mod.refl _ w4⟩
             case round=>
              obtain ⟨k,hk,rfl,hm⟩:=hrel
              have HM:=hh hm
              clear hm
              by_cases hlt:k<Kn
              ·obtain ⟨a,c,hv⟩:=HF.out.form hlt
               obtain ⟨q,cq,hgk⟩:=own_some (HP4.out.gs k hlt) (show 0<ns k+64 by omega)
               have HLD:=hh (fun (W:World) (hW:Mod N0 w4 W)=>load33F ((HF.out.hcell hlt (HP4.out.mod.tr0 hW)).trans (congrArg some hv)))
               have HLG:=hh (fun (W:World) (hW:Mod N0 w4 W)=>load33F ((HP4.out.gcell hlt hW).trans (congrArg some hgk)))
               have HV:=hh (And.intro hv hgk)
               clear hv hgk
               go_wp2_with fail
               go_loopw [15] (fun j wx=>∃ i:Nat,i<=ns k/\j=.int .i64 i/\Mod N0 w4 wx) (fun j _=>ns k - (intOf j).toNat)
               case atStart=>exact ⟨0,by omega,rfl,HM.out⟩
               case round=>
                obtain ⟨i,hi,rfl,hm2⟩:=hrel
                have HM2:=hh hm2
                have hns:=HF.out.small k hlt
                have hfew:=HF.out.few
                clear hm2
                by_cases hlt2:i<ns k
                ·obtain ⟨q2,c2,hv2,hld2⟩:=own_at (HP4.out.rows k hlt) hlt2 (MC_get k hlt2)
                 obtain ⟨q3,c3,hv3,hld3⟩:=own_at (HP4.out.gs k hlt) (show i<ns k+64 by omega) (fun j u hu=>by rw [List.getElem?_append_left (by rw [MC_length]; have:=(List.getElem?_eq_some_iff.1 hu).1; rw [totCells_length] at this; omega)]; exact MC_get k hlt2 j u hu)
                 have e1:=HV.out.1.symm.trans hv2
                 have e2:=HV.out.2.symm.trans hv3
                 cases e1
                 cases e2
                 have HC:=hh (And.intro hld2 hld3)
                 clear hv2 hv3 hld2 hld3
                 have hlt3:(i:Int)<(ns k:Int)+64:=by omega
                 as_aux_lemma=>
                  go_upto_region 39 with fail
                  refine wp_region_lit ?_
                  refine ex (v:=.int .i64 i) ?_
                  refine ex (v:=.slice (some ⟨H,ho,none⟩) Kn cK) ?_
                  refine ex (v:=.int .i64 k) ?_
                  refine ex (v:=.pointer (some ⟨H,ho+k,none⟩)) ?_
                  refine wx (exec_load_ptF _ _ 33 _ rfl ⟨H,ho+k,none⟩ rfl (HLD.out _ HM2.out)) ?_
                  go_upto_region 41 with fail
                  refine wp_region_held_drew (S:=fun W=>Mod N0 w4 W) (by kernel_rfl) HM2.out.drew (fun hH=>?_)
                  refine tq (i:=0) (oi:=⟨some 167,.move (.tmp 0),58, "apart.go:1356",#[],none⟩) (v:=.slice (some ⟨H,ho,none⟩) Kn cK) hH ?_
                  refine tq (i:=1) (oi:=⟨some 168,.move (.tmp 14),3, "apart.go:1356",#[],none⟩) (v:=.int .i64 k) hH ?_
                  refine tq (i:=2) (oi:=⟨some 169,.indexAddr 58 (.tmp 167) (.tmp 168),0, "apart.go:1356",#[⟨0,.data⟩,⟨1,.data⟩],none⟩) (v:=.pointer (some ⟨H,ho+k,none⟩)) hH ?_
                  refine tk (i:=3) (oi:=⟨some 170,.load 33 (.tmp 169),33, "apart.go:1356",#[⟨2,.data⟩],none⟩) (v:=.slice (some ⟨q2,0,none⟩) (ns k) c) hH (fun w' hSw=>by exact exec_load_ptF _ _ 33 _ rfl ⟨H,ho+k,none⟩ rfl (HLD.out _ hSw)) ?_
                  refine tq (i:=4) (oi:=⟨some 171,.move (.tmp 15),3, "apart.go:1356",#[],none⟩) (v:=.int .i64 i) hH ?_
                  refine tq (i:=5) (oi:=⟨some 172,.indexAddr 33 (.tmp 170) (.tmp 171),0, "apart.go:1356",#[⟨3,.data⟩,⟨4,.data⟩],none⟩) (v:=.pointer (some ⟨q2,i * 35,none⟩)) hH ?_
                  refine tk (i:=6) (oi:=⟨some 173,.load 78 (.tmp 172),78, "apart.go:1356",#[⟨5,.data⟩],none⟩) (v:=.agg (totCells (mkT k i)).toArray) hH (fun w' hSw=>by exact exec_load_ptF _ _ 78 _ rfl ⟨q2,i * 35,none⟩ rfl (HC.out.1 _ hSw)) ?_
                  refine tq (i:=7) (oi:=⟨some 174,.move (.tmp 14),3, "apart.go:1356",#[],none⟩) (v:=.int .i64 k) hH ?_
                  refine tq (i:=8) (oi:=⟨some 175,.move (.tmp 15),3, "apart.go:1356",#[],none⟩) (v:=.int .i64 i) hH ?_
                  refine tr (rs:=[9]) ?_
                  refine AllReadyH.cons (o:=⟨some 176,.call {callee:=.value (.func 152),args:=#[.tmp 174,.tmp 175],argTypes:=#[3,3]},78, "apart.go:1356",#[⟨7,.data⟩,⟨8,.data⟩],none⟩) rfl (fun K hK=>?_) AllReadyH.nil
                  go_simp
                  refine (markTotal_calls k i wr.drew).mono ?_
                  rintro e w5 ⟨rfl,hm5⟩
                  have HM5:=hh ((HM2.out.drew).tr hm5)
                  clear hm5
                  refine hK.out _ _ HM5.out (fun hH=>?_)
                  clear hK K
                  (try simp only [Act.put,ja,jb,jc])
                  refine tk (i:=10) (oi:=⟨some 177,.binOp .eql 78 (.tmp 173) (.tmp 176) 78,4, "apart.go:1356",#[⟨6,.data⟩,⟨9,.data⟩],none⟩) (v:=.bool true) hH (fun w' hSw=>by exact exec_eql78 _ _ rfl (mkT k i) rfl rfl) ?_
                  refine tq (i:=11) (oi:=⟨some 178,.unOp .not 4 (.tmp 177),4, "apart.go:1356",#[⟨10,.data⟩],none⟩) (v:=.bool false) hH ?_
                  refine tq (i:=12) (oi:=⟨some 179,.move (.tmp 178),4, "apart.go:1356",#[⟨11,.data⟩,⟨9,.chain⟩],none⟩) (v:=.bool false) hH ?_
                  refine tq (i:=13) (oi:=⟨some 180,.move (.tmp 5),58, "apart.go:1356",#[⟨12,.guard⟩],some (12,false)⟩) (v:=.slice (some ⟨G,0,none⟩) Kn Kn) hH ?_
                  refine tq (i:=14) (oi:=⟨some 181,.move (.tmp 14),3, "apart.go:1356",#[⟨12,.guard⟩],some (12,false)⟩) (v:=.int .i64 k) hH ?_
                  refine tq (i:=15) (oi:=⟨some 182,.indexAddr 58 (.tmp 180) (.tmp 181),0, "apart.go:1356",#[⟨13,.data⟩,⟨14,.data⟩,⟨12,.guard⟩],some (12,false)⟩) (v:=.pointer (some ⟨G,k,none⟩)) hH ?_
                  refine tk (i:=16) (oi:=⟨some 183,.load 33 (.tmp 182),33, "apart.go:1356",#[⟨15,.data⟩,⟨12,.guard⟩],some (12,false)⟩) (v:=.slice (some ⟨q,0,none⟩) (ns k+64) cq) hH (fun w' hSw=>by exact exec_load_ptF _ _ 33 _ rfl ⟨G,k,none⟩ rfl (HLG.out _ hSw)) ?_
                  refine tq (i:=17) (oi:=⟨some 184,.move (.tmp 15),3, "apart.go:1356",#[⟨12,.guard⟩],some (12,false)⟩) (v:=.int .i64 i) hH ?_
                  refine tq (i:=18) (oi:=⟨some 185,.indexAddr 33 (.tmp 183) (.tmp 184),0, "apart.go:1356",#[⟨16,.data⟩,⟨17,.data⟩,⟨12,.guard⟩],some (12,false)⟩) (v:=.pointer (some ⟨q,i * 35,none⟩)) hH ?_
                  refine tk (i:=19) (oi:=⟨some 186,.load 78 (.tmp 185),78, "apart.go:1356",#[⟨18,.data⟩,⟨12,.guard⟩],some (12,false)⟩) (v:=.agg (totCells (mkT k i)).toArray) hH (fun w' hSw=>by exact exec_load_ptF _ _ 78 _ rfl ⟨q,i * 35,none⟩ rfl (HC.out.2 _ hSw)) ?_
                  refine tq (i:=20) (oi:=⟨some 187,.move (.tmp 14),3, "apart.go:1356",#[⟨12,.guard⟩],some (12,false)⟩) (v:=.int .i64 k) hH ?_
                  refine tq (i:=21) (oi:=⟨some 188,.move (.tmp 15),3, "apart.go:1356",#[⟨12,.guard⟩],some (12,false)⟩) (v:=.int .i64 i) hH ?_
                  refine tr (rs:=[22]) ?_
                  refine AllReadyH.cons (o:=⟨some 189,.call {callee:=.value (.func 152),args:=#[.tmp 187,.tmp 188],argTypes:=#[3,3]},78, "apart.go:1356",#[⟨20,.data⟩,⟨21,.data⟩,⟨12,.chain⟩,⟨12,.guard⟩],some (12,false)⟩) rfl (fun K hK=>?_) AllReadyH.nil
                  go_simp
                  refine (markTotal_calls k i w5).mono ?_
                  rintro e w6 ⟨rfl,hm6⟩
                  have HM6:=hh (HM5.out.tr hm6)
                  clear hm6
                  refine hK.out _ _ HM6.out (fun hH=>?_)
                  clear hK K
                  (try simp only [Act.put,ja,jb,jc])
                  refine tk (i:=23) (oi:=⟨some 190,.binOp .eql 78 (.tmp 186) (.tmp 189) 78,4, "apart.go:1356",#[⟨19,.data⟩,⟨22,.data⟩,⟨12,.guard⟩],some (12,false)⟩) (v:=.bool true) hH (fun w' hSw=>by exact exec_eql78 _ _ rfl (mkT k i) rfl rfl) ?_
                  refine tq (i:=24) (oi:=⟨some 191,.unOp .not 4 (.tmp 190),4, "apart.go:1356",#[⟨23,.data⟩,⟨12,.guard⟩],some (12,false)⟩) (v:=.bool false) hH ?_
                  refine tq (i:=25) (oi:=⟨some 192,.pick (.tmp 179) (.const (.bool true)) (.tmp 191),4, "apart.go:1356",#[⟨12,.data⟩,⟨24,.data⟩],none⟩) (v:=.bool false) hH ?_
                  refine wpAnyH_done (by kernel_rfl) ?_ _
                  go_wp2_with fail
                  go_roundw
                  case rel=>exact ⟨i+1,by omega,rfl,HM6.out⟩
                  case measure=>simp [intOf]; omega
                ·have e:i=ns k:=by omega
                 subst e
                 go_upto_region 39 with fail
                 refine wp_region_lit ?_
                 refine ex (v:=.int .i64 (ns k)) ?_
                 refine ex (v:=.slice (some ⟨H,ho,none⟩) Kn cK) ?_
                 refine ex (v:=.int .i64 k) ?_
                 refine ex (v:=.pointer (some ⟨H,ho+k,none⟩)) ?_
                 refine wx (exec_load_ptF _ _ 33 _ rfl ⟨H,ho+k,none⟩ rfl (HLD.out _ HM2.out)) ?_
                 go_wp2_with fail
                 exact ⟨⟨k+1,by omega,by simp,HM2.out⟩,by simp [intOf]; omega⟩
              ·have e:Kn=k:=by omega
               subst e
               go_wp2_with fail
               go_ret
               exact ⟨rfl,HP4.out.mod.tr0 HM.out⟩
end Go.Proofs.YtckcamlicgdklaaGreat
