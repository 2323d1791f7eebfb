/- sums.add. totals.Coins. totals.Balance. -/
import Derived.Test.YtckcamlicgdklaaGreatN11
namespace Go.Proofs.YtckcamlicgdklaaGreat
open Go.RowKit Go.Mo Go.Sort
theorem load57_85 {w:World} {b:Nat} {z:Int} {u:Value} (h:w.heap[b]?=some (.cells #[.int .i64 (hiW z),.int .u64 (loW z),u] 90 (0,0))):(loadVar 48 ⟨b,0,none⟩).run Tryz.prog w=.ok (.agg #[.int .i64 (hiW z),.int .u64 (loW z)]) w:=
 run_loadVar_mid w b 0 48 [.int .i64 (hiW z),.int .u64 (loW z)] _ (fun j v hv=>by
  rw [Nat.zero_add,cellB h]
  match j,hv with
 |0,hv=>exact hv
 |1,hv=>exact hv
 |j+2,hv=>simp at hv) Tryz.underlying48 rfl (by rw [size57]; rfl)
set_option maxRecDepth 100000 in
set_option maxHeartbeats 4000000 in
theorem sadd_calls (w:World) (b:Nat) (z:Int) (ua:Option Addr) (un uc:Nat) (hb:w.heap[b]?=some (.cells #[.int .i64 (hiW z),.int .u64 (loW z),.slice ua un uc] 90 (0,0))) (L:Nat) (ns:List Int)
  (hL:w.heap[L]?=some (.cells (ns.map (Value.int .i64)).toArray 2 (0,0))) (hne:L≠b) (hin:∀ n∈ns,In64 n) (hlen:ns.length<=1000000) :
  Calls Tryz.prog 35 #[.pointer (some ⟨b,0,none⟩),.slice (some ⟨L,0,none⟩) ns.length ns.length] w fun e w'=>e=ret0/\w'.heap[b]?=some (.cells #[.int .i64 (hiW (z+ns.sum)),.int .u64 (loW (z+ns.sum)),.slice ua un uc] 90 (0,0))/\Mod (fun q=>q=b) w w':=by
 have HL:=hh (And.intro hL hb)
 have HIN:=hh hin
 clear hL hb hin
 go_enter Tryz.func35,Tryz.ntmps35
 go_wp2_with fail
 go_loopw [8] (fun i wr=>∃ k:Nat,k<=ns.length/\i=.int .i64 k/\wr.heap[b]?=some (.cells #[.int .i64 (hiW (z+(ns.take k).sum)),.int .u64 (loW (z+(ns.take k).sum)),.slice ua un uc] 90 (0,0))/\Mod (fun q=>q=b) w wr) (fun i _=>ns.length - (intOf i).toNat)
 case atStart=>exact ⟨0,by omega,rfl,by simpa using HL.out.2,Mod.refl _ w⟩
 case round=>
  obtain ⟨k,hk,rfl,hb,hm⟩:=hrel
  by_cases hlt:k<ns.length
  ·obtain ⟨n,hn⟩:∃ n,ns[k]?=some n:=⟨_,List.getElem?_eq_getElem hlt⟩
   have hsum:(ns.take (k+1)).sum=(ns.take k).sum+n:=by rw [List.take_add_one,hn]; simp
   have e0:wr.cell? ⟨L,k,none⟩=some (.int .i64 n):=by
    rw [cellB ((hm.block L (ltB HL.out.1) hne).trans HL.out.1),List.getElem?_toArray,List.getElem?_map,hn]; rfl
   have HN:=hh (HIN.out n (List.mem_of_getElem? hn))
   have HS:=hh hsum
   have HB:=hh hb
   have HM:=hh hm
   clear hb hm hn hsum
   go_upto_region 3 with fail
   refine wp_region_held_drew (S:=fun _=>True) (by kernel_rfl) trivial (fun hH=>?_)
   refine wpAnyH_take (i:=0) (oi:=⟨some 12,.move (.tmp 0),86, "totals.go:20",#[],none⟩) (v:=.pointer (some ⟨b,0,none⟩)) rfl (by kernel_rfl) (by kernel_rfl) (by kernel_rfl) (fun _ _ _ h=>h) (Or.inl ⟨by rfl,?_⟩) trivial ?_
   ·intro w' _
    go_simp
    try with_reducible rfl
   (try simp only [Act.put,ja,jb,jc])
   refine wpAnyH_take (i:=1) (oi:=⟨some 13,.move (.tmp 0),86, "totals.go:20",#[],none⟩) (v:=.pointer (some ⟨b,0,none⟩)) rfl (by kernel_rfl) (by kernel_rfl) (by kernel_rfl) (fun _ _ _ h=>h) (Or.inl ⟨by rfl,?_⟩) trivial ?_
   ·intro w' _
    go_simp
    try with_reducible rfl
   (try simp only [Act.put,ja,jb,jc])
   refine wpAnyH_take (i:=2) (oi:=⟨some 14,.nilCheck (.tmp 13),0, "totals.go:20",#[⟨1,.data⟩],none⟩) (v:=.pointer (some ⟨b,0,none⟩)) rfl (by kernel_rfl) (by kernel_rfl) (by kernel_rfl) (fun _ _ _ h=>h) (Or.inl ⟨by rfl,?_⟩) trivial ?_
   ·intro w' _
    go_simp
    try with_reducible rfl
   (try simp only [Act.put,ja,jb,jc])
   refine wpAnyH_take (i:=3) (oi:=⟨some 15,.fieldAddr 90 (.tmp 14) 0,0, "totals.go:20",#[⟨2,.data⟩],none⟩) (v:=.pointer (some ⟨b,0,none⟩)) rfl (by kernel_rfl) (by kernel_rfl) (by kernel_rfl) (fun _ _ _ h=>h) (Or.inl ⟨by rfl,?_⟩) trivial ?_
   ·intro w' _
    go_simp
    try with_reducible rfl
   (try simp only [Act.put,ja,jb,jc])
   refine wpAnyH_take (i:=5) (oi:=⟨some 17,.move (.tmp 5),2, "totals.go:20",#[],none⟩) (v:=.int .i64 n) rfl (by kernel_rfl) (by kernel_rfl) (by kernel_rfl) (fun _ _ _ h=>h) (Or.inl ⟨by rfl,?_⟩) trivial ?_
   ·intro w' _
    go_simp
    try with_reducible rfl
   (try simp only [Act.put,ja,jb,jc])
   refine tr (rs:=[4,6]) ?_
   refine AllReadyH.cons (o:=⟨some 16,.load 48 (.tmp 15),48, "totals.go:20",#[⟨3,.data⟩],none⟩) rfl (fun K hK=>?_) ?_
   ·refine step_exec rfl (exec_load_at _ _ 48 _ rfl ⟨b,0,none⟩ rfl (load57_85 (drewB HB.out))) ?_
    refine hK.out _ _ trivial (fun hH=>?_)
    clear hK K
    (try simp only [Act.put,ja,jb,jc])
    refine tr (rs:=[6]) ?_
    refine AllReadyH.cons (o:=⟨some 18,.call {callee:=.value (.func 61),args:=#[.tmp 17],argTypes:=#[2]},48, "totals.go:20",#[⟨5,.data⟩],none⟩) rfl (fun K hK=>?_) AllReadyH.nil
    go_simp
    refine (wide_calls n HN.out.1 HN.out.2 _).mono ?_
    rintro e w5 ⟨rfl,hm5⟩
    have hb5:=(hm5.block _ (ltB HB.out) (fun q=>q)).trans HB.out
    have hmw5:=HM.out.drew.tr (hm5.any (S:=fun q=>q=b))
    refine hK.out _ _ trivial (fun hH=>?_)
    clear hK K
    (try simp only [Act.put,ja,jb,jc])
    have H5:=hh (And.intro hb5 hmw5)
    clear hb5 hmw5
    unfold wideV
    refine tr (rs:=[7]) ?_
    refine AllReadyH.cons (o:=⟨some 19,.buildSlice 97 2 #[(0,.tmp 16),(1,.tmp 18)],97, "totals.go:20",#[⟨4,.data⟩,⟨6,.data⟩],none⟩) rfl (fun K hK=>?_) AllReadyH.nil
    go_simp
    refine hK.out _ _ trivial (fun hH=>?_)
    clear hK K
    (try simp only [Act.put,ja,jb,jc])
    refine tr (rs:=[8]) ?_
    refine AllReadyH.cons (o:=⟨some 20,.call {callee:=.value (.func 60),args:=#[.tmp 19],argTypes:=#[97]},48, "totals.go:20",#[⟨7,.data⟩,⟨6,.chain⟩],none⟩) rfl (fun K hK=>?_) AllReadyH.nil
    go_simp
    refine (plus2 w5 (z+(ns.take k).sum) n).mono ?_
    rintro e w6 ⟨rfl,hm6⟩
    have hb6:=(hm6.block _ (ltB (allocB H5.out.1 _)) (fun q=>q)).trans (allocB H5.out.1 _)
    have hmw6:=(H5.out.2.alloc _).tr (hm6.any (S:=fun q=>q=b))
    refine hK.out _ _ trivial (fun hH=>?_)
    clear hK K
    (try simp only [Act.put,ja,jb,jc])
    unfold wideV
    have s0:=cellB hb6 0
    have s1:=cellB hb6 1
    have f0:=frozB hb6 0
    have f1:=frozB hb6 1
    simp only [List.getElem?_toArray,List.getElem?_cons_zero,List.getElem?_cons_succ] at s0 s1
    have H6:=hh (And.intro hb6 hmw6)
    clear hb6 hmw6
    refine wpAnyH_take (i:=9) (oi:=⟨some 21,.nilCheck (.tmp 12),0, "totals.go:20",#[⟨0,.data⟩,⟨0,.phase⟩,⟨1,.phase⟩,⟨2,.phase⟩,⟨3,.phase⟩,⟨4,.phase⟩,⟨5,.phase⟩,⟨6,.phase⟩,⟨7,.phase⟩,⟨8,.phase⟩],none⟩) (v:=.pointer (some ⟨b,0,none⟩)) rfl (by kernel_rfl) (by kernel_rfl) (by kernel_rfl) (fun _ _ _ h=>h) (Or.inl ⟨by rfl,?_⟩) trivial ?_
    ·intro w' _
     go_simp
     try with_reducible rfl
    (try simp only [Act.put,ja,jb,jc])
    refine wpAnyH_take (i:=10) (oi:=⟨some 22,.fieldAddr 90 (.tmp 21) 0,0, "totals.go:20",#[⟨9,.data⟩,⟨0,.phase⟩,⟨1,.phase⟩,⟨2,.phase⟩,⟨3,.phase⟩,⟨4,.phase⟩,⟨5,.phase⟩,⟨6,.phase⟩,⟨7,.phase⟩,⟨8,.phase⟩],none⟩) (v:=.pointer (some ⟨b,0,none⟩)) rfl (by kernel_rfl) (by kernel_rfl) (by kernel_rfl) (fun _ _ _ h=>h) (Or.inl ⟨by rfl,?_⟩) trivial ?_
    ·intro w' _
     go_simp
     try with_reducible rfl
    (try simp only [Act.put,ja,jb,jc])
    refine tr (rs:=[11]) ?_
    refine AllReadyH.cons (o:=⟨none,.store 48 (.tmp 22) (.tmp 20),0, "totals.go:20",#[⟨10,.data⟩,⟨8,.data⟩,⟨8,.chain⟩,⟨0,.phase⟩,⟨1,.phase⟩,⟨2,.phase⟩,⟨3,.phase⟩,⟨4,.phase⟩,⟨5,.phase⟩,⟨6,.phase⟩,⟨7,.phase⟩,⟨8,.phase⟩],none⟩) rfl (fun K hK=>?_) AllReadyH.nil
    go_simp
    refine hK.out _ _ trivial (fun hH=>?_)
    clear hK K
    (try simp only [Act.put])
    refine wpAnyH_done (by kernel_rfl) ?_ _
    go_wp2_with fail
    go_roundw
    case rel=>
     refine ⟨k+1,by omega,by simp,?_,(H6.out.2.setCell (p:=⟨b,0,none⟩) (fun _=>rfl) _).setCell (p:=⟨b,1,none⟩) (fun _=>rfl) _⟩
     rw [setB (setB H6.out.1 0 _) 1 _,HS.out,← Int.add_assoc]
     rfl
    case measure=>simp [intOf]; omega
   ·refine AllReadyH.cons (o:=⟨some 18,.call {callee:=.value (.func 61),args:=#[.tmp 17],argTypes:=#[2]},48, "totals.go:20",#[⟨5,.data⟩],none⟩) rfl (fun K hK=>?_) AllReadyH.nil
    go_simp
    refine (wide_calls n HN.out.1 HN.out.2 _).mono ?_
    rintro e w5 ⟨rfl,hm5⟩
    have hb5:=(hm5.block _ (ltB HB.out) (fun q=>q)).trans HB.out
    have hmw5:=HM.out.drew.tr (hm5.any (S:=fun q=>q=b))
    refine hK.out _ _ trivial (fun hH=>?_)
    clear hK K
    (try simp only [Act.put,ja,jb,jc])
    refine tr (rs:=[4]) ?_
    refine AllReadyH.cons (o:=⟨some 16,.load 48 (.tmp 15),48, "totals.go:20",#[⟨3,.data⟩],none⟩) rfl (fun K hK=>?_) AllReadyH.nil
    refine step_exec rfl (exec_load_at _ _ 48 _ rfl ⟨b,0,none⟩ rfl (load57_85 hb5)) ?_
    refine hK.out _ _ trivial (fun hH=>?_)
    clear hK K
    (try simp only [Act.put,ja,jb,jc])
    have H5:=hh (And.intro hb5 hmw5)
    clear hb5 hmw5
    unfold wideV
    refine tr (rs:=[7]) ?_
    refine AllReadyH.cons (o:=⟨some 19,.buildSlice 97 2 #[(0,.tmp 16),(1,.tmp 18)],97, "totals.go:20",#[⟨4,.data⟩,⟨6,.data⟩],none⟩) rfl (fun K hK=>?_) AllReadyH.nil
    go_simp
    refine hK.out _ _ trivial (fun hH=>?_)
    clear hK K
    (try simp only [Act.put,ja,jb,jc])
    refine tr (rs:=[8]) ?_
    refine AllReadyH.cons (o:=⟨some 20,.call {callee:=.value (.func 60),args:=#[.tmp 19],argTypes:=#[97]},48, "totals.go:20",#[⟨7,.data⟩,⟨6,.chain⟩],none⟩) rfl (fun K hK=>?_) AllReadyH.nil
    go_simp
    refine (plus2 w5 (z+(ns.take k).sum) n).mono ?_
    rintro e w6 ⟨rfl,hm6⟩
    have hb6:=(hm6.block _ (ltB (allocB H5.out.1 _)) (fun q=>q)).trans (allocB H5.out.1 _)
    have hmw6:=(H5.out.2.alloc _).tr (hm6.any (S:=fun q=>q=b))
    refine hK.out _ _ trivial (fun hH=>?_)
    clear hK K
    (try simp only [Act.put,ja,jb,jc])
    unfold wideV
    have s0:=cellB hb6 0
    have s1:=cellB hb6 1
    have f0:=frozB hb6 0
    have f1:=frozB hb6 1
    simp only [List.getElem?_toArray,List.getElem?_cons_zero,List.getElem?_cons_succ] at s0 s1
    have H6:=hh (And.intro hb6 hmw6)
    clear hb6 hmw6
    refine wpAnyH_take (i:=9) (oi:=⟨some 21,.nilCheck (.tmp 12),0, "totals.go:20",#[⟨0,.data⟩,⟨0,.phase⟩,⟨1,.phase⟩,⟨2,.phase⟩,⟨3,.phase⟩,⟨4,.phase⟩,⟨5,.phase⟩,⟨6,.phase⟩,⟨7,.phase⟩,⟨8,.phase⟩],none⟩) (v:=.pointer (some ⟨b,0,none⟩)) rfl (by kernel_rfl) (by kernel_rfl) (by kernel_rfl) (fun _ _ _ h=>h) (Or.inl ⟨by rfl,?_⟩) trivial ?_
    ·intro w' _
     go_simp
     try with_reducible rfl
    (try simp only [Act.put,ja,jb,jc])
    refine wpAnyH_take (i:=10) (oi:=⟨some 22,.fieldAddr 90 (.tmp 21) 0,0, "totals.go:20",#[⟨9,.data⟩,⟨0,.phase⟩,⟨1,.phase⟩,⟨2,.phase⟩,⟨3,.phase⟩,⟨4,.phase⟩,⟨5,.phase⟩,⟨6,.phase⟩,⟨7,.phase⟩,⟨8,.phase⟩],none⟩) (v:=.pointer (some ⟨b,0,none⟩)) rfl (by kernel_rfl) (by kernel_rfl) (by kernel_rfl) (fun _ _ _ h=>h) (Or.inl ⟨by rfl,?_⟩) trivial ?_
    ·intro w' _
     go_simp
     try with_reducible rfl
    (try simp only [Act.put,ja,jb,jc])
    refine tr (rs:=[11]) ?_
    refine AllReadyH.cons (o:=⟨none,.store 48 (.tmp 22) (.tmp 20),0, "totals.go:20",#[⟨10,.data⟩,⟨8,.data⟩,⟨8,.chain⟩,⟨0,.phase⟩,⟨1,.phase⟩,⟨2,.phase⟩,⟨3,.phase⟩,⟨4,.phase⟩,⟨5,.phase⟩,⟨6,.phase⟩,⟨7,.phase⟩,⟨8,.phase⟩],none⟩) rfl (fun K hK=>?_) AllReadyH.nil
    go_simp
    refine hK.out _ _ trivial (fun hH=>?_)
    clear hK K
    (try simp only [Act.put])
    refine wpAnyH_done (by kernel_rfl) ?_ _
    go_wp2_with fail
    go_roundw
    case rel=>
     refine ⟨k+1,by omega,by simp,?_,(H6.out.2.setCell (p:=⟨b,0,none⟩) (fun _=>rfl) _).setCell (p:=⟨b,1,none⟩) (fun _=>rfl) _⟩
     rw [setB (setB H6.out.1 0 _) 1 _,HS.out,← Int.add_assoc]
     rfl
    case measure=>simp [intOf]; omega
  ·have e:k=ns.length:=by omega
   subst e
   rw [List.take_length] at hb
   have H3:=hh (And.intro hb hm)
   clear hb hm
   go_wp2_with fail
   go_returns
   exact ⟨rfl,H3.out.1,H3.out.2⟩
end Go.Proofs.YtckcamlicgdklaaGreat
namespace Go.Proofs.YtckcamlicgdklaaGreat
open Go.RowKit Go.Mo Go.Sort
theorem res10 {tmps:Array Value} {b:Nat} {W:World} {x y:Value} (ht:tmps[2]?.getD undef=.pointer (some ⟨b,0,none⟩)) (h:W.heap[b]?=some (.cells #[x,y] 48 (0,0))):(results Tryz.f14 tmps).run Tryz.prog W=.ok (.agg #[x,y]) W:=by
 have s0:=cellB h 0
 have s1:=cellB h 1
 simp only [List.getElem?_toArray,List.getElem?_cons_zero,List.getElem?_cons_succ] at s0 s1
 simp [results,Tryz.results14,go_sem,ht,s0,s1]
set_option maxRecDepth 100000 in
set_option maxHeartbeats 1000000 in
theorem coins_calls (w:World) (cs:List Value) (sv:Value) (fees forf:Int) (hc:StC cs sv fees forf) (hf:In64 fees) (hg:In64 forf) (es:List Ent) (h:EntsAt w sv es) (hbk:(bookV (es.map (·.val))).length<=1000000) :
  Calls Tryz.prog 14 #[.agg cs.toArray] w fun e w'=>e=.returned (wideV (coins (es.map (·.val))+(fees+forf)))/\Mod N0 w w':=by
 obtain ⟨w1,hw1⟩:∃ w1,(w.alloc (.cells cs.toArray 36)).alloc (.cells #[.int .i64 0,.int .u64 0] 48)=w1:=⟨_,rfl⟩
 have hA:w1.heap[w.heap.size]?=some (.cells cs.toArray 36 (0,0)):=by rw [← hw1]; exact allocB (newB w _) _
 have hR:w1.heap[w.heap.size+1]?=some (.cells #[.int .i64 0,.int .u64 0] 48 (0,0)):=by
  rw [← hw1]; have:=newB (w.alloc (.cells cs.toArray 36)) (.cells #[.int .i64 0,.int .u64 0] 48); rwa [World.size_alloc] at this
 have hm:Mod N0 w w1:=by rw [← hw1]; exact ((Mod.refl _ w).alloc _).alloc _
 have hs1:w1.heap.size=w.heap.size+2:=by rw [← hw1]; simp
 have s44:w1.cell? ⟨w.heap.size,44,none⟩=some sv:=by rw [cellB hA,List.getElem?_toArray]; exact hc.ents
 have HT:=hh (tof_all w1 sv es (h.tr hm) (fun _=>true) (fun x _ a c W _=>each_calls x a c W) (by rw [filter_all]; exact hbk))
 rw [filter_all] at HT
 have H1:=hh (And.intro hA (And.intro hR (And.intro hm hs1)))
 have HC:=hh (And.intro hc (And.intro hf hg))
 obtain ⟨sa,sc,rfl,_⟩:=h
 clear hA hR hm hc hbk hs1 hf hg
 go_enter Tryz.func14,Tryz.ntmps14
 go_wp2_with fail
 refine HT.out.mono ?_
 rintro e w2 ⟨b,u,d,rfl,hb2,hb,h1,h2,h3,h4,h5⟩
 obtain ⟨ua,un,uc,rfl⟩:=ownsRow_slice h3
 clear h1 h2 h3 h4
 have hA2:=(h5.block _ (ltB H1.out.1) (fun q=>q)).trans H1.out.1
 have hR2:=(h5.block _ (ltB H1.out.2.1) (fun q=>q)).trans H1.out.2.1
 have s177:w2.cell? ⟨w.heap.size,177,none⟩=some (.int .i64 fees):=by rw [cellB hA2,List.getElem?_toArray]; exact HC.out.1.fees
 have s178:w2.cell? ⟨w.heap.size,178,none⟩=some (.int .i64 forf):=by rw [cellB hA2,List.getElem?_toArray]; exact HC.out.1.forf
 have hlt:=ltB hb2
 have HS:=hh (sadd_calls (w2.alloc (.cells #[.int .i64 fees,.int .i64 forf] 2)) b (coins (es.map (·.val))) ua un uc (allocB hb2 _) w2.heap.size [fees,forf] (newB w2 _) (by omega) (by intro n hn; simp at hn; rcases hn with rfl|rfl; exact HC.out.2.1; exact HC.out.2.2) (by simp))
 have H2:=hh (And.intro hR2 (And.intro (H1.out.2.2.1.tr h5) hb))
 have hsz:=H1.out.2.2.2
 clear hb2 h5 hA2 hR2
 go_wp2_with fail
 refine HS.out.mono ?_
 rintro e w3 ⟨rfl,hb3,hm3⟩
 have hR3:=(hm3.block (w.heap.size+1) (ltB (allocB H2.out.1 _)) (by omega)).trans (allocB H2.out.1 _)
 have hm3':Mod N0 w w3:=(H2.out.2.1.alloc _).trans hm3 (fun q e hl=>by omega)
 have e0:=cellB hb3 0
 have e1:=cellB hb3 1
 have g0:=cellB hR3 0
 have g1:=cellB hR3 1
 have f0:=frozB hR3 0
 have f1:=frozB hR3 1
 simp only [List.getElem?_toArray,List.getElem?_cons_zero,List.getElem?_cons_succ] at e0 e1 g0 g1
 have H3:=hh (And.intro hR3 hm3')
 clear hR3 hm3' hb3 hm3
 have hsum:coins (es.map (·.val))+[fees,forf].sum=coins (es.map (·.val))+(fees+forf):=by simp
 rw [hsum] at e0 e1
 go_wp2_with fail
 refine bodyPost_ret (v:=wideV (coins (es.map (·.val))+(fees+forf))) (res10 (x:=.int .i64 (hiW (coins (es.map (·.val))+(fees+forf)))) (y:=.int .u64 (loW (coins (es.map (·.val))+(fees+forf)))) rfl ?_) rfl ⟨rfl,?_⟩
 ·rw [setB (setB H3.out.1 0 _) 1 _]; rfl
 ·exact (H3.out.2.setCell (p:=⟨w.heap.size+1,0,none⟩) (fun q=>absurd q (by simp)) _).setCell (p:=⟨w.heap.size+1,1,none⟩) (fun q=>absurd q (by simp)) _
end Go.Proofs.YtckcamlicgdklaaGreat
namespace Go.Proofs.YtckcamlicgdklaaGreat
open Go.RowKit Go.Mo Go.Sort
theorem res9 {tmps:Array Value} {b:Nat} {W:World} {x y u:Value} (ht:tmps[4]?.getD undef=.pointer (some ⟨b,0,none⟩)) (hu:tmps[5]?.getD undef=u) (h:W.heap[b]?=some (.cells #[x,y] 48 (0,0))):(results Tryz.f10 tmps).run Tryz.prog W=.ok (.tuple #[.agg #[x,y],u]) W:=by
 have s0:=cellB h 0
 have s1:=cellB h 1
 simp only [List.getElem?_toArray,List.getElem?_cons_zero,List.getElem?_cons_succ] at s0 s1
 simp [results,Tryz.results10,go_sem,ht,hu,s0,s1]
set_option maxRecDepth 100000 in
set_option maxHeartbeats 4000000 in
theorem balance_calls (w:World) (cs:List Value) (sv:Value) (fees forf:Int) (hc:StC cs sv fees forf) (t:Adr) (es:List Ent) (h:EntsAt w sv es) (hbk:(bookV ((es.filter fun x=>decide (x.addr=t)).map (·.val))).length<=1000000) :
  Calls Tryz.prog 10 #[.agg cs.toArray,.agg (adrCells t).toArray] w fun e w'=>SumsPost w ((es.filter fun x=>decide (x.addr=t)).map (·.val)) e w':=by
 obtain ⟨w1,hw1⟩:∃ w1,((w.alloc (.cells cs.toArray 36)).alloc (.cells (adrCells t).toArray 41)).alloc (.cells #[.int .i64 0,.int .u64 0] 48)=w1:=⟨_,rfl⟩
 have hA:w1.heap[w.heap.size]?=some (.cells cs.toArray 36 (0,0)):=by rw [← hw1]; exact allocB (allocB (newB w _) _) _
 have hQ:w1.heap[w.heap.size+1]?=some (.cells (adrCells t).toArray 41 (0,0)):=by
  rw [← hw1]; have:=newB (w.alloc (.cells cs.toArray 36)) (.cells (adrCells t).toArray 41); rw [World.size_alloc] at this; exact allocB this _
 have hR:w1.heap[w.heap.size+1+1]?=some (.cells #[.int .i64 0,.int .u64 0] 48 (0,0)):=by
  rw [← hw1]; have:=newB ((w.alloc (.cells cs.toArray 36)).alloc (.cells (adrCells t).toArray 41)) (.cells #[.int .i64 0,.int .u64 0] 48); rwa [World.size_alloc,World.size_alloc] at this
 have hm:Mod N0 w w1:=by rw [← hw1]; exact (((Mod.refl _ w).alloc _).alloc _).alloc _
 have hs1:w1.heap.size=w.heap.size+3:=by rw [← hw1]; simp
 have s44:w1.cell? ⟨w.heap.size,44,none⟩=some sv:=by rw [cellB hA,List.getElem?_toArray]; exact hc.ents
 have HT:=hh (tof_one w1 sv es (h.tr hm) (w.heap.size+1) (fun x=>decide (x.addr=t)) (fun x _ a c W hW=>bal1_calls x a c (w.heap.size+1) t W ((hW.block _ (ltB hQ) (fun q=>q)).trans hQ)) hbk)
 have H1:=hh (And.intro hR (And.intro hm hs1))
 obtain ⟨sa,sc,rfl,_⟩:=h
 clear hA hQ hR hm hc hbk hs1
 generalize ((es.filter fun x=>decide (x.addr=t)).map (·.val))=vs at HT ⊢
 go_enter Tryz.func10,Tryz.ntmps10
 go_wp2_with fail
 refine HT.out.mono ?_
 rintro e w2 ⟨b,u,d,rfl,hb2,hb,h1,h2,h3,h4,h5⟩
 obtain ⟨ua,un,uc,rfl⟩:=ownsRow_slice h3
 have hR2:=(h5.block _ (ltB H1.out.1) (fun q=>q)).trans H1.out.1
 have hsz:=H1.out.2.2
 have H2:=hh (And.intro hR2 (And.intro hb2 (And.intro (H1.out.2.1.tr h5) (And.intro h1 (And.intro h2 (And.intro h3 h4))))))
 have HLT:=hh (And.intro hb (ltB hb2))
 clear hR2 hb2 h1 h2 h3 h4 h5 hb
 go_upto_region 2 with fail
 refine wp_region_held_drew (S:=fun W=>W.heap[b]?=some (.cells #[.int .i64 (hiW (coins vs)),.int .u64 (loW (coins vs)),.slice ua un uc] 90 (0,0))) (by kernel_rfl) H2.out.2.1 (fun hH=>?_)
 refine tq (i:=0) (oi:=⟨some 11,.move (.tmp 6),86, "totals.go:53",#[],none⟩) (v:=.pointer (some ⟨b,0,none⟩)) hH ?_
 refine tq (i:=1) (oi:=⟨some 12,.nilCheck (.tmp 11),0, "totals.go:53",#[⟨0,.data⟩],none⟩) (v:=.pointer (some ⟨b,0,none⟩)) hH ?_
 refine tq (i:=2) (oi:=⟨some 13,.fieldAddr 90 (.tmp 12) 0,0, "totals.go:53",#[⟨1,.data⟩],none⟩) (v:=.pointer (some ⟨b,0,none⟩)) hH ?_
 refine tk (i:=3) (oi:=⟨some 14,.load 48 (.tmp 13),48, "totals.go:53",#[⟨2,.data⟩],none⟩) (v:=.agg #[.int .i64 (hiW (coins vs)),.int .u64 (loW (coins vs))]) hH (fun w' hSw=>by exact exec_load_at _ _ 48 _ rfl ⟨b,0,none⟩ rfl (load57_85 hSw)) ?_
 refine tq (i:=4) (oi:=⟨some 15,.move (.tmp 6),86, "totals.go:53",#[⟨8,.gcOnly .lateStores⟩],none⟩) (v:=.pointer (some ⟨b,0,none⟩)) hH ?_
 refine tq (i:=5) (oi:=⟨some 16,.nilCheck (.tmp 15),0, "totals.go:53",#[⟨4,.data⟩,⟨8,.gcOnly .lateStores⟩],none⟩) (v:=.pointer (some ⟨b,0,none⟩)) hH ?_
 refine tq (i:=6) (oi:=⟨some 17,.fieldAddr 90 (.tmp 16) 1,0, "totals.go:53",#[⟨5,.data⟩,⟨8,.gcOnly .lateStores⟩],none⟩) (v:=.pointer (some ⟨b,2,none⟩)) hH ?_
 refine tk (i:=7) (oi:=⟨some 18,.load 33 (.tmp 17),33, "totals.go:53",#[⟨6,.data⟩,⟨8,.gcOnly .lateStores⟩],none⟩) (v:=.slice ua un uc) hH ?_ ?_
 ·intro w' hSw
  have s2:w'.cell? ⟨b,2,none⟩=some (.slice ua un uc):=(cellB hSw 2).trans rfl
  go_simp
  try with_reducible rfl
 refine tr (rs:=[8]) ?_
 refine AllReadyH.cons (o:=⟨none,.store 48 (.tmp 4) (.tmp 14),0, "totals.go:53",#[⟨3,.data⟩,⟨0,.phase⟩,⟨1,.phase⟩,⟨2,.phase⟩,⟨3,.phase⟩,⟨4,.textOnly .lateStores⟩,⟨5,.textOnly .lateStores⟩,⟨6,.textOnly .lateStores⟩,⟨7,.textOnly .lateStores⟩],none⟩) rfl (fun K hK=>?_) AllReadyH.nil
 have hb3:(w2.drew.setRow (w.heap.size+1+1) #[.int .i64 (hiW (coins vs)),.int .u64 (loW (coins vs))]).heap[b]?=some (.cells #[.int .i64 (hiW (coins vs)),.int .u64 (loW (coins vs)),.slice ua un uc] 90 (0,0)):=
  (setRow_other (by have:=HLT.out.1; omega) _).trans (drewB H2.out.2.1)
 have hm3:Mod (fun q=>q=w.heap.size+1+1) w2 (w2.drew.setRow (w.heap.size+1+1) #[.int .i64 (hiW (coins vs)),.int .u64 (loW (coins vs))]):=Mod_setRow (Mod.refl (fun q=>q=w.heap.size+1+1) w2).drew (fun _=>rfl) _
 have hr3:=setRow_same (cs:=#[.int .i64 (hiW (coins vs)),.int .u64 (loW (coins vs))]) (drewB H2.out.1)
 have hst:=store57 w2.drew (w.heap.size+1+1) (coins vs) (drewB H2.out.1)
 generalize w2.drew.setRow (w.heap.size+1+1) #[.int .i64 (hiW (coins vs)),.int .u64 (loW (coins vs))]=w3 at hb3 hm3 hr3 hst
 refine step_execS rfl (exec_store _ _ rfl rfl rfl hst) ?_
 refine hK.out _ _ hb3 (fun hH=>?_)
 clear hK K
 (try simp only [Act.put])
 refine tq (i:=9) (oi:=⟨some 5,.assign (.tmp 18),33, "totals.go:53",#[⟨7,.data⟩,⟨8,.chain⟩,⟨0,.phase⟩,⟨1,.phase⟩,⟨2,.phase⟩,⟨3,.phase⟩,⟨4,.phase⟩,⟨5,.phase⟩,⟨6,.phase⟩,⟨7,.phase⟩,⟨8,.phase⟩],none⟩) (v:=.slice ua un uc) hH ?_
 refine wpAnyH_done (by kernel_rfl) ?_ _
 go_wp2_with fail
 refine bodyPost_ret (v:=.tuple #[wideV (coins vs),.slice ua un uc]) (res9 (x:=.int .i64 (hiW (coins vs))) (y:=.int .u64 (loW (coins vs))) rfl rfl ?_) rfl ⟨.slice ua un uc,d,rfl,H2.out.2.2.2.1,H2.out.2.2.2.2.1,?_,fun k hk=>?_,?_⟩
 ·exact hr3
 ·exact ownsRow_block H2.out.2.2.2.2.2.1 (fun q hq=>hm3.block q (ownsRow_lt H2.out.2.2.2.2.2.1 hq) (fun e=>by have:=(H2.out.2.2.2.2.2.2 q hq).1; omega))
 ·have:=(H2.out.2.2.2.2.2.2 k hk).1
  omega
 ·exact H2.out.2.2.1.trans hm3 (fun q e hl=>by omega)
end Go.Proofs.YtckcamlicgdklaaGreat
