/- The references of chapter 5: Sums. -/
import Derived.Test.YtckcamlicgdklaaGreatN39
namespace Go.Proofs.YtckcamlicgdklaaGreat
open Go.RowKit Go.Mo Go.Sort
def vAssets (vs:List Val):Tl:=vs.flatMap (·.assets)
theorem vAssets_snoc {vs:List Val} {k:Nat} {x:Val} (h:vs[k]?=some x):vAssets (vs.take (k+1))=vAssets (vs.take k) ++ x.assets:=by
 unfold vAssets
 rw [List.take_add_one,h,List.flatMap_append]
 simp
theorem vAssets_le (vs:List Val) (k:Nat):(vAssets (vs.take k)).length<=(vAssets vs).length:=by
 conv=>rhs; rw [← List.take_append_drop k vs]; unfold vAssets; rw [List.flatMap_append,List.length_append]
 unfold vAssets
 omega
theorem resR32 {tmps:Array Value} {b:Nat} {W:World} {z:Int} {u:Value} (ht:tmps[2]?.getD undef=.pointer (some ⟨b,0,none⟩)) (hu:tmps[3]?.getD undef=u) (h:W.heap[b]?=some (.cells #[.int .i64 (hiW z),.int .u64 (loW z)] 48 (0,0))):(results Tryz.f32 tmps).run Tryz.prog W=.ok (.tuple #[wideV z,u]) W:=by
 have s0:=cellB h 0
 have s1:=cellB h 1
 simp only [List.getElem?_toArray,List.getElem?_cons_zero,List.getElem?_cons_succ] at s0 s1
 simp [results,Tryz.results32,go_sem,ht,hu,s0,s1,wideV]
theorem as_pol (x:Nm×Int):((asCells x.1 x.2).drop 0).take 32=x.1.policy.map by8:=by
 have:=x.1.len
 simp [asCells,nmCells,this]
theorem as_nm (x:Nm×Int):(asCells x.1 x.2)[32]?=some (.string ⟨x.1.name.toArray⟩):=by
 have:=x.1.len
 simp [asCells,nmCells,this]
theorem as_num (x:Nm×Int):(asCells x.1 x.2)[33]?=some (.int .i64 x.2):=by
 have:=x.1.len
 simp [asCells,nmCells,this]
theorem as_loads {w:World} {g:Nat} {x:Nm×Int} (h:w.heap[g]?=some (.cells (asCells x.1 x.2).toArray 76 (0,0))) :
  (loadVar 27 ⟨g,0,none⟩).run Tryz.prog w=.ok (.agg (x.1.policy.map by8).toArray) w/\(loadVar 9 ⟨g,32,none⟩).run Tryz.prog w=.ok (.string ⟨x.1.name.toArray⟩) w/\w.cell? ⟨g,33,none⟩=some (.int .i64 x.2):=by
 have hl:=asCells_length x.1 x.2
 refine ⟨?_,load_str (by rw [cellB h,List.getElem?_toArray,as_nm]),by rw [cellB h,List.getElem?_toArray,as_num]⟩
 have:=load_box h 27 0 32 _ Tryz.underlying27 rfl zs27 (by omega)
 rwa [as_pol] at this
theorem refPlus2 (w:World) (v:Value) (a b:Int) (h:WideAt w v [a,b]):Calls Tryz.prog 36 #[v] w fun e w'=>e=.returned (wideV (a+b))/\Mod N0 w w':=by
 have:=refPlus_calls w v [a,b] h (by simp)
 simpa using this
/-- The two blocks of Sums and its row. -/
structure SW (w w1 wr:World) (z:Int) (v:Value) (ts:Tl):Prop where
 res:wr.heap[w.heap.size]?=some (.cells #[.int .i64 (hiW 0),.int .u64 (loW 0)] 48 (0,0))
 coin:wr.heap[w.heap.size+1]?=some (.cells #[.int .i64 (hiW z),.int .u64 (loW z)] 48 (0,0))
 row:OutAt w1 wr v ts
 mod:Mod N0 w wr
 size:w1.heap.size=w.heap.size+2
 size2:w.heap.size+2<=wr.heap.size
theorem SW.tr {w w1 wr w':World} {z:Int} {v:Value} {ts:Tl} (h:SW w w1 wr z v ts) (hm:Mod N0 wr w'):SW w w1 w' z v ts:=
 ⟨(hm.block _ (ltB h.res) (fun q=>q)).trans h.res,(hm.block _ (ltB h.coin) (fun q=>q)).trans h.coin,h.row.tr hm (fun _ _ q=>q),h.mod.tr hm,h.size,Nat.le_trans h.size2 hm.size⟩
theorem SW.set {w w1 wr w':World} {z z':Int} {v:Value} {ts:Tl} (h:SW w w1 wr z v ts) (hm:Mod (fun q=>q=w.heap.size+1) wr w') (hc:w'.heap[w.heap.size+1]?=some (.cells #[.int .i64 (hiW z'),.int .u64 (loW z')] 48 (0,0))):SW w w1 w' z' v ts:=
 ⟨(hm.block _ (ltB h.res) (fun q=>by omega)).trans h.res,hc,h.row.tr hm (fun k hk q=>by have:=h.size; omega),h.mod.trans hm (fun q e hl=>by omega),h.size,Nat.le_trans h.size2 hm.size⟩
theorem SW.put {w w1 wr w':World} {z:Int} {v v':Value} {ts ts':Tl} (h:SW w w1 wr z v ts) (ho:OutAt wr w' v' ts') (hm:Mod N0 wr w'):SW w w1 w' z v' ts':=
 ⟨(hm.block _ (ltB h.res) (fun q=>q)).trans h.res,(hm.block _ (ltB h.coin) (fun q=>q)).trans h.coin,ho.lift (by have:=h.size; have:=h.size2; omega),h.mod.tr hm,h.size,Nat.le_trans h.size2 hm.size⟩
set_option maxRecDepth 100000 in
set_option maxHeartbeats 1000000 in
theorem refSums_calls (w:World) (v:Value) (vs:List Val) (h:ValsAt w v vs) (hn:(vAssets vs).length<=900000) (hvl:vs.length<=1000000):Calls Tryz.prog 32 #[v] w fun e w'=>∃ v',e=.returned (.tuple #[wideV (coins vs),v'])/\OutAt w w' v' ((putAll (vAssets vs)).filter (nzW ·.2))/\Mod N0 w w':=by
 obtain ⟨a,c,rfl,hel⟩:=h
 have HE:=hh hel
 have HN0:=hh hn
 clear hel hn
 obtain ⟨w1,hw1⟩:∃ w1,(w.alloc (.cells #[.int .i64 0,.int .u64 0] 48)).alloc (.cells #[.int .i64 0,.int .u64 0] 48)=w1:=⟨_,rfl⟩
 have HI:=hh (show SW w w1 w1 0 (.slice none 0 0) [] from by
  have hA:w1.heap[w.heap.size]?=some (.cells #[.int .i64 0,.int .u64 0] 48 (0,0)):=by rw [← hw1]; exact allocB (newB w _) _
  have hB:w1.heap[w.heap.size+1]?=some (.cells #[.int .i64 0,.int .u64 0] 48 (0,0)):=by
   rw [← hw1]; have:=newB (w.alloc (.cells #[.int .i64 0,.int .u64 0] 48)) (.cells #[.int .i64 0,.int .u64 0] 48); rwa [World.size_alloc] at this
  have hM:Mod N0 w w1:=by rw [← hw1]; exact ((Mod.refl _ w).alloc _).alloc _
  have hs:w1.heap.size=w.heap.size+2:=by rw [← hw1]; simp
  exact ⟨by simpa [hiW,loW,wrap64] using hA,by simpa [hiW,loW,wrap64] using hB,OutAt.nil w1 w1,hM,hs,by omega⟩)
 go_enter Tryz.func32,Tryz.ntmps32
 go_wp2_with fail
 go_loopw [5,6] (fun v5 i wr=>∃ (k:Nat) (v':Value) (ts:Tl),k<=vs.length/\v'=v5/\i=.int .i64 k/\putAll (vAssets (vs.take k))=ts/\SW w w1 wr (coins (vs.take k)) v' ts) (fun _ i _=>vs.length - (intOf i).toNat)
 case atStart=>exact ⟨0,_,[],by omega,rfl,rfl,rfl,HI.out⟩
 case round=>
  obtain ⟨k,v5,ts,hk,rfl,rfl,hts,hsw⟩:=hrel
  have HSW:=hh hsw
  have HTS:=hh hts
  clear hsw hts
  by_cases hlt:k<vs.length
  ·obtain ⟨x,hx⟩:∃ x,vs[k]?=some x:=⟨_,List.getElem?_eq_getElem hlt⟩
   obtain ⟨hco,L,off,av,rfl,hL,hc0,hc1,hAs⟩:=HE.out k x hx
   obtain ⟨a2,c2,rfl,hl2,hel2⟩:=id hAs
   have HC:=hh (And.intro hL (And.intro hc0 (And.intro hc1 hco)))
   have HE2:=hh hel2
   have HCS:=hh (And.intro (coins_snoc hx) (vAssets_snoc hx))
   have hfl:=Nat.le_trans (vAssets_le vs (k+1)) HN0.out
   rw [vAssets_snoc hx,List.length_append] at hfl
   have HFL:=hh hfl
   clear hc0 hc1 hAs hel2 hx hfl hco
   generalize hS:coins (vs.take k)=S at HSW HCS
   clear hS
   go_upto_region 6 with fail
   refine wp_region_held_drew (S:=fun W=>Mod (fun q=>q=w.heap.size+1) wr W) (by kernel_rfl) (Mod.refl _ wr).drew (fun hH=>?_)
   refine tq (i:=1) (oi:=⟨some 16,.move (.tmp 0),92, "ref.go:152",#[],none⟩) (v:=.slice (some ⟨L,off,none⟩) vs.length c) hH ?_
   refine tq (i:=2) (oi:=⟨some 17,.move (.tmp 6),3, "ref.go:152",#[],none⟩) (v:=.int .i64 k) hH ?_
   refine tq (i:=3) (oi:=⟨some 18,.indexAddr 92 (.tmp 16) (.tmp 17),0, "ref.go:152",#[⟨1,.data⟩,⟨2,.data⟩],none⟩) (v:=.pointer (some ⟨L,off+k * 2,none⟩)) hH ?_
   refine tq (i:=4) (oi:=⟨some 19,.fieldAddr 65 (.tmp 18) 0,0, "ref.go:152",#[⟨3,.data⟩],none⟩) (v:=.pointer (some ⟨L,off+k * 2,none⟩)) hH ?_
   refine tk (i:=5) (oi:=⟨some 20,.load 2 (.tmp 19),2, "ref.go:152",#[⟨4,.data⟩],none⟩) (v:=.int .i64 x.coin) hH ?_ ?_
   ·intro w' hSw
    have s:w'.cell? ⟨L,off+k * 2,none⟩=some (.int .i64 x.coin):=((HSW.out.mod.trans hSw (fun q e hl=>by omega)).cell (p:=⟨L,_,none⟩) HC.out.1 (fun q=>q)).trans HC.out.2.1
    go_simp
    try with_reducible rfl
   refine tr (rs:=[0,6]) ?_
   refine AllReadyH.cons (o:=⟨some 15,.load 48 (.tmp 4),48, "ref.go:152",#[],none⟩) rfl (fun K hK=>?_) (AllReadyH.cons (o:=⟨some 21,.call {callee:=.value (.func 37),args:=#[.tmp 20],argTypes:=#[2]},48, "ref.go:152",#[⟨5,.data⟩],none⟩) rfl (fun K hK=>?_) AllReadyH.nil)
   ·refine step_exec rfl (exec_load_pt _ _ 48 _ rfl ⟨w.heap.size+1,0,none⟩ rfl (load57_box (drewB HSW.out.coin))) ?_
    refine hK.out _ _ ((Mod.refl _ wr).drew) (fun hH=>?_)
    clear hK K
    (try simp only [Act.put,ja,jb,jc])
    refine tr (rs:=[6]) ?_
    refine AllReadyH.cons (o:=⟨some 21,.call {callee:=.value (.func 37),args:=#[.tmp 20],argTypes:=#[2]},48, "ref.go:152",#[⟨5,.data⟩],none⟩) rfl (fun K hK=>?_) AllReadyH.nil
    go_simp
    refine (refWide_calls x.coin HC.out.2.2.2.1 HC.out.2.2.2.2 wr.drew).mono ?_
    rintro e w2 ⟨rfl,hm2⟩
    have HM2:=hh (((Mod.refl N0 wr).drew).tr hm2)
    clear hm2
    refine hK.out _ _ (HM2.out.any) (fun hH=>?_)
    clear hK K
    (try simp only [Act.put,ja,jb,jc])
    refine tr (rs:=[7]) ?_
    refine AllReadyH.cons (o:=⟨some 22,.buildSlice 97 2 #[(0,.tmp 15),(1,.tmp 21)],97, "ref.go:152",#[⟨0,.data⟩,⟨6,.data⟩],none⟩) rfl (fun K hK=>?_) AllReadyH.nil
    refine step_execW rfl (exec_wides2 _ _ rfl S x.coin rfl rfl) ?_
    have hW:=wides_two w2 S x.coin
    have hm3:=(Mod.refl N0 w2).alloc (.cells #[.int .i64 (hiW S),.int .u64 (loW S),.int .i64 (hiW x.coin),.int .u64 (loW x.coin)] 48)
    generalize w2.alloc (.cells #[.int .i64 (hiW S),.int .u64 (loW S),.int .i64 (hiW x.coin),.int .u64 (loW x.coin)] 48)=w3 at hW hm3 ⊢
    generalize w2.heap.size=g2 at hW ⊢
    have HC3:=hh (refPlus2 w3 _ _ _ hW)
    have HM3:=hh (HM2.out.tr hm3)
    clear hW hm3
    refine hK.out _ _ (HM3.out.any) (fun hH=>?_)
    clear hK K
    (try simp only [Act.put,ja,jb,jc])
    refine tr (rs:=[8]) ?_
    refine AllReadyH.cons (o:=⟨some 23,.call {callee:=.value (.func 36),args:=#[.tmp 22],argTypes:=#[97]},48, "ref.go:152",#[⟨7,.data⟩,⟨6,.chain⟩],none⟩) rfl (fun K hK=>?_) AllReadyH.nil
    go_simp
    refine HC3.out.mono ?_
    rintro e w4 ⟨rfl,hm4⟩
    have HM4:=hh (HM3.out.tr hm4)
    clear hm4 HC3
    refine hK.out _ _ (HM4.out.any) (fun hH=>?_)
    clear hK K
    (try simp only [Act.put,ja,jb,jc])
    have hs4:=HSW.out.tr HM4.out
    have hst:=store57 w4 (w.heap.size+1) (S+x.coin) hs4.coin
    have hC7:=setRow_same (cs:=#[.int .i64 (hiW (S+x.coin)),.int .u64 (loW (S+x.coin))]) hs4.coin
    have hm7:=Mod_setRow (Mod.refl (fun q=>q=w.heap.size+1) w4) (b:=w.heap.size+1) (fun _=>rfl) #[.int .i64 (hiW (S+x.coin)),.int .u64 (loW (S+x.coin))]
    have hst':(storeVar 48 ⟨w.heap.size+1,0,none⟩ (wideV (S+x.coin))).run Tryz.prog w4=.ok () (w4.setRow (w.heap.size+1) #[.int .i64 (hiW (S+x.coin)),.int .u64 (loW (S+x.coin))]):=hst
    generalize w4.setRow (w.heap.size+1) #[.int .i64 (hiW (S+x.coin)),.int .u64 (loW (S+x.coin))]=w7 at hst' hC7 hm7
    refine tr (rs:=[9]) ?_
    refine AllReadyH.cons (o:=⟨none,.store 48 (.tmp 4) (.tmp 23),0, "ref.go:152",#[⟨8,.data⟩,⟨8,.chain⟩,⟨0,.phase⟩,⟨1,.phase⟩,⟨2,.phase⟩,⟨3,.phase⟩,⟨4,.phase⟩,⟨5,.phase⟩,⟨6,.phase⟩,⟨7,.phase⟩,⟨8,.phase⟩],none⟩) rfl (fun K hK=>?_) AllReadyH.nil
    refine step_execS rfl (exec_store_pt _ _ rfl rfl rfl hst') ?_
    have HS7:=hh (hs4.set hm7 hC7)
    have HM7:=hh ((HM4.out.any (S:=fun q=>q=w.heap.size+1)).tr hm7)
    clear hst hst' hC7 hm7 hs4
    refine hK.out _ _ HM7.out (fun hH=>?_)
    clear hK K
    (try simp only [Act.put])
    refine wpAnyH_done (by kernel_rfl) ?_ _
    go_wp2_with fail
    go_loopw [5,7] (fun v5 j wi=>∃ (m:Nat) (v':Value) (us:Tl),m<=x.assets.length/\v'=v5/\j=.int .i64 m/\putAll (vAssets (vs.take k) ++ x.assets.take m)=us/\SW w w1 wi (S+x.coin) v' us) (fun _ j _=>x.assets.length - (intOf j).toNat)
    case atStart=>exact ⟨0,_,_,by omega,rfl,rfl,by rw [List.take_zero,List.append_nil],by rw [HTS.out]; exact HS7.out⟩
    case round=>
     obtain ⟨m,v4,us,hm2,rfl,rfl,hus,hsi⟩:=hrel
     have HSI:=hh hsi
     have HUS:=hh hus
     have HUL:=hh (show us.length<=900000 by have h1:=putAll_le (vAssets (vs.take k) ++ x.assets.take m); rw [hus,List.length_append] at h1; have:=HFL.out; simp at h1 this; omega)
     clear hsi hus
     have s0:=(HSI.out.mod.cell (p:=⟨L,_,none⟩) HC.out.1 (fun q=>q)).trans HC.out.2.2.1
     by_cases hlt2:m<x.assets.length
     ·obtain ⟨y,hy⟩:∃ y,x.assets[m]?=some y:=⟨_,List.getElem?_eq_getElem hlt2⟩
      obtain ⟨hz,L2,off2,rfl,hL2,hcs⟩:=HE2.out m y hy
      have hl97:(loadVar 76 ⟨L2,off2+m * 34,none⟩).run Tryz.prog wr=.ok (.agg (asCells y.1 y.2).toArray) wr:=
       run_loadVar_mid wr L2 (off2+m * 34) 76 (asCells y.1 y.2) _ (fun q u hu=>(HSI.out.mod.cell (p:=⟨L2,_,none⟩) hL2 (fun q=>q)).trans (hcs q u hu)) Tryz.underlying76 rfl (by rw [size97,asCells_length])
      have hZ:=newB wr (.cells zero97 76)
      have hst:(storeVar 76 ⟨wr.heap.size,0,none⟩ (.agg (asCells y.1 y.2).toArray)).run Tryz.prog (wr.alloc (.cells zero97 76))=.ok () ((wr.alloc (.cells zero97 76)).setRow wr.heap.size (asCells y.1 y.2).toArray):=
       run_storeVar_row (P:=Tryz.prog) _ wr.heap.size 76 76 zero97 (asCells y.1 y.2).toArray hZ (by rw [size97]; simp [asCells_length]) (by simp [zero97,asCells_length]) (asCells_one y.1 y.2)
      have hR:=setRow_same (cs:=(asCells y.1 y.2).toArray) hZ
      have hmr:Mod N0 wr ((wr.alloc (.cells zero97 76)).setRow wr.heap.size (asCells y.1 y.2).toArray):=Mod_setRow ((Mod.refl _ wr).alloc (.cells zero97 76)) (b:=wr.heap.size) (fun q=>by omega) _
      generalize (wr.alloc (.cells zero97 76)).setRow wr.heap.size (asCells y.1 y.2).toArray=wb at hst hR hmr
      have HLD:=hh hl97
      have HST:=hh hst
      have HY:=hh (And.intro hy hz)
      have HSB:=hh (HSI.out.tr hmr)
      have HR:=hh hR
      clear hl97 hst hy hz hR hmr hcs hZ HSI
      go_upto_region 10 with fail
      refine wp_region_lit ?_
      refine ex (v:=.slice (some ⟨L,off,none⟩) vs.length c) ?_
      refine ex (v:=.int .i64 k) ?_
      refine ex (v:=.pointer (some ⟨L,off+k * 2,none⟩)) ?_
      refine ex (v:=.pointer (some ⟨L,off+k * 2+1,none⟩)) ?_
      refine ex (v:=.slice (some ⟨L2,off2,none⟩) x.assets.length c2) ?_
      refine ex (v:=.int .i64 m) ?_
      refine ex (v:=.pointer (some ⟨L2,off2+m * 34,none⟩)) ?_
      refine wx (exec_load_pt _ _ 76 _ rfl ⟨L2,off2+m * 34,none⟩ rfl HLD.out) ?_
      refine ww (exec_alloc _ _ 76 zero97 rfl zv97) ?_
      refine wpList_execS rfl (exec_store _ _ rfl rfl rfl HST.out) ?_
      (try simp only [Act.put])
      generalize wr.heap.size=g8 at HR ⊢
      clear s0
      go_upto_region 11 with fail
      refine wp_region_held_drew (S:=fun W=>Mod N0 wb W) (by kernel_rfl) (Mod.refl _ wb).drew (fun hH=>?_)
      refine tq (i:=0) (oi:=⟨some 42,.move (.tmp 5),33, "ref.go:155",#[],none⟩) (v:=v4) hH ?_
      refine tq (i:=1) (oi:=⟨some 43,.fieldAddr 76 (.tmp 8) 0,0, "ref.go:155",#[],none⟩) (v:=.pointer (some ⟨g8,0,none⟩)) hH ?_
      refine tk (i:=2) (oi:=⟨some 44,.load 27 (.tmp 43),27, "ref.go:155",#[⟨1,.data⟩],none⟩) (v:=.agg (y.1.policy.map by8).toArray) hH (fun w' hSw=>by exact exec_load_pt _ _ 27 _ rfl ⟨g8,0,none⟩ rfl (as_loads ((hSw.block _ (ltB HR.out) (fun q=>q)).trans HR.out)).1) ?_
      refine tq (i:=3) (oi:=⟨some 45,.fieldAddr 76 (.tmp 8) 1,0, "ref.go:155",#[],none⟩) (v:=.pointer (some ⟨g8,32,none⟩)) hH ?_
      refine tk (i:=4) (oi:=⟨some 46,.load 9 (.tmp 45),9, "ref.go:155",#[⟨3,.data⟩],none⟩) (v:=.string ⟨y.1.name.toArray⟩) hH (fun w' hSw=>by exact exec_load_pt _ _ 9 _ rfl ⟨g8,32,none⟩ rfl (as_loads ((hSw.block _ (ltB HR.out) (fun q=>q)).trans HR.out)).2.1) ?_
      refine tq (i:=5) (oi:=⟨some 47,.fieldAddr 76 (.tmp 8) 2,0, "ref.go:155",#[],none⟩) (v:=.pointer (some ⟨g8,33,none⟩)) hH ?_
      refine tk (i:=6) (oi:=⟨some 48,.load 2 (.tmp 47),2, "ref.go:155",#[⟨5,.data⟩],none⟩) (v:=.int .i64 y.2) hH ?_ ?_
      ·intro w' hSw
       have s:=(as_loads ((hSw.block _ (ltB HR.out) (fun q=>q)).trans HR.out)).2.2
       go_simp
       try with_reducible rfl
      refine tr (rs:=[7]) ?_
      refine AllReadyH.cons (o:=⟨some 49,.call {callee:=.value (.func 37),args:=#[.tmp 48],argTypes:=#[2]},48, "ref.go:155",#[⟨6,.data⟩],none⟩) rfl (fun K hK=>?_) AllReadyH.nil
      go_simp
      refine (refWide_calls y.2 HY.out.2.1 HY.out.2.2 wb.drew).mono ?_
      rintro e w2' ⟨rfl,hm2'⟩
      have HM2':=hh (((Mod.refl N0 wb).drew).tr hm2')
      clear hm2'
      refine hK.out _ _ HM2'.out (fun hH=>?_)
      clear hK K
      (try simp only [Act.put,ja,jb,jc])
      refine tk (i:=8) (oi:=⟨some 50,.build 78 #[(0,.tmp 44),(1,.tmp 46),(2,.tmp 49)],78, "ref.go:155",#[⟨2,.data⟩,⟨4,.data⟩,⟨7,.data⟩],none⟩) (v:=.agg (totCells y).toArray) hH (fun w' hSw=>by exact exec_build88 _ _ rfl y rfl rfl rfl) ?_
      refine tr (rs:=[9]) ?_
      refine AllReadyH.cons (o:=⟨some 51,.call {callee:=.value (.func 58),args:=#[.tmp 42,.tmp 50],argTypes:=#[33,78]},33, "ref.go:155",#[⟨0,.data⟩,⟨8,.data⟩,⟨7,.chain⟩],none⟩) rfl (fun K hK=>?_) AllReadyH.nil
      go_simp
      have hs2:=HSB.out.tr HM2'.out
      refine (put_calls w2' v4 us y (tots_at hs2.row.1 (by have:=HUL.out; omega)) HUL.out).mono ?_
      rintro e w5 ⟨v5',rfl,ho5,hm5⟩
      have HF:=hh (hs2.put ho5 hm5)
      have HMF:=hh (HM2'.out.tr hm5)
      clear ho5 hm5 hs2
      refine hK.out _ _ HMF.out (fun hH=>?_)
      clear hK K
      (try simp only [Act.put,ja,jb,jc])
      refine tq (i:=10) (oi:=⟨some 5,.assign (.tmp 51),33, "ref.go:155",#[⟨9,.data⟩,⟨9,.chain⟩,⟨0,.phase⟩,⟨1,.phase⟩,⟨2,.phase⟩,⟨3,.phase⟩,⟨4,.phase⟩,⟨5,.phase⟩,⟨6,.phase⟩,⟨7,.phase⟩,⟨8,.phase⟩,⟨9,.phase⟩],none⟩) (v:=v5') hH ?_
      refine wpAnyH_done (by kernel_rfl) ?_ _
      go_wp2_with fail
      go_roundw
      case rel=>exact ⟨m+1,_,_,by omega,rfl,by simp,by rw [List.take_add_one,HY.out.1,← List.append_assoc]; simp only [Option.toList]; rw [putAll_snoc,HUS.out],HF.out⟩
      case measure=>simp [intOf]; omega
     ·have e:m=x.assets.length:=by omega
      subst e
      have h1:=HUS.out
      rw [List.take_length] at h1
      have HU1:=hh h1
      clear h1
      go_wp2_with fail
      exact ⟨⟨k+1,_,_,by omega,rfl,by simp,by rw [HCS.out.2,HU1.out],by rw [HCS.out.1]; exact HSI.out⟩,by simp [intOf]; omega⟩
   ·go_simp
    refine (refWide_calls x.coin HC.out.2.2.2.1 HC.out.2.2.2.2 wr.drew).mono ?_
    rintro e w2 ⟨rfl,hm2⟩
    have HM2:=hh (((Mod.refl N0 wr).drew).tr hm2)
    clear hm2
    refine hK.out _ _ (HM2.out.any) (fun hH=>?_)
    clear hK K
    (try simp only [Act.put,ja,jb,jc])
    refine tr (rs:=[0]) ?_
    refine AllReadyH.cons (o:=⟨some 15,.load 48 (.tmp 4),48, "ref.go:152",#[],none⟩) rfl (fun K hK=>?_) AllReadyH.nil
    refine step_exec rfl (exec_load_pt _ _ 48 _ rfl ⟨w.heap.size+1,0,none⟩ rfl (load57_box ((HSW.out.tr HM2.out).coin))) ?_
    refine hK.out _ _ (HM2.out.any) (fun hH=>?_)
    clear hK K
    (try simp only [Act.put,ja,jb,jc])
    refine tr (rs:=[7]) ?_
    refine AllReadyH.cons (o:=⟨some 22,.buildSlice 97 2 #[(0,.tmp 15),(1,.tmp 21)],97, "ref.go:152",#[⟨0,.data⟩,⟨6,.data⟩],none⟩) rfl (fun K hK=>?_) AllReadyH.nil
    refine step_execW rfl (exec_wides2 _ _ rfl S x.coin rfl rfl) ?_
    have hW:=wides_two w2 S x.coin
    have hm3:=(Mod.refl N0 w2).alloc (.cells #[.int .i64 (hiW S),.int .u64 (loW S),.int .i64 (hiW x.coin),.int .u64 (loW x.coin)] 48)
    generalize w2.alloc (.cells #[.int .i64 (hiW S),.int .u64 (loW S),.int .i64 (hiW x.coin),.int .u64 (loW x.coin)] 48)=w3 at hW hm3 ⊢
    generalize w2.heap.size=g2 at hW ⊢
    have HC3:=hh (refPlus2 w3 _ _ _ hW)
    have HM3:=hh (HM2.out.tr hm3)
    clear hW hm3
    refine hK.out _ _ (HM3.out.any) (fun hH=>?_)
    clear hK K
    (try simp only [Act.put,ja,jb,jc])
    refine tr (rs:=[8]) ?_
    refine AllReadyH.cons (o:=⟨some 23,.call {callee:=.value (.func 36),args:=#[.tmp 22],argTypes:=#[97]},48, "ref.go:152",#[⟨7,.data⟩,⟨6,.chain⟩],none⟩) rfl (fun K hK=>?_) AllReadyH.nil
    go_simp
    refine HC3.out.mono ?_
    rintro e w4 ⟨rfl,hm4⟩
    have HM4:=hh (HM3.out.tr hm4)
    clear hm4 HC3
    refine hK.out _ _ (HM4.out.any) (fun hH=>?_)
    clear hK K
    (try simp only [Act.put,ja,jb,jc])
    have hs4:=HSW.out.tr HM4.out
    have hst:=store57 w4 (w.heap.size+1) (S+x.coin) hs4.coin
    have hC7:=setRow_same (cs:=#[.int .i64 (hiW (S+x.coin)),.int .u64 (loW (S+x.coin))]) hs4.coin
    have hm7:=Mod_setRow (Mod.refl (fun q=>q=w.heap.size+1) w4) (b:=w.heap.size+1) (fun _=>rfl) #[.int .i64 (hiW (S+x.coin)),.int .u64 (loW (S+x.coin))]
    have hst':(storeVar 48 ⟨w.heap.size+1,0,none⟩ (wideV (S+x.coin))).run Tryz.prog w4=.ok () (w4.setRow (w.heap.size+1) #[.int .i64 (hiW (S+x.coin)),.int .u64 (loW (S+x.coin))]):=hst
    generalize w4.setRow (w.heap.size+1) #[.int .i64 (hiW (S+x.coin)),.int .u64 (loW (S+x.coin))]=w7 at hst' hC7 hm7
    refine tr (rs:=[9]) ?_
    refine AllReadyH.cons (o:=⟨none,.store 48 (.tmp 4) (.tmp 23),0, "ref.go:152",#[⟨8,.data⟩,⟨8,.chain⟩,⟨0,.phase⟩,⟨1,.phase⟩,⟨2,.phase⟩,⟨3,.phase⟩,⟨4,.phase⟩,⟨5,.phase⟩,⟨6,.phase⟩,⟨7,.phase⟩,⟨8,.phase⟩],none⟩) rfl (fun K hK=>?_) AllReadyH.nil
    refine step_execS rfl (exec_store_pt _ _ rfl rfl rfl hst') ?_
    have HS7:=hh (hs4.set hm7 hC7)
    have HM7:=hh ((HM4.out.any (S:=fun q=>q=w.heap.size+1)).tr hm7)
    clear hst hst' hC7 hm7 hs4
    refine hK.out _ _ HM7.out (fun hH=>?_)
    clear hK K
    (try simp only [Act.put])
    refine wpAnyH_done (by kernel_rfl) ?_ _
    go_wp2_with fail
    go_loopw [5,7] (fun v5 j wi=>∃ (m:Nat) (v':Value) (us:Tl),m<=x.assets.length/\v'=v5/\j=.int .i64 m/\putAll (vAssets (vs.take k) ++ x.assets.take m)=us/\SW w w1 wi (S+x.coin) v' us) (fun _ j _=>x.assets.length - (intOf j).toNat)
    case atStart=>exact ⟨0,_,_,by omega,rfl,rfl,by rw [List.take_zero,List.append_nil],by rw [HTS.out]; exact HS7.out⟩
    case round=>
     obtain ⟨m,v4,us,hm2,rfl,rfl,hus,hsi⟩:=hrel
     have HSI:=hh hsi
     have HUS:=hh hus
     have HUL:=hh (show us.length<=900000 by have h1:=putAll_le (vAssets (vs.take k) ++ x.assets.take m); rw [hus,List.length_append] at h1; have:=HFL.out; simp at h1 this; omega)
     clear hsi hus
     have s0:=(HSI.out.mod.cell (p:=⟨L,_,none⟩) HC.out.1 (fun q=>q)).trans HC.out.2.2.1
     by_cases hlt2:m<x.assets.length
     ·obtain ⟨y,hy⟩:∃ y,x.assets[m]?=some y:=⟨_,List.getElem?_eq_getElem hlt2⟩
      obtain ⟨hz,L2,off2,rfl,hL2,hcs⟩:=HE2.out m y hy
      have hl97:(loadVar 76 ⟨L2,off2+m * 34,none⟩).run Tryz.prog wr=.ok (.agg (asCells y.1 y.2).toArray) wr:=
       run_loadVar_mid wr L2 (off2+m * 34) 76 (asCells y.1 y.2) _ (fun q u hu=>(HSI.out.mod.cell (p:=⟨L2,_,none⟩) hL2 (fun q=>q)).trans (hcs q u hu)) Tryz.underlying76 rfl (by rw [size97,asCells_length])
      have hZ:=newB wr (.cells zero97 76)
      have hst:(storeVar 76 ⟨wr.heap.size,0,none⟩ (.agg (asCells y.1 y.2).toArray)).run Tryz.prog (wr.alloc (.cells zero97 76))=.ok () ((wr.alloc (.cells zero97 76)).setRow wr.heap.size (asCells y.1 y.2).toArray):=
       run_storeVar_row (P:=Tryz.prog) _ wr.heap.size 76 76 zero97 (asCells y.1 y.2).toArray hZ (by rw [size97]; simp [asCells_length]) (by simp [zero97,asCells_length]) (asCells_one y.1 y.2)
      have hR:=setRow_same (cs:=(asCells y.1 y.2).toArray) hZ
      have hmr:Mod N0 wr ((wr.alloc (.cells zero97 76)).setRow wr.heap.size (asCells y.1 y.2).toArray):=Mod_setRow ((Mod.refl _ wr).alloc (.cells zero97 76)) (b:=wr.heap.size) (fun q=>by omega) _
      generalize (wr.alloc (.cells zero97 76)).setRow wr.heap.size (asCells y.1 y.2).toArray=wb at hst hR hmr
      have HLD:=hh hl97
      have HST:=hh hst
      have HY:=hh (And.intro hy hz)
      have HSB:=hh (HSI.out.tr hmr)
      have HR:=hh hR
      clear hl97 hst hy hz hR hmr hcs hZ HSI
      go_upto_region 10 with fail
      refine wp_region_lit ?_
      refine ex (v:=.slice (some ⟨L,off,none⟩) vs.length c) ?_
      refine ex (v:=.int .i64 k) ?_
      refine ex (v:=.pointer (some ⟨L,off+k * 2,none⟩)) ?_
      refine ex (v:=.pointer (some ⟨L,off+k * 2+1,none⟩)) ?_
      refine ex (v:=.slice (some ⟨L2,off2,none⟩) x.assets.length c2) ?_
      refine ex (v:=.int .i64 m) ?_
      refine ex (v:=.pointer (some ⟨L2,off2+m * 34,none⟩)) ?_
      refine wx (exec_load_pt _ _ 76 _ rfl ⟨L2,off2+m * 34,none⟩ rfl HLD.out) ?_
      refine ww (exec_alloc _ _ 76 zero97 rfl zv97) ?_
      refine wpList_execS rfl (exec_store _ _ rfl rfl rfl HST.out) ?_
      (try simp only [Act.put])
      generalize wr.heap.size=g8 at HR ⊢
      clear s0
      go_upto_region 11 with fail
      refine wp_region_held_drew (S:=fun W=>Mod N0 wb W) (by kernel_rfl) (Mod.refl _ wb).drew (fun hH=>?_)
      refine tq (i:=0) (oi:=⟨some 42,.move (.tmp 5),33, "ref.go:155",#[],none⟩) (v:=v4) hH ?_
      refine tq (i:=1) (oi:=⟨some 43,.fieldAddr 76 (.tmp 8) 0,0, "ref.go:155",#[],none⟩) (v:=.pointer (some ⟨g8,0,none⟩)) hH ?_
      refine tk (i:=2) (oi:=⟨some 44,.load 27 (.tmp 43),27, "ref.go:155",#[⟨1,.data⟩],none⟩) (v:=.agg (y.1.policy.map by8).toArray) hH (fun w' hSw=>by exact exec_load_pt _ _ 27 _ rfl ⟨g8,0,none⟩ rfl (as_loads ((hSw.block _ (ltB HR.out) (fun q=>q)).trans HR.out)).1) ?_
      refine tq (i:=3) (oi:=⟨some 45,.fieldAddr 76 (.tmp 8) 1,0, "ref.go:155",#[],none⟩) (v:=.pointer (some ⟨g8,32,none⟩)) hH ?_
      refine tk (i:=4) (oi:=⟨some 46,.load 9 (.tmp 45),9, "ref.go:155",#[⟨3,.data⟩],none⟩) (v:=.string ⟨y.1.name.toArray⟩) hH (fun w' hSw=>by exact exec_load_pt _ _ 9 _ rfl ⟨g8,32,none⟩ rfl (as_loads ((hSw.block _ (ltB HR.out) (fun q=>q)).trans HR.out)).2.1) ?_
      refine tq (i:=5) (oi:=⟨some 47,.fieldAddr 76 (.tmp 8) 2,0, "ref.go:155",#[],none⟩) (v:=.pointer (some ⟨g8,33,none⟩)) hH ?_
      refine tk (i:=6) (oi:=⟨some 48,.load 2 (.tmp 47),2, "ref.go:155",#[⟨5,.data⟩],none⟩) (v:=.int .i64 y.2) hH ?_ ?_
      ·intro w' hSw
       have s:=(as_loads ((hSw.block _ (ltB HR.out) (fun q=>q)).trans HR.out)).2.2
       go_simp
       try with_reducible rfl
      refine tr (rs:=[7]) ?_
      refine AllReadyH.cons (o:=⟨some 49,.call {callee:=.value (.func 37),args:=#[.tmp 48],argTypes:=#[2]},48, "ref.go:155",#[⟨6,.data⟩],none⟩) rfl (fun K hK=>?_) AllReadyH.nil
      go_simp
      refine (refWide_calls y.2 HY.out.2.1 HY.out.2.2 wb.drew).mono ?_
      rintro e w2' ⟨rfl,hm2'⟩
      have HM2':=hh (((Mod.refl N0 wb).drew).tr hm2')
      clear hm2'
      refine hK.out _ _ HM2'.out (fun hH=>?_)
      clear hK K
      (try simp only [Act.put,ja,jb,jc])
      refine tk (i:=8) (oi:=⟨some 50,.build 78 #[(0,.tmp 44),(1,.tmp 46),(2,.tmp 49)],78, "ref.go:155",#[⟨2,.data⟩,⟨4,.data⟩,⟨7,.data⟩],none⟩) (v:=.agg (totCells y).toArray) hH (fun w' hSw=>by exact exec_build88 _ _ rfl y rfl rfl rfl) ?_
      refine tr (rs:=[9]) ?_
      refine AllReadyH.cons (o:=⟨some 51,.call {callee:=.value (.func 58),args:=#[.tmp 42,.tmp 50],argTypes:=#[33,78]},33, "ref.go:155",#[⟨0,.data⟩,⟨8,.data⟩,⟨7,.chain⟩],none⟩) rfl (fun K hK=>?_) AllReadyH.nil
      go_simp
      have hs2:=HSB.out.tr HM2'.out
      refine (put_calls w2' v4 us y (tots_at hs2.row.1 (by have:=HUL.out; omega)) HUL.out).mono ?_
      rintro e w5 ⟨v5',rfl,ho5,hm5⟩
      have HF:=hh (hs2.put ho5 hm5)
      have HMF:=hh (HM2'.out.tr hm5)
      clear ho5 hm5 hs2
      refine hK.out _ _ HMF.out (fun hH=>?_)
      clear hK K
      (try simp only [Act.put,ja,jb,jc])
      refine tq (i:=10) (oi:=⟨some 5,.assign (.tmp 51),33, "ref.go:155",#[⟨9,.data⟩,⟨9,.chain⟩,⟨0,.phase⟩,⟨1,.phase⟩,⟨2,.phase⟩,⟨3,.phase⟩,⟨4,.phase⟩,⟨5,.phase⟩,⟨6,.phase⟩,⟨7,.phase⟩,⟨8,.phase⟩,⟨9,.phase⟩],none⟩) (v:=v5') hH ?_
      refine wpAnyH_done (by kernel_rfl) ?_ _
      go_wp2_with fail
      go_roundw
      case rel=>exact ⟨m+1,_,_,by omega,rfl,by simp,by rw [List.take_add_one,HY.out.1,← List.append_assoc]; simp only [Option.toList]; rw [putAll_snoc,HUS.out],HF.out⟩
      case measure=>simp [intOf]; omega
     ·have e:m=x.assets.length:=by omega
      subst e
      have h1:=HUS.out
      rw [List.take_length] at h1
      have HU1:=hh h1
      clear h1
      go_wp2_with fail
      exact ⟨⟨k+1,_,_,by omega,rfl,by simp,by rw [HCS.out.2,HU1.out],by rw [HCS.out.1]; exact HSI.out⟩,by simp [intOf]; omega⟩
  ·have e:k=vs.length:=by omega
   subst e
   have h1:=HTS.out
   rw [List.take_length] at h1
   have h2:=putAll_le (vAssets vs)
   rw [h1] at h2
   rw [List.take_length] at HSW
   have HT1:=hh h1
   have HTL:=hh h2
   generalize hS:coins vs=S at HSW
   have HSE:=hh hS
   clear h1 h2 hS
   go_upto_region 12 with fail
   refine wp_region_held_drew (S:=fun W=>Mod (fun q=>q=w.heap.size) wr W) (by kernel_rfl) (Mod.refl _ wr).drew (fun hH=>?_)
   refine tk (i:=0) (oi:=⟨some 52,.load 48 (.tmp 4),48, "ref.go:158",#[],none⟩) (v:=wideV S) hH (fun w' hSw=>by exact exec_load_pt _ _ 48 _ rfl ⟨w.heap.size+1,0,none⟩ rfl (load57_box ((hSw.block _ (ltB HSW.out.coin) (fun q=>by omega)).trans HSW.out.coin))) ?_
   refine tq (i:=1) (oi:=⟨some 53,.move (.tmp 5),33, "ref.go:158",#[],none⟩) (v:=v5) hH ?_
   refine tr (rs:=[2]) ?_
   refine AllReadyH.cons (o:=⟨some 54,.call {callee:=.value (.func 59),args:=#[.tmp 53],argTypes:=#[33]},33, "ref.go:158",#[⟨1,.data⟩],none⟩) rfl (fun K hK=>?_) AllReadyH.nil
   go_simp
   have hs2:=HSW.out.tr ((Mod.refl N0 wr).drew)
   refine (some_calls wr.drew v5 ts (tots_at hs2.row.1 (by have:=HTL.out; have:=HN0.out; omega)) (by have:=HTL.out; have:=HN0.out; omega)).mono ?_
   rintro e w5 ⟨v5',rfl,ho5,hm5⟩
   have HF:=hh (hs2.put ho5 hm5)
   have HMF:=hh (((Mod.refl N0 wr).drew).tr hm5)
   clear ho5 hm5 hs2
   refine hK.out _ _ (HMF.out.any) (fun hH=>?_)
   clear hK K
   (try simp only [Act.put,ja,jb,jc])
   have hst:=store57 w5 w.heap.size S HF.out.res
   have hC7:=setRow_same (cs:=#[.int .i64 (hiW S),.int .u64 (loW S)]) HF.out.res
   have hm7:=Mod_setRow (Mod.refl (fun q=>q=w.heap.size) w5) (b:=w.heap.size) (fun _=>rfl) #[.int .i64 (hiW S),.int .u64 (loW S)]
   generalize w5.setRow w.heap.size #[.int .i64 (hiW S),.int .u64 (loW S)]=w7 at hst hC7 hm7
   refine tr (rs:=[3]) ?_
   refine AllReadyH.cons (o:=⟨none,.store 48 (.tmp 2) (.tmp 52),0, "ref.go:158",#[⟨0,.data⟩,⟨2,.chain⟩,⟨0,.phase⟩,⟨1,.textOnly .lateStores⟩,⟨2,.textOnly .lateStoresUnsure⟩],none⟩) rfl (fun K hK=>?_) AllReadyH.nil
   refine step_execS rfl (exec_store_pt _ _ rfl rfl rfl hst) ?_
   have HM7:=hh ((HMF.out.any (S:=fun q=>q=w.heap.size)).tr hm7)
   have HE7:=hh (And.intro hC7 (And.intro (HF.out.mod.trans hm7 (fun q e hl=>by omega)) (show OutAt w w7 v5' (ts.filter (nzW ·.2)) from (HF.out.row.tr hm7 (fun q hq e=>by have:=HF.out.size; omega)).lift (by have:=HF.out.size; omega))))
   clear hst hC7 hm7
   refine hK.out _ _ HM7.out (fun hH=>?_)
   clear hK K
   (try simp only [Act.put])
   refine tq (i:=4) (oi:=⟨some 3,.assign (.tmp 54),33, "ref.go:158",#[⟨2,.data⟩,⟨3,.chain⟩,⟨0,.phase⟩,⟨1,.phase⟩,⟨2,.phase⟩,⟨3,.phase⟩],none⟩) (v:=v5') hH ?_
   refine wpAnyH_done (by kernel_rfl) ?_ _
   go_wp2_with fail
   exact bodyPost_ret (v:=.tuple #[wideV S,v5']) (resR32 rfl rfl HE7.out.1) rfl ⟨_,by rw [HSE.out],by rw [HT1.out]; exact HE7.out.2.2,HE7.out.2.1⟩
end Go.Proofs.YtckcamlicgdklaaGreat
