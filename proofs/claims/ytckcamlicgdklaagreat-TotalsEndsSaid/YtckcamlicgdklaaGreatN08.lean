/- book.totals: its walk. -/
import Derived.Test.YtckcamlicgdklaaGreatN07
import Derived.Deep.Cut
namespace Go.Proofs.YtckcamlicgdklaaGreat
open Go.RowKit Go.Mo Go.Sort
theorem exec_neq57b (act:Act) (o:Oper) {w:World} {x y:Operand} {R:TypeId} (ho:o.op=.binOp .neq 48 x y R) (z:Int) {bv:Bool} (hb:nzW z=bv) (hx:act.eval x=.agg #[.int .i64 (hiW z),.int .u64 (loW z)]) (hy:act.eval y=.agg #[.int .i64 0,.int .u64 0]):(execOp act.eval o).run Tryz.prog w=.ok (.value (.bool bv)) w:=by
 rw [exec_neq57 act o ho z hx hy,hb]
theorem row_cells {w:World} {g:Nat} {cs:List Value} {T:TypeId} (h:w.heap[g]?=some (.cells cs.toArray T (0,0))) (j:Nat) (u:Value) (hj:cs[j]?=some u):w.cell? ((⟨g,0,none⟩:Addr).add j)=some u:=by
 have e:(⟨g,0,none⟩:Addr).add j=⟨g,j,none⟩:=by unfold Addr.add; split <;> simp_all
 rw [e,cellB h,List.getElem?_toArray]
 exact hj
theorem setRow_other {w:World} {b k:Nat} (h:k≠b) (cs:Array Value):(w.setRow b cs).heap[k]?=w.heap[k]?:=by
 simp only [World.setRow,Array.getElem?_modify]; rw [if_neg (fun e=>h e.symm)]
theorem nm_policy {w:World} {g:Nat} {k:Nm} (h:w.heap[g]?=some (.cells (nmCells k).toArray 171 (0,0))):(loadVar 27 ⟨g,0,none⟩).run Tryz.prog w=.ok (.agg (k.policy.map by8).toArray) w:=
 run_loadVar_mid w g 0 27 (k.policy.map by8) _ (fun j v hv=>by
   rw [Nat.zero_add,cellB h]
   have hj:j<(k.policy.map by8).length:=(List.getElem?_eq_some_iff.1 hv).1
   simp only [nmCells,List.getElem?_toArray]
   rw [List.getElem?_append_left hj]; exact hv) Tryz.underlying27 rfl (by rw [size27]; simp [k.len])
theorem newA {w:World} {k:Nat} {o:Obj} (h:w.heap[k]?=some o) (o':Obj):(w.alloc o').heap[k]?=some o:=allocB h o'
def srtT (d:List (Nm×Int)):Prop:=d.Pairwise (fun x y=>¬ ordN y.1 x.1<0)
def TotsPost (w:World) (l:List (Nm×Int)) (e:Ending) (w':World):Prop:=
 ∃ v d,e=.returned v/\d.Perm (l.filter (nzW ·.2))/\srtT d/\w'.ownsRow 0 78 35 v d.length (totsCells d)/\(∀ k,v.ownBlock=some k->w.heap.size<k)/\Mod N0 w w'
set_option maxRecDepth 100000 in
set_option maxHeartbeats 4000000 in
theorem totals_calls (w:World) (b:Nat) (l:List (Nm×Int)) (h:w.heap[b]?=some (nmap (wv l))) (hn:l.length<=1000000)
  (hsort:∀ (v:Value) (d:List (Nm×Int)) (wr:World),OutAt w wr v d->d.length<=1000000->Mod N0 w wr->Calls Tryz.prog 116 #[v,.func (.func 117) #[] #[]] wr fun e w'=>e=ret0/\∃ d',d'.Perm d/\srtT d'/\OutAt w w' v d'/\Mod N0 w w') :
  Calls Tryz.prog 65 #[.map (some b)] w fun e w'=>TotsPost w l e w':=by
 have hbw:=ltB h
 have hwl:(wv l).length=l.length:=by simp [wv]
 have hrg:=run_rangeN (T:=168) (E:=48) Tryz.underlying168 h
 rw [hwl] at hrg
 have hit0:=newB w (iterN b l.length [])
 have hm0:Mod N0 w (w.alloc (iterN b l.length [])):=(Mod.refl _ w).alloc _
 have HW:=hh h
 have HI:=hh (And.intro hit0 hm0)
 have HL:=hh hwl
 have HS:=hh hsort
 clear h hit0 hm0 hwl hsort
 go_enter Tryz.func65,Tryz.ntmps65
 go_wp2_with fail
 go_loopw [3] (fun v wr=>∃ (v':Value) (seen:List Nat),v'=v/\seen.Nodup/\(∀ i∈seen,i<l.length)/\OutAt w wr v (sel l seen)/\wr.heap[w.heap.size]?=some (iterN b l.length seen)/\Mod N0 w wr) (fun _ wr=>l.length - shownN wr w.heap.size)
 case atStart=>exact ⟨_,[],rfl,by simp,by simp,⟨⟨rfl,.inl ⟨rfl,rfl⟩⟩,fun k hk=>by cases hk⟩,HI.out⟩
 case round=>
  obtain ⟨v,seen,rfl,hnd,hslt,ho,hit,hm⟩:=hrel
  have hMr:wr.heap[b]?=some (nmap (wv l)):=(hm.block b hbw (fun q=>q)).trans HW.out
  have hsl:=seen_le _ _ hnd hslt
  have hsl2:=sel_le l seen
  rcases run_nextN hMr seen (by rw [HL.out]; exact hit) with ⟨hall,hrun⟩|⟨i,x,w2,hx,hi,hrun,hit2,hg2,hs2⟩
  ·rw [HL.out] at hall
   have hp:=sel_all hnd hslt hall
   have HC:=hh (HS.out v (sel l seen) wr ho (by omega) hm)
   have HP:=hh hp
   clear hall hslt hMr hit hp ho hm hnd
   go_wp2_with fail
   refine HC.out.mono ?_
   rintro e w6 ⟨rfl,d',hd1,hd2,ho6,hm6⟩
   have H6:=hh (And.intro hd1 (And.intro hd2 (And.intro ho6 hm6)))
   clear hd1 hd2 ho6 hm6
   go_wp2_with fail
   go_ret
   exact ⟨v,d',rfl,H6.out.1.trans HP.out,H6.out.2.1,H6.out.2.2.1.1,H6.out.2.2.1.2,H6.out.2.2.2⟩
  ·rw [HL.out] at hit2
   obtain ⟨y,hy,rfl⟩:∃ y,l[i]?=some y/\x=(y.1,wideV y.2):=by
    unfold wv at hx
    rw [List.getElem?_map] at hx
    cases hly:l[i]? with
   |none=>rw [hly] at hx; cases hx
   |some y=>rw [hly] at hx; cases hx; exact ⟨y,rfl,rfl⟩
   have hil:i<l.length:=(List.getElem?_eq_some_iff.1 hy).1
   have hmr2:Mod (fun k=>k=w.heap.size) wr w2:=⟨hg2.os,hg2.tape,hg2.output,hg2.size,fun k hk hn=>hg2.block k hk (fun e=>hn (by cases e; rfl))⟩
   have hm2:Mod N0 w w2:=hm.trans hmr2 (fun k hk hl=>by omega)
   have ho2:OutAt w w2 v (sel l seen):=ho.tr hmr2 (fun k hk e=>by omega)
   have hMr2:w2.heap[b]?=some (nmap (wv l)):=(hm2.block b hbw (fun q=>q)).trans HW.out
   have hen:=run_entryN hMr2 seen i (y.1,wideV y.2) hx (by rw [HL.out]; exact hit2)
   have hnd2:=nodup_snoc hnd hi
   have hslt2:∀ j∈seen ++ [i],j<l.length:=fun j hj=>by
    rcases List.mem_append.1 hj with h1|h1
    ·exact hslt j h1
    ·simp at h1; omega
   have hshow:=shown_iterN hit
   have hsle2:=seen_le _ _ hnd2 hslt2
   obtain ⟨w3,hw3⟩:∃ w3,(w2.alloc (.cells zero93 171)).alloc (.cells #[.int .i64 0,.int .u64 0] 48)=w3:=⟨_,rfl⟩
   have hm3:Mod N0 w2 w3:=by rw [← hw3]; exact ((Mod.refl _ w2).alloc _).alloc _
   have hZ:w3.heap[w2.heap.size]?=some (.cells zero93 171 (0,0)):=by rw [← hw3]; exact allocB (newB w2 _) _
   have hY:w3.heap[w2.heap.size+1]?=some (.cells #[.int .i64 0,.int .u64 0] 48 (0,0)):=by
    rw [← hw3]; have:=newB (w2.alloc (.cells zero93 171)) (.cells #[.int .i64 0,.int .u64 0] 48); rwa [World.size_alloc] at this
   rw [show zero93=#[.int .u8 0,.int .u8 0,.int .u8 0,.int .u8 0,.int .u8 0,.int .u8 0,.int .u8 0,.int .u8 0,.int .u8 0,.int .u8 0,.int .u8 0,.int .u8 0,.int .u8 0,.int .u8 0,.int .u8 0,.int .u8 0,.int .u8 0,.int .u8 0,.int .u8 0,.int .u8 0,.int .u8 0,.int .u8 0,.int .u8 0,.int .u8 0,.int .u8 0,.int .u8 0,.int .u8 0,.int .u8 0,.int .u8 0,.int .u8 0,.int .u8 0,.int .u8 0,.string ⟨#[]⟩] from rfl] at hw3
   have hst:(storeVar 171 ⟨w2.heap.size,0,none⟩ (.agg (nmCells y.1).toArray)).run Tryz.prog w3=.ok () (w3.setRow w2.heap.size (nmCells y.1).toArray):=
    run_storeVar_row (P:=Tryz.prog) w3 w2.heap.size 171 171 zero93 (nmCells y.1).toArray hZ (nm_size y.1) (by simp [zero93,nmCells,y.1.len]) (by simp [nmCells,by8,Value.oneCell'])
   have hY':(w3.setRow w2.heap.size (nmCells y.1).toArray).heap[w2.heap.size+1]?=some (.cells #[.int .i64 0,.int .u64 0] 48 (0,0)):=(setRow_other (by omega) _).trans hY
   have hst2:(storeVar 48 ⟨w2.heap.size+1,0,none⟩ (.agg #[.int .i64 (hiW y.2),.int .u64 (loW y.2)])).run Tryz.prog (w3.setRow w2.heap.size (nmCells y.1).toArray)=.ok () ((w3.setRow w2.heap.size (nmCells y.1).toArray).setRow (w2.heap.size+1) #[.int .i64 (hiW y.2),.int .u64 (loW y.2)]):=
    run_storeVar_row (P:=Tryz.prog) _ (w2.heap.size+1) 48 48 _ #[.int .i64 (hiW y.2),.int .u64 (loW y.2)] hY' (by rw [size57]; rfl) rfl (by simp [Value.oneCell'])
   have hm4:Mod N0 w2 ((w3.setRow w2.heap.size (nmCells y.1).toArray).setRow (w2.heap.size+1) #[.int .i64 (hiW y.2),.int .u64 (loW y.2)]):=Mod_setRow (Mod_setRow hm3 (fun q=>by omega) _) (fun q=>by omega) _
   have hN4:((w3.setRow w2.heap.size (nmCells y.1).toArray).setRow (w2.heap.size+1) #[.int .i64 (hiW y.2),.int .u64 (loW y.2)]).heap[w2.heap.size]?=some (.cells (nmCells y.1).toArray 171 (0,0)):=(setRow_other (by omega) _).trans (setRow_same hZ)
   have hV4:((w3.setRow w2.heap.size (nmCells y.1).toArray).setRow (w2.heap.size+1) #[.int .i64 (hiW y.2),.int .u64 (loW y.2)]).heap[w2.heap.size+1]?=some (.cells #[.int .i64 (hiW y.2),.int .u64 (loW y.2)] 48 (0,0)):=setRow_same hY'
   clear hZ hY hY' hm3
   generalize (w3.setRow w2.heap.size (nmCells y.1).toArray).setRow (w2.heap.size+1) #[.int .i64 (hiW y.2),.int .u64 (loW y.2)]=w4 at hst2 hm4 hN4 hV4
   generalize w3.setRow w2.heap.size (nmCells y.1).toArray=w3a at hst hst2
   have hit4:=(hm4.block w.heap.size (ltB hit2) (fun q=>q)).trans hit2
   have hmw4:Mod N0 w w4:=hm2.tr hm4
   have ho4:OutAt w w4 v (sel l seen):=ho2.tr hm4 (fun k hk e=>e)
   have s32:w4.cell? ⟨w2.heap.size,32,none⟩=some (.string ⟨y.1.name.toArray⟩):=cellN hN4
   have HST:=hh (And.intro hst hst2)
   have HLD:=hh (And.intro (load57 hV4) (nm_policy hN4))
   have H4:=hh (And.intro hit4 (And.intro hmw4 ho4))
   have H5:=hh (And.intro hnd2 (And.intro hslt2 hshow))
   have HY:=hh hy
   clear hst hst2 hN4 hV4 hit4 hmw4 ho4 hnd2 hslt2 hm4 ho2 hm2 hMr2 hMr hit hit2 hm ho hnd hslt hx hy hs2 hg2 hmr2 hshow
   unfold nmV wideV at hen hrun
   cases hnz:nzW y.2 with
  |false=>
    have HNZ:=hh hnz
    clear hnz
    go_wp2_with (first
   |(refine wpList_execS rfl (exec_store _ _ rfl rfl rfl HST.out.1) ?_)
   |(refine wpList_execS rfl (exec_store _ _ rfl rfl rfl HST.out.2) ?_)
   |(refine wpList_exec rfl (exec_load_row _ _ 48 _ rfl (w2.heap.size+1) rfl _ HLD.out.1) ?_)
   |(refine wpList_exec rfl (exec_neq57b _ _ rfl y.2 HNZ.out rfl rfl) ?_))
    go_roundw
    case rel=>exact ⟨seen ++ [i],H5.out.1,H5.out.2.1,by rw [sel_snoc HY.out,HNZ.out]; simpa using H4.out.2.2,H4.out.1,H4.out.2.1⟩
    case measure=>
     rw [shown_iterN H4.out.1,H5.out.2.2]
     simp only [List.length_append,List.length_singleton] at hsle2 ⊢
     omega
  |true=>
    have HNZ:=hh hnz
    clear hnz
    obtain ⟨i88,hi88,hz0,hz1,hz2⟩:=info_parts info88
    have HII:=hh (And.intro hi88 (And.intro hz0 (And.intro hz1 hz2)))
    clear hi88 hz0 hz1 hz2
    have HRC:=hh (row_cells (newB w4 (.cells (totCells y).toArray 78)))
    have HO4:=hh (H4.out.2.2.tr ((Mod.refl N0 w4).alloc (.cells (totCells y).toArray 78)) (fun k hk e=>e)).1
    go_upto_region 6 with (first
   |(refine wpList_execS rfl (exec_store _ _ rfl rfl rfl HST.out.1) ?_)
   |(refine wpList_execS rfl (exec_store _ _ rfl rfl rfl HST.out.2) ?_)
   |(refine wpList_exec rfl (exec_load_row _ _ 48 _ rfl (w2.heap.size+1) rfl _ HLD.out.1) ?_)
   |(refine wpList_exec rfl (exec_neq57b _ _ rfl y.2 HNZ.out rfl rfl) ?_))
    refine wp_region_lit ?_
    refine ex (v:=v) ?_
    refine ex (v:=.pointer (some ⟨w2.heap.size,0,none⟩)) ?_
    refine wx (exec_load_row _ _ 27 _ rfl w2.heap.size rfl _ HLD.out.2) ?_
    refine ex (v:=.pointer (some ⟨w2.heap.size,32,none⟩)) ?_
    refine ex (v:=.string ⟨y.1.name.toArray⟩) ?_
    refine wx (exec_load_row _ _ 48 _ rfl (w2.heap.size+1) rfl _ HLD.out.1) ?_
    refine wx (exec_build88 _ _ rfl y rfl rfl rfl) ?_
    refine ww (exec_slice1 _ _ rfl y rfl) ?_
    refine wpList_append_at _ rfl _ _ 33 rfl 78 i88 _ 35 64 Tryz.underlying33 HII.out.1 HII.out.2.1 HII.out.2.2.1 HII.out.2.2.2 (by simp [Value.cells,zero88]) (by decide) v (sel l seen).length (totsCells (sel l seen)) rfl HO4.out ⟨w4.heap.size,0,none⟩ 1 1 (totCells y) rfl (by rw [totCells_length]) HRC.out (totCells_one y) (by simp only [maxLen]; omega) (by omega) ?_
    intro v6 w6 ho6 hg6 hat6
    have H6:=hh (And.intro ho6 (And.intro hg6 hat6))
    clear ho6 hg6 hat6
    (try simp only [Act.put,ja,jb,jc])
    go_wp2_with fail
    have hitA:=(newA H4.out.1 (.cells (totCells y).toArray 78))
    have hmA:Mod N0 w w6:=(H4.out.2.1.alloc _).grown H6.out.2.1 (fun k hk hl=>by have:=H4.out.2.2.2 k hk; omega)
    have hit6:w6.heap[w.heap.size]?=some (iterN b l.length (seen ++ [i])):=(H6.out.2.1.block _ (ltB hitA) (fun e=>by have:=H4.out.2.2.2 _ e.symm; omega)).trans hitA
    have ho6':OutAt w w6 v6 (sel l (seen ++ [i])):=by
     rw [sel_snoc HY.out,HNZ.out]
     refine ⟨?_,fun k hk=>?_⟩
     ·have:=H6.out.1
      simpa [totsCells] using this
     ·rcases H6.out.2.2 k hk with q|q
      ·exact H4.out.2.2.2 k q
      ·have:=H4.out.2.1.size
       have:=ltB H4.out.1
       simp at q
       omega
    have H7:=hh (And.intro hit6 (And.intro hmA ho6'))
    clear hitA hmA hit6 ho6'
    go_roundw
    case rel=>exact ⟨_,seen ++ [i],rfl,H5.out.1,H5.out.2.1,H7.out.2.2,H7.out.1,H7.out.2.1⟩
    case measure=>
     rw [shown_iterN H7.out.1,H5.out.2.2]
     simp only [List.length_append,List.length_singleton] at hsle2 ⊢
     omega
end Go.Proofs.YtckcamlicgdklaaGreat
