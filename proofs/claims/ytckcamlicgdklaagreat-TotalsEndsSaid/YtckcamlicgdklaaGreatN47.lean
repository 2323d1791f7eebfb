/- ApartTotals: putTotals, apart. -/
import Derived.Test.YtckcamlicgdklaaGreatN45
import Derived.Test.YtckcamlicgdklaaGreatN46
import Derived.Test.YtckcamlicgdklaaGreatN37
namespace Go.Proofs.YtckcamlicgdklaaGreat
open Go.RowKit Go.Mo Go.Sort
abbrev retU:Ending:=.returned (.tuple #[])
/-- A bag of lists of totals alone. -/
def bagL (v:Value):List Value:=List.replicate 23 (.slice none 0 0) ++ [v] ++ List.replicate 5 (.slice none 0 0)
structure Bag (w wr:World) (B:Nat) (ls:List Value):Prop where
 box:∃ v,wr.heap[B]?=some (.cells (bagL v).toArray 134 (0,0))/\wr.ownsRow 0 33 1 v ls.length ls/\∀ q,v.ownBlock=some q->w.heap.size<=q/\q≠B
 new:w.heap.size<=B
 mod:Mod N0 w wr
theorem load58F {w:World} {p:Addr} {a:Option Addr} {n c:Nat} (h:w.cell? p=some (.slice a n c)):(loadVar 58 p).run Tryz.prog w=.ok (.slice a n c) w:=by
 go_simp
theorem exec_app58 (act:Act) (o:Oper) {w w':World} {x y:Operand} (ho:o.op=.call {callee:=.builtin .append,args:=#[x,y],argTypes:=#[58,58]}) {u v r:Value} (hx:act.eval x=u) (hy:act.eval y=v) (h:(Builtin.append_ #[58,58] o.type #[u,v]).run Tryz.prog w=.ok r w'):(execOp act.eval o).run Tryz.prog w=.ok (.value r) w':=by
 unfold execOp
 simp only [ho,resolve,invoke,builtin,Sem.run_bind,Sem.run_pure,Result.andThen_ok,List.map_toArray,List.map_cons,List.map_nil,hx,hy,h]
set_option maxRecDepth 100000 in
theorem putTotals_calls {w wr:World} {B:Nat} {ls:List Value} (h:Bag w wr B ls) (a:Option Addr) (n c:Nat) (hn:ls.length<=100):Calls Tryz.prog 45 #[.pointer (some ⟨B,0,none⟩),.slice a n c] wr fun e w'=>e=retU/\Bag w w' B (ls ++ [.slice a n c]):=by
 obtain ⟨⟨v,hb,ho,hq⟩,hnew,hm⟩:=h
 obtain ⟨va,vc,rfl⟩:=own_form ho
 obtain ⟨i33,hi,hz0,hz1,hz2⟩:=info_parts info33F
 obtain ⟨w3,hw3⟩:∃ w3,wr.alloc (.cells #[.slice a n c] 33)=w3:=⟨_,rfl⟩
 have hs3:w3.heap.size=wr.heap.size+1:=by rw [← hw3]; simp
 have hb3:w3.heap[B]?=some (.cells (bagL (.slice va ls.length vc)).toArray 134 (0,0)):=by rw [← hw3]; exact allocB hb _
 have hq3:w3.heap[wr.heap.size]?=some (.cells #[.slice a n c] 33 (0,0)):=by rw [← hw3]; exact newB wr _
 have hm3:Mod N0 w w3:=by rw [← hw3]; exact hm.alloc _
 have ho3:w3.ownsRow 0 33 1 (.slice va ls.length vc) ls.length ls:=by rw [← hw3]; exact ho.alloc _
 obtain ⟨v4,w4,hr,k1,k2,_,k3⟩:=run_append_at (P:=Tryz.prog) w3 58 58 33 i33 (.slice none 0 0) 1 24 Tryz.underlying58 hi hz0 hz1 hz2 rfl (by decide) _ ls.length ls ho3 ⟨wr.heap.size,0,none⟩ 1 1 [.slice a n c] rfl (by
  intro j u hu
  have hj:j=0:=by have:=(List.getElem?_eq_some_iff.1 hu).1; simpa using this
  subst hj
  simp at hu
  subst hu
  rw [add0,cellB hq3]
  rfl) (by intro u hu; simp at hu; subst hu; rfl) (by simp only [maxLen]; omega) (by omega)
 have hB4:w4.heap[B]?=some (.cells (bagL (.slice va ls.length vc)).toArray 134 (0,0)):=(k2.block B (ltB hb3) (fun e=>(hq B e.symm).2 rfl)).trans hb3
 have hM4:Mod N0 w w4:=hm3.grown k2 fun q e hl=>by have:=(hq q e).1; omega
 obtain ⟨a4,c4,rfl⟩:=own_form k1
 have hc4:w4.cell? ⟨B,23,none⟩=some (.slice va ls.length vc):=(cellB hB4 23).trans rfl
 have hf4:w4.frozen? ⟨B,23,none⟩=false:=frozB hB4 _
 have hst:(storeVar 58 ⟨B,23,none⟩ (.slice a4 (ls.length+1) c4)).run Tryz.prog w4=.ok () (w4.setCell ⟨B,23,none⟩ (.slice a4 (ls.length+1) c4)):=by go_simp
 have hq4:∀ q,(Value.slice a4 (ls.length+1) c4).ownBlock=some q->w.heap.size<=q/\q≠B:=fun q e=>by
  rcases k3 q e with z|z
  ·exact hq q z
  ·have:=hm.size
   have:=ltB hb
   omega
 have hF:Bag w (w4.setCell ⟨B,23,none⟩ (.slice a4 (ls.length+1) c4)) B (ls ++ [.slice a n c]):=by
  refine ⟨⟨.slice a4 (ls.length+1) c4,?_,?_,hq4⟩,hnew,hM4.setCell (fun hl=>by simp only at hl; omega) _⟩
  ·rw [setB hB4]
   rfl
  ·rw [List.length_append]
   exact ownsRow_block k1 fun q e=>((Mod.refl (fun b=>b=B) w4).setCell (p:=⟨B,23,none⟩) (fun _=>rfl) _).block q (ownsRow_lt k1 e) (hq4 q e).2
 have hl:=load58F (w:=wr) (p:=⟨B,23,none⟩) ((cellB hb 23).trans rfl:wr.cell? ⟨B,23,none⟩=some (.slice va ls.length vc))
 have HF:=hh hF
 have HST:=hh hst
 have HR:=hh hr
 have HL:=hh hl
 have HW:=hh hw3
 clear hF hst hr hl hw3 hc4 hf4 hq4 hB4 hM4 k1 k2 k3 hb3 hq3 hm3 ho3 hs3 hb ho hq hm
 go_enter Tryz.func45,Tryz.ntmps45
 go_upto_region 0 with fail
 refine wp_region_lit ?_
 refine ex (v:=.pointer (some ⟨B,0,none⟩)) ?_
 refine ex (v:=.pointer (some ⟨B,0,none⟩)) ?_
 refine ex (v:=.pointer (some ⟨B,0,none⟩)) ?_
 refine ex (v:=.pointer (some ⟨B,23,none⟩)) ?_
 refine wx (exec_load_ptF _ _ 58 _ rfl ⟨B,23,none⟩ rfl HL.out) ?_
 refine ex (v:=.slice a n c) ?_
 have hx:=fun (act:Act) (o:Oper) (x:Operand) (ho:o.op=.buildSlice 58 1 #[(0,x)]) (hx:act.eval x=.slice a n c)=>exec_row1 act o (w:=wr) ho (.slice a n c) hx rfl
 rw [HW.out] at hx
 refine ww (hx _ _ (.tmp 9) rfl rfl) ?_
 clear hx
 refine ww (exec_app58 (x:=.tmp 8) (y:=.tmp 10) _ _ rfl rfl rfl HR.out) ?_
 refine ex (v:=.pointer (some ⟨B,0,none⟩)) ?_
 refine ex (v:=.pointer (some ⟨B,23,none⟩)) ?_
 refine wpList_execS rfl (exec_store_ptB _ _ rfl rfl rfl HST.out) ?_
 (try simp only [Act.put])
 go_wp2_with fail
 go_returns
 exact ⟨rfl,HF.out⟩
set_option maxRecDepth 100000 in
set_option maxHeartbeats 2000000 in
theorem apart_calls {w wr:World} {B:Nat} {ls:List Value} (h:Bag w wr B ls) (vs:Nat->Value) (ns:Nat->Nat) (hls:∀ k,k<ls.length->ls[k]?=some (vs k)) (h0:0<ls.length) (h1:ls.length<=100)
  (hrows:∀ k,k<ls.length->∃ X,w.ownsRow 0 78 35 (vs k) (ns k) X) (hap:∀ j k,j<ls.length->k<ls.length->j≠k->∀ b,(vs j).ownBlock=some b->(vs k).ownBlock≠some b) (hsm:∀ k,k<ls.length->ns k<=900000) :
  Calls Tryz.prog 46 #[.pointer (some ⟨B,0,none⟩)] wr fun e w'=>e=.returned (.bool true)/\Mod (Sb ls.length vs) w w':=by
 obtain ⟨⟨v,hb,ho,hq⟩,hnew,hm⟩:=h
 obtain ⟨H,cap,rfl⟩:=own_some ho h0
 have hblk:∀ k,k<ls.length->∀ b,(vs k).ownBlock=some b->b<w.heap.size:=fun k hk b e=>by
  obtain ⟨X,hX⟩:=hrows k hk
  exact ownsRow_lt hX e
 have HF:=hh (fun (W:World) (hW:Mod N0 wr W)=>(show Fl W H 0 ls.length vs ns from
  ⟨fun k hk=>by
    rw [hW.cell (p:=⟨H,_,none⟩) (ownsRow_lt ho (k:=H) rfl) (fun q=>q)]
    have:=World.ownsRow.cells ho (g:=H) rfl k _ (hls k hk)
    rwa [add0] at this,
   Nat.lt_of_lt_of_le (ownsRow_lt ho (k:=H) rfl) hW.size,
   fun k hk=>by
    obtain ⟨X,hX⟩:=hrows k hk
    exact ⟨X,ownsRow_block hX fun q e=>(hm.tr hW).block q (ownsRow_lt hX e) (fun z=>z)⟩,
   fun k hk e=>by have:=hblk k hk H e; have:=(hq H rfl).1; omega,
   hap,hsm,by omega⟩))
 have HB:=hh (fun (W:World) (hW:Mod (Sb ls.length vs) wr W)=>(show W.heap[B]?=some (.cells (bagL (.slice (some ⟨H,0,none⟩) ls.length cap)).toArray 134 (0,0)) from
  (hW.block B (ltB hb) (fun e=>by obtain ⟨j,hj,e2⟩:=e; have:=hblk j hj B e2; omega)).trans hb))
 have HM:=hh hm
 clear hb ho hq hnew hm hblk hls hrows hap hsm h1
 generalize ls.length=K at HF HB h0 ⊢
 go_enter Tryz.func46,Tryz.ntmps46
 have HM0:=hh (Mod.refl N0 wr)
 have s:wr.cell? ⟨B,0,none⟩=some (.slice none 0 0):=(cellB (HB.out wr (HM0.out.any (S:=Sb K vs))) 0).trans rfl
 go_wp2_with fail
 clear s
 refine (flat71 wr).mono ?_
 rintro e w1 ⟨rfl,hm⟩
 have HM1:=hh (HM0.out.tr hm)
 clear hm HM0
 rename_i hK
 refine hK _ _ ?_
 clear hK
 (try simp only [Act.put,ja,jb,jc])
 have s:w1.cell? ⟨B,1,none⟩=some (.slice none 0 0):=(cellB (HB.out w1 (HM1.out.any (S:=Sb K vs))) 1).trans rfl
 go_wp2_with fail
 clear s
 refine (flat72 w1).mono ?_
 rintro e w2 ⟨rfl,hm⟩
 have HM2:=hh (HM1.out.tr hm)
 clear hm HM1
 rename_i hK
 refine hK _ _ ?_
 clear hK
 (try simp only [Act.put,ja,jb,jc])
 have s:w2.cell? ⟨B,2,none⟩=some (.slice none 0 0):=(cellB (HB.out w2 (HM2.out.any (S:=Sb K vs))) 2).trans rfl
 go_wp2_with fail
 clear s
 refine (flat73 w2).mono ?_
 rintro e w3 ⟨rfl,hm⟩
 have HM3:=hh (HM2.out.tr hm)
 clear hm HM2
 rename_i hK
 refine hK _ _ ?_
 clear hK
 (try simp only [Act.put,ja,jb,jc])
 have s:w3.cell? ⟨B,3,none⟩=some (.slice none 0 0):=(cellB (HB.out w3 (HM3.out.any (S:=Sb K vs))) 3).trans rfl
 go_wp2_with fail
 clear s
 refine (flat74 w3).mono ?_
 rintro e w4 ⟨rfl,hm⟩
 have HM4:=hh (HM3.out.tr hm)
 clear hm HM3
 rename_i hK
 refine hK _ _ ?_
 clear hK
 (try simp only [Act.put,ja,jb,jc])
 have s:w4.cell? ⟨B,4,none⟩=some (.slice none 0 0):=(cellB (HB.out w4 (HM4.out.any (S:=Sb K vs))) 4).trans rfl
 go_wp2_with fail
 clear s
 refine (flat75 w4).mono ?_
 rintro e w5 ⟨rfl,hm⟩
 have HM5:=hh (HM4.out.tr hm)
 clear hm HM4
 rename_i hK
 refine hK _ _ ?_
 clear hK
 (try simp only [Act.put,ja,jb,jc])
 have s:w5.cell? ⟨B,5,none⟩=some (.slice none 0 0):=(cellB (HB.out w5 (HM5.out.any (S:=Sb K vs))) 5).trans rfl
 go_wp2_with fail
 clear s
 refine (flat76 w5).mono ?_
 rintro e w6 ⟨rfl,hm⟩
 have HM6:=hh (HM5.out.tr hm)
 clear hm HM5
 rename_i hK
 refine hK _ _ ?_
 clear hK
 (try simp only [Act.put,ja,jb,jc])
 have s:w6.cell? ⟨B,6,none⟩=some (.slice none 0 0):=(cellB (HB.out w6 (HM6.out.any (S:=Sb K vs))) 6).trans rfl
 go_wp2_with fail
 clear s
 refine (flat77 w6).mono ?_
 rintro e w7 ⟨rfl,hm⟩
 have HM7:=hh (HM6.out.tr hm)
 clear hm HM6
 rename_i hK
 refine hK _ _ ?_
 clear hK
 (try simp only [Act.put,ja,jb,jc])
 have s:w7.cell? ⟨B,7,none⟩=some (.slice none 0 0):=(cellB (HB.out w7 (HM7.out.any (S:=Sb K vs))) 7).trans rfl
 go_wp2_with fail
 clear s
 refine (flat78 w7).mono ?_
 rintro e w8 ⟨rfl,hm⟩
 have HM8:=hh (HM7.out.tr hm)
 clear hm HM7
 rename_i hK
 refine hK _ _ ?_
 clear hK
 (try simp only [Act.put,ja,jb,jc])
 have s:w8.cell? ⟨B,8,none⟩=some (.slice none 0 0):=(cellB (HB.out w8 (HM8.out.any (S:=Sb K vs))) 8).trans rfl
 go_wp2_with fail
 clear s
 refine (flat79 w8).mono ?_
 rintro e w9 ⟨rfl,hm⟩
 have HM9:=hh (HM8.out.tr hm)
 clear hm HM8
 rename_i hK
 refine hK _ _ ?_
 clear hK
 (try simp only [Act.put,ja,jb,jc])
 have s:w9.cell? ⟨B,9,none⟩=some (.slice none 0 0):=(cellB (HB.out w9 (HM9.out.any (S:=Sb K vs))) 9).trans rfl
 go_wp2_with fail
 clear s
 refine (flat80 w9).mono ?_
 rintro e w10 ⟨rfl,hm⟩
 have HM10:=hh (HM9.out.tr hm)
 clear hm HM9
 rename_i hK
 refine hK _ _ ?_
 clear hK
 (try simp only [Act.put,ja,jb,jc])
 have s:w10.cell? ⟨B,10,none⟩=some (.slice none 0 0):=(cellB (HB.out w10 (HM10.out.any (S:=Sb K vs))) 10).trans rfl
 go_wp2_with fail
 clear s
 refine (flat81 w10).mono ?_
 rintro e w11 ⟨rfl,hm⟩
 have HM11:=hh (HM10.out.tr hm)
 clear hm HM10
 rename_i hK
 refine hK _ _ ?_
 clear hK
 (try simp only [Act.put,ja,jb,jc])
 have s:w11.cell? ⟨B,11,none⟩=some (.slice none 0 0):=(cellB (HB.out w11 (HM11.out.any (S:=Sb K vs))) 11).trans rfl
 go_wp2_with fail
 clear s
 refine (flat82 w11).mono ?_
 rintro e w12 ⟨rfl,hm⟩
 have HM12:=hh (HM11.out.tr hm)
 clear hm HM11
 rename_i hK
 refine hK _ _ ?_
 clear hK
 (try simp only [Act.put,ja,jb,jc])
 have s:w12.cell? ⟨B,12,none⟩=some (.slice none 0 0):=(cellB (HB.out w12 (HM12.out.any (S:=Sb K vs))) 12).trans rfl
 go_wp2_with fail
 clear s
 refine (flat83 w12).mono ?_
 rintro e w13 ⟨rfl,hm⟩
 have HM13:=hh (HM12.out.tr hm)
 clear hm HM12
 rename_i hK
 refine hK _ _ ?_
 clear hK
 (try simp only [Act.put,ja,jb,jc])
 have s:w13.cell? ⟨B,13,none⟩=some (.slice none 0 0):=(cellB (HB.out w13 (HM13.out.any (S:=Sb K vs))) 13).trans rfl
 go_wp2_with fail
 clear s
 refine (flat84 w13).mono ?_
 rintro e w14 ⟨rfl,hm⟩
 have HM14:=hh (HM13.out.tr hm)
 clear hm HM13
 rename_i hK
 refine hK _ _ ?_
 clear hK
 (try simp only [Act.put,ja,jb,jc])
 have s:w14.cell? ⟨B,14,none⟩=some (.slice none 0 0):=(cellB (HB.out w14 (HM14.out.any (S:=Sb K vs))) 14).trans rfl
 go_wp2_with fail
 clear s
 refine (flat85 w14).mono ?_
 rintro e w15 ⟨rfl,hm⟩
 have HM15:=hh (HM14.out.tr hm)
 clear hm HM14
 rename_i hK
 refine hK _ _ ?_
 clear hK
 (try simp only [Act.put,ja,jb,jc])
 have s:w15.cell? ⟨B,15,none⟩=some (.slice none 0 0):=(cellB (HB.out w15 (HM15.out.any (S:=Sb K vs))) 15).trans rfl
 go_wp2_with fail
 clear s
 refine (flat86 w15).mono ?_
 rintro e w16 ⟨rfl,hm⟩
 have HM16:=hh (HM15.out.tr hm)
 clear hm HM15
 rename_i hK
 refine hK _ _ ?_
 clear hK
 (try simp only [Act.put,ja,jb,jc])
 have s:w16.cell? ⟨B,16,none⟩=some (.slice none 0 0):=(cellB (HB.out w16 (HM16.out.any (S:=Sb K vs))) 16).trans rfl
 go_wp2_with fail
 clear s
 refine (flat87 w16).mono ?_
 rintro e w17 ⟨rfl,hm⟩
 have HM17:=hh (HM16.out.tr hm)
 clear hm HM16
 rename_i hK
 refine hK _ _ ?_
 clear hK
 (try simp only [Act.put,ja,jb,jc])
 have s:w17.cell? ⟨B,17,none⟩=some (.slice none 0 0):=(cellB (HB.out w17 (HM17.out.any (S:=Sb K vs))) 17).trans rfl
 go_wp2_with fail
 clear s
 refine (flat88 w17).mono ?_
 rintro e w18 ⟨rfl,hm⟩
 have HM18:=hh (HM17.out.tr hm)
 clear hm HM17
 rename_i hK
 refine hK _ _ ?_
 clear hK
 (try simp only [Act.put,ja,jb,jc])
 have s:w18.cell? ⟨B,18,none⟩=some (.slice none 0 0):=(cellB (HB.out w18 (HM18.out.any (S:=Sb K vs))) 18).trans rfl
 go_wp2_with fail
 clear s
 refine (flat89 w18).mono ?_
 rintro e w19 ⟨rfl,hm⟩
 have HM19:=hh (HM18.out.tr hm)
 clear hm HM18
 rename_i hK
 refine hK _ _ ?_
 clear hK
 (try simp only [Act.put,ja,jb,jc])
 have s:w19.cell? ⟨B,19,none⟩=some (.slice none 0 0):=(cellB (HB.out w19 (HM19.out.any (S:=Sb K vs))) 19).trans rfl
 go_wp2_with fail
 clear s
 refine (flat90 w19).mono ?_
 rintro e w20 ⟨rfl,hm⟩
 have HM20:=hh (HM19.out.tr hm)
 clear hm HM19
 rename_i hK
 refine hK _ _ ?_
 clear hK
 (try simp only [Act.put,ja,jb,jc])
 have s:w20.cell? ⟨B,20,none⟩=some (.slice none 0 0):=(cellB (HB.out w20 (HM20.out.any (S:=Sb K vs))) 20).trans rfl
 go_wp2_with fail
 clear s
 refine (flat91 w20).mono ?_
 rintro e w21 ⟨rfl,hm⟩
 have HM21:=hh (HM20.out.tr hm)
 clear hm HM20
 rename_i hK
 refine hK _ _ ?_
 clear hK
 (try simp only [Act.put,ja,jb,jc])
 have s:w21.cell? ⟨B,21,none⟩=some (.slice none 0 0):=(cellB (HB.out w21 (HM21.out.any (S:=Sb K vs))) 21).trans rfl
 go_wp2_with fail
 clear s
 refine (flat92 w21).mono ?_
 rintro e w22 ⟨rfl,hm⟩
 have HM22:=hh (HM21.out.tr hm)
 clear hm HM21
 rename_i hK
 refine hK _ _ ?_
 clear hK
 (try simp only [Act.put,ja,jb,jc])
 have s:w22.cell? ⟨B,22,none⟩=some (.slice none 0 0):=(cellB (HB.out w22 (HM22.out.any (S:=Sb K vs))) 22).trans rfl
 go_wp2_with fail
 clear s
 refine (flat93 w22).mono ?_
 rintro e w23 ⟨rfl,hm⟩
 have HM23:=hh (HM22.out.tr hm)
 clear hm HM22
 rename_i hK
 refine hK _ _ ?_
 clear hK
 (try simp only [Act.put,ja,jb,jc])
 have s:w23.cell? ⟨B,23,none⟩=some (.slice (some ⟨H,0,none⟩) K cap):=(cellB (HB.out w23 (HM23.out.any (S:=Sb K vs))) 23).trans rfl
 go_wp2_with fail
 clear s
 refine (flatTotals_calls w23 H 0 K cap vs ns (HF.out _ HM23.out)).mono ?_
 rintro e w24 ⟨rfl,hm⟩
 have HM24:=hh ((HM23.out.any (S:=Sb K vs)).tr hm)
 clear hm HM23
 rename_i hK
 refine hK _ _ ?_
 clear hK
 (try simp only [Act.put,ja,jb,jc])
 have s:w24.cell? ⟨B,24,none⟩=some (.slice none 0 0):=(cellB (HB.out w24 HM24.out) 24).trans rfl
 go_wp2_with fail
 clear s
 refine (flat95 w24).mono ?_
 rintro e w25 ⟨rfl,hm⟩
 have HM25:=hh (HM24.out.tr0 hm)
 clear hm HM24
 rename_i hK
 refine hK _ _ ?_
 clear hK
 (try simp only [Act.put,ja,jb,jc])
 have s:w25.cell? ⟨B,25,none⟩=some (.slice none 0 0):=(cellB (HB.out w25 HM25.out) 25).trans rfl
 go_wp2_with fail
 clear s
 refine (flat96 w25).mono ?_
 rintro e w26 ⟨rfl,hm⟩
 have HM26:=hh (HM25.out.tr0 hm)
 clear hm HM25
 rename_i hK
 refine hK _ _ ?_
 clear hK
 (try simp only [Act.put,ja,jb,jc])
 have s:w26.cell? ⟨B,26,none⟩=some (.slice none 0 0):=(cellB (HB.out w26 HM26.out) 26).trans rfl
 go_wp2_with fail
 clear s
 refine (flat97 w26).mono ?_
 rintro e w27 ⟨rfl,hm⟩
 have HM27:=hh (HM26.out.tr0 hm)
 clear hm HM26
 rename_i hK
 refine hK _ _ ?_
 clear hK
 (try simp only [Act.put,ja,jb,jc])
 have s:w27.cell? ⟨B,27,none⟩=some (.slice none 0 0):=(cellB (HB.out w27 HM27.out) 27).trans rfl
 go_wp2_with fail
 clear s
 refine (flat98 w27).mono ?_
 rintro e w28 ⟨rfl,hm⟩
 have HM28:=hh (HM27.out.tr0 hm)
 clear hm HM27
 rename_i hK
 refine hK _ _ ?_
 clear hK
 (try simp only [Act.put,ja,jb,jc])
 have s:w28.cell? ⟨B,28,none⟩=some (.slice none 0 0):=(cellB (HB.out w28 HM28.out) 28).trans rfl
 go_wp2_with fail
 clear s
 refine (flat99 w28).mono ?_
 rintro e w29 ⟨rfl,hm⟩
 have HM29:=hh (HM28.out.tr0 hm)
 clear hm HM28
 rename_i hK
 refine hK _ _ ?_
 clear hK
 (try simp only [Act.put,ja,jb,jc])
 go_wp2_with fail
 go_ret
 exact ⟨rfl,(HM.out.any (S:=Sb K vs)).tr HM29.out⟩
end Go.Proofs.YtckcamlicgdklaaGreat
