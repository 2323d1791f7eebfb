/- ApartTotals. -/
import Derived.Test.YtckcamlicgdklaaGreatN47
namespace Go.Proofs.YtckcamlicgdklaaGreat
open Go.RowKit Go.Mo Go.Sort
theorem built134:Tryz.prog.built 134 []=some (bagL (.slice none 0 0)).toArray:=by kernel_rfl
theorem exec_build134 (act:Act) (o:Oper) {w:World} (ho:o.op=.build 134 #[]):(execOp act.eval o).run Tryz.prog w=.ok (.value (.agg (bagL (.slice none 0 0)).toArray)) w:=by
 have h:=run_build (P:=Tryz.prog) w 134 #[] _ built134
 unfold execOp
 simp only [ho,List.map_toArray,List.map_nil,Sem.run_bind,Sem.run_pure,h,Result.andThen_ok]
theorem exec_boxF (act:Act) (o:Oper) {w:World} (T:TypeId) (cs:List Value) {x:Operand} (ho:o.op=.box T x) (hx:act.eval x=.agg cs.toArray):(execOp act.eval o).run Tryz.prog w=.ok (.value (.pointer (some ⟨w.heap.size,0,none⟩))) (w.alloc (.cells cs.toArray T)):=by
 unfold execOp
 simp only [ho,hx]
 go_simp
theorem Bag.start (w:World):Bag w (w.alloc (.cells (bagL (.slice none 0 0)).toArray 134)) w.heap.size []:=
 ⟨⟨.slice none 0 0,newB w _,World.ownsRow_nil _ 0 33 1,fun q e=>by cases e⟩,Nat.le_refl _,(Mod.refl _ w).alloc _⟩
def rowsV (vs:Nat->Value) (k:Nat):List Value:=(List.range k).map vs
theorem rowsV_length (vs:Nat->Value) (k:Nat):(rowsV vs k).length=k:=by simp [rowsV]
theorem rowsV_succ (vs:Nat->Value) (k:Nat):rowsV vs (k+1)=rowsV vs k ++ [vs k]:=by simp [rowsV,List.range_succ]
theorem rowsV_get (vs:Nat->Value) {k i:Nat} (h:i<k):(rowsV vs k)[i]?=some (vs i):=by simp [rowsV,h]
set_option maxRecDepth 100000 in
theorem apartTotals_calls (w:World) (H ho Kn cK:Nat) (vs:Nat->Value) (ns:Nat->Nat) (hf:Fl w H ho Kn vs ns) (h0:0<Kn) (h1:Kn<=100):Calls Tryz.prog 21 #[.slice (some ⟨H,ho,none⟩) Kn cK] w fun e w'=>e=.returned (.bool true)/\Mod (Sb Kn vs) w w':=by
 have HF:=hh hf
 clear hf
 have hb:=Bag.start w
 go_enter Tryz.func21,Tryz.ntmps21
 go_upto_region 1 with fail
 refine wp_region_lit ?_
 refine wx (exec_build134 _ _ rfl) ?_
 refine ww (exec_boxF _ _ 134 (bagL (.slice none 0 0)) rfl rfl) ?_
 generalize w.alloc (.cells (bagL (.slice none 0 0)).toArray 134)=w1 at hb ⊢
 generalize bagL (.slice none 0 0)=bl
 generalize w.heap.size=B at hb ⊢
 have HB0:=hh hb
 clear hb
 go_wp2_with fail
 go_loopw [4] (fun i wx=>∃ k:Nat,k<=Kn/\i=.int .i64 k/\Bag w wx B (rowsV vs k)) (fun i _=>Kn - (intOf i).toNat)
 case atStart=>exact ⟨0,by omega,rfl,HB0.out⟩
 case round=>
  obtain ⟨k,hk,rfl,hb⟩:=hrel
  have HB:=hh hb
  clear hb
  by_cases hlt:k<Kn
  ·obtain ⟨a,c,hv⟩:=HF.out.form hlt
   have s:wr.cell? ⟨H,ho+k,none⟩=some (.slice a (ns k) c):=(HF.out.hcell hlt HB.out.mod.any).trans (congrArg some hv)
   have HV:=hh hv
   clear hv
   go_wp2_with fail
   refine (putTotals_calls HB.out a (ns k) c (by rw [rowsV_length]; omega)).mono ?_
   rintro e w5 ⟨rfl,hb5⟩
   rw [← HV.out,← rowsV_succ] at hb5
   have HB5:=hh hb5
   clear hb5 s
   go_wp2_with fail
   go_roundw
   case rel=>exact ⟨k+1,by omega,rfl,HB5.out⟩
   case measure=>simp [intOf]; omega
  ·have e:Kn=k:=by omega
   subst e
   go_wp2_with fail
   have hl:=rowsV_length vs Kn
   have hap:=apart_calls HB.out vs ns (fun k hk=>rowsV_get vs (by omega)) (by omega) (by omega) (fun k hk=>HF.out.rows k (by omega)) (fun j k hj hk=>HF.out.apart j k (by omega) (by omega)) (fun k hk=>HF.out.small k (by omega))
   rw [hl] at hap
   refine hap.mono ?_
   rintro e w5 ⟨rfl,hm5⟩
   have HM5:=hh hm5
   clear hm5 hap hl
   go_wp2_with fail
   go_ret
   exact ⟨rfl,HM5.out⟩
end Go.Proofs.YtckcamlicgdklaaGreat
