/- General words and laws, over any program: what a call may turn (Mod); maps with int keys whose entries are known whole (imap); append that tells where its row lies. -/
import Derived.WalkKit
import Derived.Deep.RegionHeld
import Derived.Below
import Derived.OneCell
import Derived.OwnWalk
import Derived.Laws.NewBlocks
import Derived.Laws.Append
import Derived.Laws.AppendOwn
import Derived.Laws.OwnMore
import Derived.WalkSpells
namespace Go.Mo
open Go.RowKit
abbrev N0:Nat->Prop:=fun _=>False
theorem hh {p:Prop} (h:p):Hid p:=h
/-- From w to w' only blocks of S, and new ones, have turned. -/
structure Mod (S:Nat->Prop) (w w':World):Prop where
 os:w'.os=w.os
 tape:w'.tape=w.tape
 output:w'.output=w.output
 size:w.heap.size<=w'.heap.size
 block:∀ k,k<w.heap.size->¬ S k->w'.heap[k]?=w.heap[k]?
theorem Mod.refl (S:Nat->Prop) (w:World):Mod S w w:=⟨rfl,rfl,rfl,Nat.le_refl _,fun _ _ _=>rfl⟩
theorem Mod.trans {S S':Nat->Prop} {a b c:World} (h:Mod S a b) (k:Mod S' b c) (hs:∀ k,S' k->k<a.heap.size->S k):Mod S a c:=
 ⟨k.os.trans h.os,k.tape.trans h.tape,k.output.trans h.output,Nat.le_trans h.size k.size,
   fun i hi hn=>(k.block i (Nat.lt_of_lt_of_le hi h.size) (fun q=>hn (hs i q hi))).trans (h.block i hi hn)⟩
theorem Mod.tr {S:Nat->Prop} {a b c:World} (h:Mod S a b) (k:Mod S b c):Mod S a c:=h.trans k (fun _ q _=>q)
theorem Mod.tr0 {S:Nat->Prop} {a b c:World} (h:Mod S a b) (k:Mod N0 b c):Mod S a c:=h.trans k (fun _ q _=>q.elim)
theorem Mod.weaken {S S':Nat->Prop} {a b:World} (h:Mod S a b) (hs:∀ k,S k->k<a.heap.size->S' k):Mod S' a b:=
 ⟨h.os,h.tape,h.output,h.size,fun i hi hn=>h.block i hi (fun q=>hn (hs i q hi))⟩
theorem Mod.any {S:Nat->Prop} {a b:World} (h:Mod N0 a b):Mod S a b:=h.weaken (fun _ q _=>q.elim)
theorem Mod.alloc {S:Nat->Prop} {a w:World} (h:Mod S a w) (o:Obj):Mod S a (w.alloc o):=
 h.trans (S':=fun _=>False) ⟨rfl,rfl,rfl,by simp,fun k hk _=>Below.heap_alloc _ _ _ hk⟩ (fun _ q=>q.elim)
theorem Mod.drew {S:Nat->Prop} {a w:World} (h:Mod S a w):Mod S a w.drew:=⟨h.os,h.tape,h.output,h.size,h.block⟩
theorem Mod.setCell {S:Nat->Prop} {a w:World} (h:Mod S a w) {p:Addr} (hp:p.block<a.heap.size->S p.block) (u:Value):Mod S a (w.setCell p u):=
 h.trans (S':=fun k=>k=p.block) ⟨rfl,rfl,rfl,by simp [World.setCell],fun k _ hn=>Below.heap_setCell _ _ _ _ hn⟩ (fun _ q l=>by subst q; exact hp l)
theorem Mod.grown {S:Nat->Prop} {a w w':World} {row:Option Nat} (h:Mod S a w) (hg:w.grownBy w' row) (hr:∀ k,row=some k->k<a.heap.size->S k):Mod S a w':=
 h.trans (S':=fun k=>row=some k) ⟨hg.os,hg.tape,hg.output,hg.size,fun k hk hn=>hg.block k hk (fun e=>hn e.symm)⟩ hr
theorem Mod.below {a w:World} (h:Mod N0 a w):Below a.heap.size a w:=⟨h.os,h.tape,h.output,h.size,fun k hk=>h.block k hk id⟩
theorem Mod.cell {S:Nat->Prop} {w w':World} (h:Mod S w w') {p:Addr} (hp:p.block<w.heap.size) (hn:¬ S p.block):w'.cell? p=w.cell? p:=World.cell?_of_block (w:=w) (h.block p.block hp hn)
/-- The blocks of S are as they were. -/
def Same (S:Nat->Prop) (w w':World):Prop:=∀ k,S k->k<w.heap.size->w'.heap[k]?=w.heap[k]?
theorem Mod.same {S T:Nat->Prop} {w w':World} (h:Mod S w w') (hd:∀ k,T k->¬ S k):Same T w w':=fun k hk hl=>h.block k hl (hd k hk)
/-! blocks of cells -/
theorem cellB {w:World} {b:Nat} {cs:Array Value} {T:TypeId} {f:Nat×Nat} (h:w.heap[b]?=some (.cells cs T f)) (i:Nat):w.cell? ⟨b,i,none⟩=cs[i]?:=by simp [World.cell?,h]
theorem frozB {w:World} {b:Nat} {cs:Array Value} {T:TypeId} (h:w.heap[b]?=some (.cells cs T (0,0))) (i:Nat):w.frozen? ⟨b,i,none⟩=false:=by simp [World.frozen?,h]
theorem setB {w:World} {b:Nat} {cs:Array Value} {T:TypeId} {f:Nat×Nat} (h:w.heap[b]?=some (.cells cs T f)) (i:Nat) (v:Value) :
  (w.setCell ⟨b,i,none⟩ v).heap[b]?=some (.cells (cs.setIfInBounds i v) T f):=by
 simp only [World.setCell,Array.getElem?_modify,if_true,h]; rfl
theorem ltB {w:World} {b:Nat} {o:Obj} (h:w.heap[b]?=some o):b<w.heap.size:=(Array.getElem?_eq_some_iff.1 h).1
theorem allocB {w:World} {b:Nat} {o:Obj} (h:w.heap[b]?=some o) (o':Obj):(w.alloc o').heap[b]?=some o:=by rw [Below.heap_alloc _ _ _ (ltB h)]; exact h
theorem newB (w:World) (o:Obj):(w.alloc o).heap[w.heap.size]?=some o:=heap_alloc_new w o
theorem add0 (g o j:Nat):(⟨g,o,none⟩:Addr).add j=⟨g,o+j,none⟩:=by unfold Addr.add; split <;> simp_all
/-! maps with int keys, whole -/
def ents:Nat->List (Int×Value)->List MapEntry
|_,[]=>[]
|i,x :: r=>⟨.int .i64 x.1,x.2,i⟩ :: ents (i+1) r
def imap (l:List (Int×Value)):Obj:=.map (ents 0 l).toArray l.length
def up {α:Type}:List (Int×α)->Int->α->List (Int×α)
|[],k,v=>[(k,v)]
|x :: r,k,v=>if x.1=k then (k,v) :: r else x :: up r k v
def _root_.Go.World.layObj (w:World) (b:Nat) (o:Obj):World:={w with heap:=w.heap.setIfInBounds b o}
section
variable {P:Program} {w:World} {b:Nat} {l:List (Int×Value)}
end
section
variable {P:Program} {w:World} {b r:Nat} {l:List (Int×Value)}
theorem run_choose_next (P:Program) (w:World) (n:Nat) (hn:0<n):∃ c w',(choose (.mapNext n)).run P w=.ok c w'/\c<n/\(w'=w∨w'=w.drew):=by
 by_cases h:n<=1
 ·exact ⟨0,w,by simp [choose,Sem.run,Question.forced,h],hn,.inl rfl⟩
 ·exact ⟨(Question.mapNext n).cut (w.tape w.drawn (.mapNext n)),w.drew,by simp [choose,Sem.run,Question.forced,h],Nat.mod_lt _ hn,.inr rfl⟩
end
/-! append, and where its row lies -/
section
variable {P:Program} (w:World)
theorem run_append_at (t ty e:TypeId) (i:TypeInfo) (z:Value) (size bytes:Nat) (ht:P.underlying t=some (.slice e)) (hi:P.info? e=some i) (hz:i.zero=some z)
  (hsize:i.size=size) (hby:i.bytes=bytes) (hzs:z.cells.size=size) (hsz:0<size)
  (v:Value) (n:Nat) (xs:List Value) (hown:w.ownsRow 0 e size v n xs)
  (a:Addr) (m c:Nat) (news:List Value) (hl:news.length=m * size) (hnews:∀ j u,news[j]?=some u->w.cell? (a.add j)=some u) (h1:∀ u∈news,u.oneCell'=true)
  (h63:n+m<=maxLen) (hbytes:(n+m) * bytes<=140737488355328) :
  ∃ v' w',(Builtin.append_ #[t,t] ty #[v,.slice (some a) m c]).run P w=.ok v' w'/\w'.ownsRow 0 e size v' (n+m) (xs ++ news)/\w.grownBy w' v.ownBlock /\
   (v'=.slice none 0 0 ↔ v=.slice none 0 0/\m=0)/\(∀ k,v'.ownBlock=some k->v.ownBlock=some k∨w.heap.size<=k):=by
 obtain ⟨v',w',hr,h2,h3,h4⟩:=run_append_own (P:=P) w 0 t ty e i z size bytes ht hi hz hsize hby hzs hsz v n xs hown a m c news hl hnews h1 h63 hbytes (Nat.zero_le _)
 refine ⟨v',w',hr,h2,h3,h4,?_⟩
 rcases hown.2 with ⟨rfl,rfl⟩|⟨g,cap,cur,rfl,_,hg,hnc,hcm,hcs,htake⟩
 ·have hx:xs=[]:=List.eq_nil_of_length_eq_zero (by simpa using hown.1)
  subst hx
  obtain ⟨v2,w2,hr2,g2,_,_⟩:=run_append_own (P:=P) w w.heap.size t ty e i z size bytes ht hi hz hsize hby hzs hsz (.slice none 0 0) 0 [] (World.ownsRow_nil w _ e size) a m c news hl hnews h1 h63 hbytes (Nat.le_refl _)
  rw [hr] at hr2
  cases hr2
  exact fun k hk=>.inr (g2.lt k hk).1
 ·by_cases hroom:n+m<=cap
  ·have hfit:n * i.size+news.length<=cur.size:=by rw [hl,hcs,hsize,← Nat.add_mul]; exact Nat.mul_le_mul_right _ hroom
   have hr2:=run_append_room (P:=P) w t ty e i ht hi g n cap cur hg a m c news (by rw [hsize]; exact hl) hnews h1 hroom hfit
   rw [hr] at hr2
   cases hr2
   exact fun k hk=>.inl hk
  ·have holds:∀ j u,xs[j]?=some u->w.cell? ((⟨g,0,none⟩:Addr).add j)=some u:=hown.cells (g:=g) rfl
   have hr2:=run_append_grow (P:=P) w t ty e i z ht hi hz ⟨g,0,none⟩ n cap xs (by rw [hsize]; exact hown.1) holds a m c news (by rw [hsize]; exact hl) hnews (by omega) (by simp only [maxLen] at h63; omega) (growslice_fits (by omega) (by rw [hby]; exact hbytes))
   rw [hr] at hr2
   cases hr2
   intro k hk
   simp [Value.ownBlock] at hk
   exact .inr (by omega)
theorem wpList_append_at {ops:Array Oper} {rest:List Oper} {o:Oper} {a:Act} {Q:Exit->Act->World->Prop} (hgd:o.guard=none) (s x:Operand) (t:TypeId)
  (ho:o.op=.call {callee:=.builtin .append,args:=#[s,x],argTypes:=#[t,t]})
  (e:TypeId) (i:TypeInfo) (z:Value) (size bytes:Nat) (ht:P.underlying t=some (.slice e)) (hi:P.info? e=some i) (hz:i.zero=some z)
  (hsize:i.size=size) (hby:i.bytes=bytes) (hzs:z.cells.size=size) (hsz:0<size)
  (v:Value) (n:Nat) (xs:List Value) (hs:a.eval s=v) (hown:w.ownsRow 0 e size v n xs)
  (ad:Addr) (m c:Nat) (news:List Value) (hx:a.eval x=.slice (some ad) m c) (hl:news.length=m * size) (hnews:∀ j u,news[j]?=some u->w.cell? (ad.add j)=some u) (h1:∀ u∈news,u.oneCell'=true)
  (h63:n+m<=maxLen) (hbytes:(n+m) * bytes<=140737488355328)
  (h:∀ v' w',w'.ownsRow 0 e size v' (n+m) (xs ++ news)->w.grownBy w' v.ownBlock->(∀ k,v'.ownBlock=some k->v.ownBlock=some k∨w.heap.size<=k)->wpList P ops Q rest (a.put o.dst v') w'):wpList P ops Q (o :: rest) a w:=by
 refine wpList_plain hgd fun K hK=>?_
 obtain ⟨v',w',hr,h2,h3,_,h4⟩:=run_append_at (P:=P) w t o.type e i z size bytes ht hi hz hsize hby hzs hsz v n xs hown ad m c news hl hnews h1 h63 hbytes
 unfold Oper.wp execOp
 simp only [ho,resolve,invoke,builtin,Sem.run_bind,Sem.run_pure,Result.andThen_ok,List.map_toArray,List.map_cons,List.map_nil,hs,hx,hr]
 exact hK _ _ (h v' w' h2 h3 h4)
end
/-! Short words. -/
theorem ja {α:Type} (l:List α) (i:Nat) (v:α):l.toArray.setIfInBounds i v=(l.set i v).toArray:=List.setIfInBounds_toArray ..
theorem jb {α:Type} {x y:α} {l:List α}:(x :: l).set 0 y=y :: l:=rfl
theorem jc {α:Type} {x y:α} {l:List α} {n:Nat}:(x :: l).set (n+1) y=x :: l.set n y:=rfl
section
variable {P:Program} {ops:Array Oper} {rest:List Oper} {o:Oper} {a a':Act} {w w':World} {Q:Exit->Act->World->Prop} {v:Value}
theorem wx (hv:(execOp a.eval o).run P w=.ok (.value v) w) (h:wpList P ops Q rest a' w) (ha:a.put o.dst v=a':=by ((try simp only [Act.put,ja,jb,jc]); rfl)) (hgd:o.guard=none:=by exact rfl):wpList P ops Q (o :: rest) a w:=by
 refine wpList_plain hgd fun K hK=>?_
 unfold Oper.wp
 rw [hv]
 exact hK _ _ (ha ▸ h)
theorem ex (h:wpList P ops Q rest a' w) (hv:(execOp a.eval o).run P w=.ok (.value v) w:=by go_simp) (ha:a.put o.dst v=a':=by ((try simp only [Act.put,ja,jb,jc]); rfl)) (hgd:o.guard=none:=by exact rfl):wpList P ops Q (o :: rest) a w:=wx hv h ha hgd
theorem ww (hv:(execOp a.eval o).run P w=.ok (.value v) w') (h:wpList P ops Q rest a' w') (ha:a.put o.dst v=a':=by ((try simp only [Act.put,ja,jb,jc]); rfl)) (hgd:o.guard=none:=by exact rfl):wpList P ops Q (o :: rest) a w:=by
 refine wpList_plain hgd fun K hK=>?_
 unfold Oper.wp
 rw [hv]
 exact hK _ _ (ha ▸ h)
end
section
variable {P:Program} {md:Region.Mode} {ops:Array Oper} {Q:Exit->Act->World->Prop} {S:World->Prop} {i:Nat} {oi:Oper} {v:Value} {fuel:Nat} {listed:Array Bool} {a a':Act} {w:World}
theorem tk (hS:S w) (hy:∀ w',S w'->(execOp a.eval oi).run P w'=.ok (.value v) w') (h:wpAnyH P md ops Q S fuel (listed.setIfInBounds i true) a' w) (ha:a.put oi.dst v=a':=by ((try simp only [Act.put,ja,jb,jc]); rfl)) (hw:Region.wanted oi (yielded ops a.tmps)=true:=by rfl) (hi:ops[i]?=some oi:=by exact rfl) (hs:Region.noSelect ops=true:=by kernel_rfl)
  (hf:Region.free md ops listed i=true:=by kernel_rfl) (hr:(Region.ready md ops listed).contains i=true:=by kernel_rfl) (hQ:∀ c a w,Q (.panic c) (a.put oi.dst v) w->Q (.panic c) a w:=by exact fun _ _ _ h=>h):wpAnyH P md ops Q S (fuel+1) listed a w:=
 wpAnyH_take hi hs hf hr hQ (Or.inl ⟨hw,hy⟩) hS (ha ▸ h)
theorem tq (hS:S w) (h:wpAnyH P md ops Q S fuel (listed.setIfInBounds i true) a' w) (ha:a.put oi.dst v=a':=by ((try simp only [Act.put,ja,jb,jc]); rfl)) (hy:∀ w',S w'->(execOp a.eval oi).run P w'=.ok (.value v) w':=by (intro w' hSw; go_simp; try with_reducible rfl)) (hw:Region.wanted oi (yielded ops a.tmps)=true:=by rfl) (hi:ops[i]?=some oi:=by exact rfl) (hs:Region.noSelect ops=true:=by kernel_rfl)
  (hf:Region.free md ops listed i=true:=by kernel_rfl) (hr:(Region.ready md ops listed).contains i=true:=by kernel_rfl) (hQ:∀ c a w,Q (.panic c) (a.put oi.dst v) w->Q (.panic c) a w:=by exact fun _ _ _ h=>h):wpAnyH P md ops Q S (fuel+1) listed a w:=
 wpAnyH_take hi hs hf hr hQ (Or.inl ⟨hw,hy⟩) hS (ha ▸ h)
theorem tn (hS:S w) (h:wpAnyH P md ops Q S fuel (listed.setIfInBounds i true) a' w) (ha:a.put oi.dst v=a':=by ((try simp only [Act.put,ja,jb,jc]); rfl)) (hw:Region.wanted oi (yielded ops a.tmps)=false:=by rfl) (hv:v=undef:=by exact rfl) (hi:ops[i]?=some oi:=by exact rfl) (hs:Region.noSelect ops=true:=by kernel_rfl)
  (hf:Region.free md ops listed i=true:=by kernel_rfl) (hr:(Region.ready md ops listed).contains i=true:=by kernel_rfl) (hQ:∀ c a w,Q (.panic c) (a.put oi.dst v) w->Q (.panic c) a w:=by exact fun _ _ _ h=>h):wpAnyH P md ops Q S (fuel+1) listed a w:=
 wpAnyH_take hi hs hf hr hQ (Or.inr ⟨hw,hv⟩) hS (ha ▸ h)
theorem tr {rs:List Nat} (h:AllReadyH P md ops Q S fuel listed a w rs) (hr:Region.ready md ops listed=rs:=by kernel_rfl) (hne:rs≠[]:=by simp):wpAnyH P md ops Q S (fuel+1) listed a w:=wpAnyH_ready hr hne h
end
end Go.Mo
