/- Readings: what a value's reading says of its fields and its elements, whatever the type. AssetsOf, TermOf: counts of a slice's elements. What reads the same: a copy and its original, whatever the type; equality of what is flat. -/
import Derived.Test.YtckcamlicgdklaaGreatN03
import Derived.ProofKit
import Derived.SizedLaws
import Derived.Deep.Grids
import Derived.Lib.SmallJoins
import Derived.Deep.Cut
import Derived.Deep.CutBlock
import Derived.Deep.CutRange
namespace Go.Proofs.YtckcamlicgdklaaGreat
open Go.ChangeShapes Go.WideShapes Go.ChangeAt Go.RowKit Go.Joins Go.Deep Go.Mo
/-- The cells are read as a value of the type, in the world w, and all in it is within reach. -/
def Rd (w:World) (t:TypeId) (cs:List Value):Prop:=
 ∃ (H:Type) (enc:TypeId×Value->H) (fuel:Nat) (y:DataW H×List MemPlace),DataW.trod enc Tryz.prog w 0 (fun _=>true) true fuel t cs=some y/\∀ n∈y.1.weights Tryz.prog t,n<=reachBytes
theorem weightsAll_mem {H:Type} {P:Program} {e:TypeId}:∀ {l:List (DataW H)} {d:DataW H},d∈l->∀ n∈d.weights P e,n∈DataW.weightsAll P e l
|d' :: r,d,hd,n,hn=>by
  simp only [DataW.weightsAll,List.mem_append]
  rcases List.mem_cons.1 hd with rfl|h
  ·exact Or.inl hn
  ·exact Or.inr (weightsAll_mem h n hn)
theorem weightsEach_mem {H:Type} {P:Program}:∀ {ts:List TypeId} {l:List (DataW H)} {j:Nat} {t:TypeId} {d:DataW H},ts[j]?=some t->l[j]?=some d->∀ n∈d.weights P t,n∈DataW.weightsEach P ts l
|[],l,j,t,d,ht,_,n,_=>by simp at ht
|_ :: _,[],j,t,d,_,hd,n,_=>by simp at hd
|t' :: ts,d' :: l,0,t,d,ht,hd,n,hn=>by
  simp at ht hd; subst ht; subst hd
  simp only [DataW.weightsEach,List.mem_append]
  exact .inl hn
|t' :: ts,d' :: l,j+1,t,d,ht,hd,n,hn=>by
  simp only [DataW.weightsEach,List.mem_append]
  exact .inr (weightsEach_mem (by simpa using ht) (by simpa using hd) n hn)
theorem Rd.len {w:World} {t:TypeId} {fs:Array Field} {cs:List Value} (ht:Tryz.prog.underlying t=some (.struct fs)) (h:Rd w t cs):cs.length=Tryz.prog.cellsOf t:=by
 obtain ⟨H,enc,fuel,y,h,_⟩:=h
 obtain ⟨xs,n,_,_,hl,_⟩:=DataW.trod_struct ht h
 exact hl
theorem Rd.field {w:World} {t:TypeId} {fs:Array Field} {cs:List Value} (ht:Tryz.prog.underlying t=some (.struct fs)) (h:Rd w t cs) (i:Nat) (f:Field) (hf:fs[i]?=some f) :
  Rd w f.type ((cs.drop f.offset).take (Tryz.prog.cellsOf f.type)):=by
 obtain ⟨H,enc,fuel,y,h,hw⟩:=h
 obtain ⟨xs,n,_,rfl,hl,hxs,hfs⟩:=DataW.trod_struct ht h
 have h1:=hfs i f hf
 have hi:i<xs.length:=by rw [hxs]; exact (Array.getElem?_eq_some_iff.1 hf).1
 rw [List.getElem?_eq_getElem hi] at h1
 refine ⟨H,enc,n,_,h1,fun m hm=>hw m ?_⟩
 simp only [DataW.weights,ht]
 refine weightsEach_mem (j:=i) (t:=f.type) (d:=(xs[i]).1) ?_ ?_ m hm
 ·rw [List.getElem?_map,Array.getElem?_toList,hf]; rfl
 ·rw [List.getElem?_map,List.getElem?_eq_getElem hi]; rfl
theorem cells_each {w:World} {a:Addr}:∀ {n:Nat} {cs:List Value},w.cells? 0 a n=some cs->cs.length=n/\∀ j u,cs[j]?=some u->w.cell? (a.add j)=some u:=by
 intro n cs h
 simp only [World.cells?,Nat.zero_le,if_true] at h
 have key:∀ (l:List Nat) (cs:List Value),l.mapM (fun i=>w.cell? (a.add i))=some cs->cs.length=l.length/\∀ (j:Nat) (u:Value),cs[j]?=some u->∃ i:Nat,l[j]?=some i/\w.cell? (a.add i)=some u:=by
  intro l
  induction l with
 |nil=>intro cs h; simp at h; subst h; exact ⟨rfl,fun j u h=>by simp at h⟩
 |cons x l ih=>
   intro cs h
   rw [List.mapM_cons] at h
   simp only [Option.bind_eq_bind,Option.bind_eq_some_iff,Option.pure_def,Option.some.injEq] at h
   obtain ⟨c,hc,cs',hcs,rfl⟩:=h
   obtain ⟨i1,i2⟩:=ih cs' hcs
   refine ⟨by simp [i1],fun j u hj=>?_⟩
   cases j with
  |zero=>simp at hj; subst hj; exact ⟨x,rfl,hc⟩
  |succ j=>simpa using i2 j u (by simpa using hj)
 obtain ⟨h1,h2⟩:=key _ _ h
 refine ⟨by simpa using h1,fun j u hj=>?_⟩
 obtain ⟨i,hi,hc⟩:=h2 j u hj
 have:j<n:=by have:=(List.getElem?_eq_some_iff.1 hj).1; rw [h1] at this; simpa using this
 rw [List.getElem?_range this] at hi
 cases hi
 exact hc
theorem Rd.slice {w:World} {t e:TypeId} {n:Nat} {v:Value} (ht:Tryz.prog.underlying t=some (.slice e)) (hc:Tryz.prog.cellsOf e=n) (hn:0<n) (h:Rd w t [v]) :
  ∃ a len cap,v=.slice a len cap/\len * Tryz.prog.bytesOf e<=reachBytes/\(a=none->len=0/\cap=0)/\∀ i,i<len->∃ L off cs,a=some ⟨L,off,none⟩/\L<w.heap.size/\cs.length=n/\Rd w e cs/\∀ j u,cs[j]?=some u->w.cell? ⟨L,off+i * n+j,none⟩=some u:=by
 obtain ⟨H,enc,fuel,y,h,hw⟩:=h
 rcases open_slice ht h with ⟨hcs,hx⟩|⟨a,len,cap,m,k,D,Pl,hcs,_,hl,hm,hmm,hx,hel⟩
 ·simp at hcs
  exact ⟨none,0,0,hcs,by simp,fun _=>⟨rfl,rfl⟩,fun i hi=>by omega⟩
 ·simp at hcs
  simp only [if_true] at hmm
  subst hmm
  rw [hx] at hw
  simp only [DataW.weights,ht,List.mem_cons,List.mem_append] at hw
  refine ⟨some a,len,m,hcs,?_,(fun q=>by cases q),fun i hi=>?_⟩
  ·have:=hw _ (.inl rfl)
   simp only [List.length_map,List.length_range] at this
   have h2:len * Tryz.prog.bytesOf e<=(len+(m - len)) * Tryz.prog.bytesOf e:=Nat.mul_le_mul_right _ (by omega)
   omega
  ·obtain ⟨cs',h1,h2⟩:=hel i (by omega)
   rw [hc] at h1
   obtain ⟨h3,h4⟩:=cells_each h1
   obtain ⟨ct,h10,_⟩:=hel 0 (by omega)
   rw [hc] at h10
   obtain ⟨h5,h6⟩:=cells_each h10
   obtain ⟨L,off,spot⟩:=a
   obtain ⟨u0,hu0⟩:∃ u,ct[0]?=some u:=⟨_,List.getElem?_eq_getElem (by omega)⟩
   have k0:=h6 0 u0 hu0
   have hspot:spot=none:=by
    have:=World.cell?_spot k0
    simpa [Addr.add] using this
   subst hspot
   refine ⟨L,off,cs',rfl,by simpa [Addr.add] using World.block_lt_of_cell? w _ k0,h3,⟨H,enc,k,_,h2,fun q hq=>?_⟩,fun j u hj=>?_⟩
   ·refine hw q (.inr (.inl ?_))
    exact weightsAll_mem (List.mem_map.2 ⟨i,by simp [hi],rfl⟩) q hq
   ·have:=h4 j u hj
    rwa [add0,add0] at this
theorem Rd.int {w:World} {t:TypeId} {k:IntKind} {v:Value} (ht:Tryz.prog.underlying t=some (.int k)) (h:Rd w t [v]):∃ n,v=.int k n/\(Lit.int k n).wf=true:=by
 obtain ⟨H,enc,fuel,y,h,_⟩:=h
 obtain ⟨n,e,_,hw⟩:=DataW.trod_int ht h
 simp at e
 exact ⟨n,e,hw⟩
theorem Rd.bool {w:World} {t:TypeId} {v:Value} (ht:Tryz.prog.underlying t=some .bool) (h:Rd w t [v]):∃ b,v=.bool b:=by
 obtain ⟨H,enc,fuel,y,h,_⟩:=h
 obtain ⟨b,e,_⟩:=DataW.trod_bool ht h
 simp at e
 exact ⟨b,e⟩
theorem Rd.string {w:World} {t:TypeId} {v:Value} (ht:Tryz.prog.underlying t=some .string) (h:Rd w t [v]):∃ s:ByteArray,v=.string s/\s.size<=reachBytes:=by
 obtain ⟨H,enc,fuel,y,h,hw⟩:=h
 obtain ⟨s,e,rfl,hs⟩:=DataW.trod_string ht h
 simp at e
 refine ⟨s,e,?_⟩
 have:=hw s.data.toList.length (by rw [DataW.weights]; exact List.mem_singleton.2 rfl)
 simpa using this
theorem trod_empty {H:Type} {enc:TypeId×Value->H} {w:World} {e:TypeId} {fuel:Nat} {y:DataW H×List MemPlace} (hc:Tryz.prog.cellsOf e=1) (h:DataW.trod enc Tryz.prog w 0 (fun _=>true) true fuel e []=some y):False:=by
 cases fuel with
|zero=>simp [DataW.trod] at h
|succ f=>
  unfold DataW.trod at h
  simp only [hc] at h
  generalize Tryz.prog.underlying e=u at h
  cases u with
 |none=>simp at h
 |some d=>cases d <;> simp at h
theorem Rd.array {w:World} {t e:TypeId} {n:Nat} {cs:List Value} (ht:Tryz.prog.underlying t=some (.array n e)) (hc:Tryz.prog.cellsOf e=1) (h:Rd w t cs):cs.length=Tryz.prog.cellsOf t/\∀ i,i<n->∃ v,cs[i]?=some v/\Rd w e [v]:=by
 obtain ⟨H,enc,fuel,y,h,hw⟩:=h
 obtain ⟨xs,m,_,rfl,hl,hn,hel⟩:=DataW.trod_array ht h
 refine ⟨hl,fun i hi=>?_⟩
 have h1:=hel i hi
 have hix:i<xs.length:=by omega
 rw [List.getElem?_eq_getElem hix,hc] at h1
 simp only [DataW.weights,ht] at hw
 have key:∃ v,((cs.drop (i * 1)).take 1)=[v]/\cs[i]?=some v:=by
  rw [Nat.mul_one]
  cases hq:cs[i]? with
 |none=>
   have:cs.length<=i:=List.getElem?_eq_none_iff.1 hq
   rw [List.drop_eq_nil_of_le (by omega)] at h1
   exfalso
   exact trod_empty hc (by simpa using h1)
 |some v=>
   refine ⟨v,?_,rfl⟩
   obtain ⟨hlt,rfl⟩:=List.getElem?_eq_some_iff.1 hq
   rw [List.drop_eq_getElem_cons hlt]; rfl
 obtain ⟨v,e1,e2⟩:=key
 rw [e1] at h1
 exact ⟨v,e2,H,enc,m,_,h1,fun q hq=>hw q (weightsAll_mem (List.mem_map.2 ⟨_,List.getElem_mem hix,rfl⟩) q hq)⟩
theorem Rd.one {w:World} {t:TypeId} {cs:List Value} {o:Nat} (h:Rd w t ((cs.drop o).take 1)) (hl:o<cs.length):∃ v,cs[o]?=some v/\Rd w t [v]:=by
 refine ⟨cs[o],List.getElem?_eq_getElem hl,?_⟩
 rw [List.drop_eq_getElem_cons hl] at h
 exact h
theorem Rd.fieldAt {w:World} {t:TypeId} {fs:Array Field} {cs:List Value} (ht:Tryz.prog.underlying t=some (.struct fs)) (h:Rd w t cs) (i:Nat) {f:Field} (hf:fs[i]?=some f) (ft:TypeId) (o m:Nat) (h1:f.type=ft) (h2:f.offset=o) (h3:Tryz.prog.cellsOf ft=m) :
  Rd w ft ((cs.drop o).take m):=by
 have:=h.field ht i f hf
 rwa [h1,h2,h3] at this
theorem Rd.cellAt {w:World} {t:TypeId} {fs:Array Field} {cs:List Value} (ht:Tryz.prog.underlying t=some (.struct fs)) (h:Rd w t cs) (i:Nat) {f:Field} (hf:fs[i]?=some f) (ft:TypeId) (o:Nat) (h1:f.type=ft) (h2:f.offset=o) (h3:Tryz.prog.cellsOf ft=1) {n:Nat} (h4:Tryz.prog.cellsOf t=n) (h5:o<n) :
  ∃ v,cs[o]?=some v/\Rd w ft [v]:=
 Rd.one (h.fieldAt ht i hf ft o 1 h1 h2 h3) (by rw [h.len ht,h4]; exact h5)
theorem exec_load_pt (act:Act) (o:Oper) {w:World} (ty:TypeId) (x:Operand) (ho:o.op=.load ty x) (p:Addr) (hx:act.eval x=.pointer (some p)) {v:Value} (h:(loadVar ty p).run Tryz.prog w=.ok v w):(execOp act.eval o).run Tryz.prog w=.ok (.value v) w:=by
 unfold execOp
 simp only [ho,hx,Instr.loadAt,Instr.sureAddr,Sem.run_bind,Sem.run_pure,h,Result.andThen_ok]
theorem sub_get {cs:List Value} {o m j:Nat} {u:Value} (h:((cs.drop o).take m)[j]?=some u):cs[o+j]?=some u:=by
 rw [List.getElem?_take] at h
 split at h
 ·rwa [List.getElem?_drop] at h
 ·cases h
/-- A part of a boxed row, loaded whole. -/
theorem load_box {w:World} {b:Nat} {cs:List Value} {T:TypeId} (h:w.heap[b]?=some (.cells cs.toArray T (0,0))) (ty:TypeId) (o m:Nat) (d:TypeDesc) (hu:Tryz.prog.underlying ty=some d) (hd:d.isRow=true) (hi:(Tryz.prog.info? ty).map (·.size)=some m) (hl:o+m<=cs.length) :
  (loadVar ty ⟨b,o,none⟩).run Tryz.prog w=.ok (.agg ((cs.drop o).take m).toArray) w:=
 run_loadVar_mid w b o ty ((cs.drop o).take m) d (fun j v hv=>by rw [cellB h,List.getElem?_toArray]; exact sub_get hv) hu hd (by rw [hi]; simp; omega)
/-- A part of a row that lies in a block's midst. -/
theorem load_mid {w:World} {L p:Nat} {cs:List Value} (h:∀ j u,cs[j]?=some u->w.cell? ⟨L,p+j,none⟩=some u) (ty:TypeId) (o m:Nat) (d:TypeDesc) (hu:Tryz.prog.underlying ty=some d) (hd:d.isRow=true) (hi:(Tryz.prog.info? ty).map (·.size)=some m) (hl:o+m<=cs.length) :
  (loadVar ty ⟨L,p+o,none⟩).run Tryz.prog w=.ok (.agg ((cs.drop o).take m).toArray) w:=
 run_loadVar_mid w L (p+o) ty ((cs.drop o).take m) d (fun j v hv=>by rw [Nat.add_assoc]; exact h _ _ (sub_get hv)) hu hd (by rw [hi]; simp; omega)
/-- What a count tells: a number that is not below 0 and no more than B, of which R holds. -/
def Cnt (w:World) (B:Int) (R:Int->Prop) (e:Ending) (w':World):Prop:=∃ n:Int,e=.returned (.int .i64 n)/\0<=n/\n<=B/\R n/\Mod N0 w w'
theorem len_of_bytes {len b:Nat} (h:len * b<=reachBytes) (hb:0<b):len<=140737488351232:=by
 have:=Nat.le_mul_of_pos_right len hb
 simp only [reachBytes] at h
 omega
end Go.Proofs.YtckcamlicgdklaaGreat
namespace Go.Proofs.YtckcamlicgdklaaGreat
open Go.RowKit Go.Mo
theorem Tryz.b97:0<Tryz.prog.bytesOf 76:=of_decide_eq_true (by kernel_rfl)
theorem Tryz.c97:Tryz.prog.cellsOf 76=34:=by kernel_rfl
theorem cc41:Tryz.prog.cellsOf 63=1:=by kernel_rfl
theorem cc43:Tryz.prog.cellsOf 65=2:=by kernel_rfl
theorem cc45:Tryz.prog.cellsOf 67=1:=by kernel_rfl
theorem cc47:Tryz.prog.cellsOf 69=1:=by kernel_rfl
theorem cc49:Tryz.prog.cellsOf 71=69:=by kernel_rfl
theorem cc51:Tryz.prog.cellsOf 73=102:=by kernel_rfl
theorem cc112:Tryz.prog.cellsOf 212=5:=by kernel_rfl
theorem cc28:Tryz.prog.cellsOf 28=1:=by kernel_rfl
theorem cc29:Tryz.prog.cellsOf 29=1:=by kernel_rfl
theorem cc33:Tryz.prog.cellsOf 33=1:=by kernel_rfl
theorem cc34:Tryz.prog.cellsOf 34=1:=by kernel_rfl
theorem cc36:Tryz.prog.cellsOf 36=182:=by kernel_rfl
theorem cc70:Tryz.prog.cellsOf 37=1:=by kernel_rfl
theorem cc88:Tryz.prog.cellsOf 78=35:=by kernel_rfl
theorem cc103:Tryz.prog.cellsOf 140=68:=by kernel_rfl
theorem cc106:Tryz.prog.cellsOf 143=5:=by kernel_rfl
theorem cc108:Tryz.prog.cellsOf 145=106:=by kernel_rfl
theorem cc119:Tryz.prog.cellsOf 150=1:=by kernel_rfl
theorem cc38:Tryz.prog.cellsOf 62=33:=by kernel_rfl
theorem cc121:Tryz.prog.cellsOf 152=40:=by kernel_rfl
theorem cc122:Tryz.prog.cellsOf 153=1:=by kernel_rfl
theorem cc123:Tryz.prog.cellsOf 154=1:=by kernel_rfl
theorem cc124:Tryz.prog.cellsOf 155=1:=by kernel_rfl
theorem cc125:Tryz.prog.cellsOf 156=1:=by kernel_rfl
theorem cc127:Tryz.prog.cellsOf 158=45:=by kernel_rfl
theorem cc139:Tryz.prog.cellsOf 248=1:=by kernel_rfl
theorem cc141:Tryz.prog.cellsOf 275=1:=by kernel_rfl
theorem cc144:Tryz.prog.cellsOf 269=5:=by kernel_rfl
theorem cc159:Tryz.prog.cellsOf 257=1:=by kernel_rfl
theorem cc161:Tryz.prog.cellsOf 264=2:=by kernel_rfl
theorem cc170:Tryz.prog.cellsOf 260=4:=by kernel_rfl
theorem cc27:Tryz.prog.cellsOf 27=32:=by kernel_rfl
theorem bb112:0<Tryz.prog.bytesOf 212:=of_decide_eq_true (by kernel_rfl)
theorem bb51:0<Tryz.prog.bytesOf 73:=of_decide_eq_true (by kernel_rfl)
theorem bb49:0<Tryz.prog.bytesOf 71:=of_decide_eq_true (by kernel_rfl)
theorem bb161:0<Tryz.prog.bytesOf 264:=of_decide_eq_true (by kernel_rfl)
theorem bb47:0<Tryz.prog.bytesOf 69:=of_decide_eq_true (by kernel_rfl)
theorem bb127:0<Tryz.prog.bytesOf 158:=of_decide_eq_true (by kernel_rfl)
theorem bb170:0<Tryz.prog.bytesOf 260:=of_decide_eq_true (by kernel_rfl)
theorem bb141:0<Tryz.prog.bytesOf 275:=of_decide_eq_true (by kernel_rfl)
theorem bb144:0<Tryz.prog.bytesOf 269:=of_decide_eq_true (by kernel_rfl)
theorem bb108:0<Tryz.prog.bytesOf 145:=of_decide_eq_true (by kernel_rfl)
theorem bb88:0<Tryz.prog.bytesOf 78:=of_decide_eq_true (by kernel_rfl)
theorem bb38:0<Tryz.prog.bytesOf 62:=of_decide_eq_true (by kernel_rfl)
theorem bb27:0<Tryz.prog.bytesOf 27:=of_decide_eq_true (by kernel_rfl)
theorem ss43:(Tryz.prog.info? 65).map (·.size)=some 2:=by kernel_rfl
theorem ss47:(Tryz.prog.info? 69).map (·.size)=some 1:=by kernel_rfl
theorem ss49:(Tryz.prog.info? 71).map (·.size)=some 69:=by kernel_rfl
theorem ss103:(Tryz.prog.info? 140).map (·.size)=some 68:=by kernel_rfl
theorem ss106:(Tryz.prog.info? 143).map (·.size)=some 5:=by kernel_rfl
theorem ss108:(Tryz.prog.info? 145).map (·.size)=some 106:=by kernel_rfl
theorem ss121:(Tryz.prog.info? 152).map (·.size)=some 40:=by kernel_rfl
theorem ss127:(Tryz.prog.info? 158).map (·.size)=some 45:=by kernel_rfl
theorem ss161:(Tryz.prog.info? 264).map (·.size)=some 2:=by kernel_rfl
theorem ss36:(Tryz.prog.info? 36).map (·.size)=some 182:=by kernel_rfl
theorem wrap_i64 {n:Int} (h0:0<=n) (h1:n<=9000000000000000000):IntKind.i64.wrap n=n:=by
 simp only [IntKind.wrap,IntKind.bits,IntKind.signed]
 simp
 omega
theorem str97 {w:World} {cs:List Value} (h:Rd w 76 cs):∃ s:ByteArray,cs[32]?=some (.string s)/\s.size<=140737488351232:=by
 obtain ⟨v,hv,hr⟩:=h.cellAt Tryz.underlying76 1 rfl 9 32 rfl rfl Tryz.c9 Tryz.c97 (by omega)
 obtain ⟨s,rfl,hs⟩:=hr.string Tryz.underlying9
 exact ⟨s,hv,hs⟩
theorem assetsOf_calls (w0:World) (v:Value) (h:Rd w0 63 [v]) (w:World) (hm:Mod N0 w0 w):Calls Tryz.prog 103 #[v,.int .i64 6000] w fun e w'=>Cnt w 10000000000000 (fun n=>n<=6000->∀ a len c,v=.slice a len c->len<=n) e w':=by
 obtain ⟨a,len,cap,rfl,hb,_,hel⟩:=h.slice Tryz.underlying63 Tryz.c97 (by omega)
 have hlen:=len_of_bytes hb Tryz.b97
 have HE:=hh hel
 have HM:=hh hm
 clear hel hm hb h
 go_enter Tryz.func103,Tryz.ntmps103
 go_wp2_with fail
 go_loopw [5,6] (fun n i wr=>∃ (k:Nat) (z:Int),k<=len/\i=.int .i64 k/\n=.int .i64 z/\k<=z/\z<=10000000000000/\Mod N0 w wr) (fun _ i _=>len - (intOf i).toNat)
 case atStart=>exact ⟨0,0,by omega,rfl,rfl,by omega,by omega,Mod.refl _ w⟩
 case round=>
  obtain ⟨k,z,hk,rfl,rfl,hz0,hz1,hmr⟩:=hrel
  by_cases hlt:k<len
  ·by_cases hz:z<=6000
   ·obtain ⟨L,off,cs,rfl,hL,hcl,hrd,hcs⟩:=HE.out k hlt
    obtain ⟨s,hs,hsz⟩:=str97 hrd
    have hc:wr.cell? ⟨L,off+k * 34+32,none⟩=some (.string s):=(hmr.cell (p:=⟨L,_,none⟩) (Nat.lt_of_lt_of_le hL HM.out.size) (fun q=>q)).trans ((HM.out.cell (p:=⟨L,_,none⟩) hL (fun q=>q)).trans (hcs 32 _ hs))
    have hMR:=hh hmr
    clear hmr hcs hrd hs
    go_wp2_with fail
    go_roundw
    case rel=>exact ⟨k+1,z+1+s.size / 16,by omega,rfl,rfl,by omega,by omega,hMR.out⟩
    case measure=>simp [intOf]; omega
   ·have hMR:=hh hmr
    clear hmr
    go_wp2_with fail
    go_ret
    exact ⟨z,rfl,by omega,by omega,fun q=>by omega,hMR.out⟩
  ·have e:k=len:=by omega
   subst e
   have hMR:=hh hmr
   clear hmr
   go_wp2_with fail
   go_ret
   exact ⟨z,rfl,by omega,by omega,fun _ a' l' c' q=>by simp at q; omega,hMR.out⟩
theorem str112 {w:World} {cs:List Value} (h:Rd w 212 cs):∃ s:ByteArray,cs[3]?=some (.string s)/\s.size<=140737488351232:=by
 obtain ⟨v,hv,hr⟩:=h.cellAt Tryz.underlying212 3 rfl 9 3 rfl rfl Tryz.c9 cc112 (by omega)
 obtain ⟨s,rfl,hs⟩:=hr.string Tryz.underlying9
 exact ⟨s,hv,hs⟩
theorem termOf_calls (w0:World) (cs:List Value) (h:Rd w0 69 cs) (w:World) (hm:Mod N0 w0 w):Calls Tryz.prog 51 #[.agg cs.toArray,.int .i64 6000] w fun e w'=>Cnt w 10000000000000 (fun _=>True) e w':=by
 obtain ⟨v,hv,hr⟩:=h.cellAt Tryz.underlying69 0 rfl 67 0 rfl rfl cc45 cc47 (by omega)
 obtain ⟨a,len,cap,rfl,hb,_,hel⟩:=hr.slice Tryz.underlying67 cc112 (by omega)
 have hlen:=len_of_bytes hb bb112
 obtain ⟨w1,hw1⟩:∃ w1,w.alloc (.cells cs.toArray 69)=w1:=⟨_,rfl⟩
 have hbx:w1.heap[w.heap.size]?=some (.cells cs.toArray 69 (0,0)):=by rw [← hw1]; exact newB w _
 have hm1:Mod N0 w w1:=by rw [← hw1]; exact (Mod.refl _ w).alloc _
 have HB:=hh (fun (W:World) (hW:Mod N0 w1 W)=>(show W.cell? ⟨w.heap.size,0,none⟩=some (.slice a len cap) from (cellB ((hW.block _ (ltB hbx) (fun q=>q)).trans hbx) 0).trans (by rw [List.getElem?_toArray]; exact hv)))
 have HE:=hh hel
 have HM:=hh (hm.tr hm1)
 have HM1:=hh hm1
 clear hel hm hb h hbx hm1 hr hv
 go_enter Tryz.func51,Tryz.ntmps51
 go_wp2_with fail
 go_loopw [5,6] (fun n i wr=>∃ (k:Nat) (z:Int),k<=len/\i=.int .i64 k/\n=.int .i64 z/\0<=z/\z<=10000000000000/\Mod N0 w1 wr) (fun _ i _=>len - (intOf i).toNat)
 case atStart=>exact ⟨0,0,by omega,rfl,rfl,by omega,by omega,Mod.refl _ w1⟩
 case round=>
  obtain ⟨k,z,hk,rfl,rfl,hz0,hz1,hmr⟩:=hrel
  have s0:=HB.out _ hmr
  by_cases hlt:k<len
  ·by_cases hz:z<=6000
   ·obtain ⟨L,off,ds,rfl,hL,hcl,hrd,hcs⟩:=HE.out k hlt
    obtain ⟨s,hs,hsz⟩:=str112 hrd
    have hc:wr.cell? ⟨L,off+k * 5+3,none⟩=some (.string s):=(hmr.cell (p:=⟨L,_,none⟩) (Nat.lt_of_lt_of_le hL HM.out.size) (fun q=>q)).trans ((HM.out.cell (p:=⟨L,_,none⟩) hL (fun q=>q)).trans (hcs 3 _ hs))
    have hMR:=hh hmr
    clear hmr hcs hrd hs
    go_wp2_with fail
    go_roundw
    case rel=>exact ⟨k+1,z+1+s.size / 16,by omega,rfl,rfl,by omega,by omega,hMR.out⟩
    case measure=>simp [intOf]; omega
   ·have hMR:=hh hmr
    clear hmr
    go_wp2_with fail
    go_ret
    exact ⟨z,rfl,by omega,by omega,trivial,HM1.out.tr hMR.out⟩
  ·have e:k=len:=by omega
   subst e
   have hMR:=hh hmr
   clear hmr
   go_wp2_with fail
   go_ret
   exact ⟨z,rfl,by omega,by omega,trivial,HM1.out.tr hMR.out⟩
end Go.Proofs.YtckcamlicgdklaaGreat
namespace Go.Proofs.YtckcamlicgdklaaGreat
open Go.ChangeShapes Go.WideShapes Go.ChangeAt Go.RowKit Go.Joins Go.Deep Go.Mo
/-- Does a value of the type hold slices? -/
def deepT (t:TypeId):Bool:=[36,39,65,69,71,73,140,143,145,152,158,260,264,269,275,33,63,67,150,248,28,29,34,37,153,154,155,156,257].contains t
/-- In the world w the cells cs' (a copy's) read as the cells cs do; the copy's slices lie in blocks of Q. -/
def Eqv (P:Program) (D:TypeId->Bool) (N:Nat) (R:TypeId->List Value->Prop) (Q:Nat->Prop) (w:World):Nat->TypeId->List Value->List Value->Prop
|0,_,_,_=>False
|n+1,t,cs,cs'=>
  if D t=false then cs=cs' else
  match P.underlying t with
 |some (.struct fs)=>cs.length=P.cellsOf t/\cs'.length=P.cellsOf t/\∀ (i:Nat) (f:Field),fs[i]?=some f->Eqv P D N R Q w n f.type ((cs.drop f.offset).take (P.cellsOf f.type)) ((cs'.drop f.offset).take (P.cellsOf f.type))
 |some (.slice e)=>0<P.cellsOf e/\∃ (a a':Option Addr) (len cap cap':Nat),cs=[.slice a len cap]/\cs'=[.slice a' len cap']/\(a'=none->cap'=0)/\∀ i,i<len->∃ (L off:Nat) (ds:List Value) (L' off':Nat) (ds':List Value),a=some ⟨L,off,none⟩/\a'=some ⟨L',off',none⟩/\R e ds/\L<N/\L<w.heap.size/\L'<w.heap.size/\Q L' /\
    ds.length=P.cellsOf e/\ds'.length=P.cellsOf e/\(∀ j u,ds[j]?=some u->w.cell? ⟨L,off+i * P.cellsOf e+j,none⟩=some u)/\(∀ j u,ds'[j]?=some u->w.cell? ⟨L',off'+i * P.cellsOf e+j,none⟩=some u)/\Eqv P D N R Q w n e ds ds'
 |_=>False
theorem Eqv.tr {P:Program} {D:TypeId->Bool} {N:Nat} {R:TypeId->List Value->Prop} {Q Q' S:Nat->Prop} {w w':World} (hm:Mod S w w') (hS:∀ q,S q->N<=q/\¬ Q q) (hQ:∀ q,q<w.heap.size->Q q->Q' q):∀ {n:Nat} {t:TypeId} {cs cs':List Value},Eqv P D N R Q w n t cs cs'->Eqv P D N R Q' w' n t cs cs':=by
 intro n
 induction n with
|zero=>intro t cs cs' h; exact h.elim
|succ n ih=>
  intro t cs cs' h
  rw [Eqv] at h
  rw [Eqv]
  split
  ·rename_i hd
   rw [if_pos hd] at h
   exact h
  ·rename_i hd
   rw [if_neg hd] at h
   split at h
   ·rename_i fs ht
    exact ⟨h.1,h.2.1,fun i f hf=>ih (h.2.2 i f hf)⟩
   ·rename_i e ht
    obtain ⟨hn,a,a',len,cap,cap',h1,h2,h3,hel⟩:=h
    refine ⟨hn,a,a',len,cap,cap',h1,h2,h3,fun i hi=>?_⟩
    obtain ⟨L,off,ds,L',off',ds',ha,ha',hRd,hN,hL,hL',hq,hl,hl',hc,hc',he⟩:=hel i hi
    exact ⟨L,off,ds,L',off',ds',ha,ha',hRd,hN,Nat.lt_of_lt_of_le hL hm.size,Nat.lt_of_lt_of_le hL' hm.size,hQ _ hL' hq,hl,hl',fun j u hu=>(hm.cell (p:=⟨L,_,none⟩) hL (fun q=>by have:=(hS _ q).1; simp only at this; omega)).trans (hc j u hu),fun j u hu=>(hm.cell (p:=⟨L',_,none⟩) hL' (fun q=>(hS _ q).2 hq)).trans (hc' j u hu),ih he⟩
   ·exact h
theorem Eqv.up {P:Program} {D:TypeId->Bool} {N:Nat} {R:TypeId->List Value->Prop} {Q:Nat->Prop} {w:World}:∀ {n:Nat} {t:TypeId} {cs cs':List Value},Eqv P D N R Q w n t cs cs'->Eqv P D N R Q w (n+1) t cs cs':=by
 intro n
 induction n with
|zero=>intro t cs cs' h; exact h.elim
|succ n ih=>
  intro t cs cs' h
  rw [Eqv] at h
  rw [Eqv]
  split
  ·rename_i hd
   rw [if_pos hd] at h
   exact h
  ·rename_i hd
   rw [if_neg hd] at h
   split at h
   ·rename_i fs ht
    exact ⟨h.1,h.2.1,fun i f hf=>ih (h.2.2 i f hf)⟩
   ·rename_i e ht
    obtain ⟨hn,a,a',len,cap,cap',h1,h2,h3,hel⟩:=h
    refine ⟨hn,a,a',len,cap,cap',h1,h2,h3,fun i hi=>?_⟩
    obtain ⟨L,off,ds,L',off',ds',g1,g2,gr,g0,g3,g4,g5,g6,g7,g8,g9,g10⟩:=hel i hi
    exact ⟨L,off,ds,L',off',ds',g1,g2,gr,g0,g3,g4,g5,g6,g7,g8,g9,ih g10⟩
   ·exact h
theorem Eqv.le {P:Program} {D:TypeId->Bool} {N:Nat} {R:TypeId->List Value->Prop} {Q:Nat->Prop} {w:World} {n m:Nat} {t:TypeId} {cs cs':List Value} (h:Eqv P D N R Q w n t cs cs') (hm:n<=m):Eqv P D N R Q w m t cs cs':=by
 obtain ⟨k,rfl⟩:∃ k,m=n+k:=⟨m - n,by omega⟩
 clear hm
 induction k with
|zero=>exact h
|succ k ih=>exact ih.up
theorem Eqv.flat {P:Program} {D:TypeId->Bool} {N:Nat} {R:TypeId->List Value->Prop} {Q:Nat->Prop} {w:World} {n:Nat} {t:TypeId} {cs cs':List Value} (hd:D t=false) (h:Eqv P D N R Q w n t cs cs'):cs'=cs:=by
 cases n with
|zero=>exact h.elim
|succ n=>rw [Eqv,if_pos hd] at h; exact h.symm
theorem Eqv.flatI {P:Program} {D:TypeId->Bool} {N:Nat} {R:TypeId->List Value->Prop} {Q:Nat->Prop} {w:World} (n:Nat) {t:TypeId} {cs:List Value} (hd:D t=false):Eqv P D N R Q w (n+1) t cs cs:=by
 rw [Eqv,if_pos hd]
theorem Eqv.struct {P:Program} {D:TypeId->Bool} {N:Nat} {R:TypeId->List Value->Prop} {Q:Nat->Prop} {w:World} {n:Nat} {t:TypeId} {fs:Array Field} {cs cs':List Value} (hd:D t=true) (ht:P.underlying t=some (.struct fs)) (h:Eqv P D N R Q w n t cs cs') :
  ∃ m,n=m+1/\cs.length=P.cellsOf t/\cs'.length=P.cellsOf t/\∀ (i:Nat) (f:Field),fs[i]?=some f->Eqv P D N R Q w m f.type ((cs.drop f.offset).take (P.cellsOf f.type)) ((cs'.drop f.offset).take (P.cellsOf f.type)):=by
 cases n with
|zero=>exact h.elim
|succ n=>
  rw [Eqv,if_neg (by simp [hd]),ht] at h
  exact ⟨n,rfl,h⟩
theorem Eqv.structI {P:Program} {D:TypeId->Bool} {N:Nat} {R:TypeId->List Value->Prop} {Q:Nat->Prop} {w:World} {n:Nat} {t:TypeId} {fs:Array Field} {cs cs':List Value} (hd:D t=true) (ht:P.underlying t=some (.struct fs)) (h1:cs.length=P.cellsOf t) (h2:cs'.length=P.cellsOf t)
  (h:∀ (i:Nat) (f:Field),fs[i]?=some f->Eqv P D N R Q w n f.type ((cs.drop f.offset).take (P.cellsOf f.type)) ((cs'.drop f.offset).take (P.cellsOf f.type))):Eqv P D N R Q w (n+1) t cs cs':=by
 rw [Eqv,if_neg (by simp [hd]),ht]
 exact ⟨h1,h2,h⟩
theorem Eqv.slice {P:Program} {D:TypeId->Bool} {N:Nat} {R:TypeId->List Value->Prop} {Q:Nat->Prop} {w:World} {n:Nat} {t e:TypeId} {s:Nat} {v v':Value} (hd:D t=true) (ht:P.underlying t=some (.slice e)) (hs:P.cellsOf e=s) (h:Eqv P D N R Q w n t [v] [v']) :
  ∃ m,n=m+1/\∃ (a a':Option Addr) (len cap cap':Nat),v=.slice a len cap/\v'=.slice a' len cap'/\∀ i,i<len->∃ (L off:Nat) (ds:List Value) (L' off':Nat) (ds':List Value),a=some ⟨L,off,none⟩/\a'=some ⟨L',off',none⟩/\R e ds/\L<N/\L<w.heap.size/\L'<w.heap.size/\Q L' /\
    ds.length=s/\ds'.length=s/\(∀ j u,ds[j]?=some u->w.cell? ⟨L,off+i * s+j,none⟩=some u)/\(∀ j u,ds'[j]?=some u->w.cell? ⟨L',off'+i * s+j,none⟩=some u)/\Eqv P D N R Q w m e ds ds':=by
 cases n with
|zero=>exact h.elim
|succ n=>
  rw [Eqv,if_neg (by simp [hd]),ht] at h
  obtain ⟨_,a,a',len,cap,cap',h1,h2,_,hel⟩:=h
  rw [hs] at hel
  exact ⟨n,rfl,a,a',len,cap,cap',by simpa using h1,by simpa using h2,hel⟩
theorem Eqv.sliceN {P:Program} {D:TypeId->Bool} {N:Nat} {R:TypeId->List Value->Prop} {Q:Nat->Prop} {w:World} {n:Nat} {t e:TypeId} {v:Value} {len cap':Nat} (hd:D t=true) (ht:P.underlying t=some (.slice e)) (h:Eqv P D N R Q w n t [v] [.slice none len cap']):cap'=0:=by
 cases n with
|zero=>exact h.elim
|succ n=>
  rw [Eqv,if_neg (by simp [hd]),ht] at h
  obtain ⟨_,a,a',len,cap,cap',h1,h2,h3,_⟩:=h
  simp only [List.cons.injEq,Value.slice.injEq,and_true] at h2
  obtain ⟨rfl,rfl,rfl⟩:=h2
  exact h3 rfl
theorem Eqv.sliceI {P:Program} {D:TypeId->Bool} {N:Nat} {R:TypeId->List Value->Prop} {Q:Nat->Prop} {w:World} {n:Nat} {t e:TypeId} {s:Nat} {a a':Option Addr} {len cap cap':Nat} (hd:D t=true) (ht:P.underlying t=some (.slice e)) (hs:P.cellsOf e=s) (h0:0<s) (hn:a'=none->cap'=0)
  (h:∀ i,i<len->∃ (L off:Nat) (ds:List Value) (L' off':Nat) (ds':List Value),a=some ⟨L,off,none⟩/\a'=some ⟨L',off',none⟩/\R e ds/\L<N/\L<w.heap.size/\L'<w.heap.size/\Q L' /\
    ds.length=s/\ds'.length=s/\(∀ j u,ds[j]?=some u->w.cell? ⟨L,off+i * s+j,none⟩=some u)/\(∀ j u,ds'[j]?=some u->w.cell? ⟨L',off'+i * s+j,none⟩=some u)/\Eqv P D N R Q w n e ds ds'):Eqv P D N R Q w (n+1) t [.slice a len cap] [.slice a' len cap']:=by
 rw [Eqv,if_neg (by simp [hd]),ht]
 refine ⟨by omega,a,a',len,cap,cap',rfl,rfl,hn,?_⟩
 rw [hs]
 exact h
/-! ### Flat values are equal to themselves. -/
theorem mapM_some {α β:Type} {f:α->Option β}:∀ {l:List α},(∀ x∈l,∃ y,f x=some y)->∃ ys,l.mapM f=some ys
|[],_=>⟨[],rfl⟩
|x :: l,h=>by
  obtain ⟨y,hy⟩:=h x (List.mem_cons_self ..)
  obtain ⟨ys,hys⟩:=mapM_some (l:=l) (fun z hz=>h z (List.mem_cons_of_mem _ hz))
  exact ⟨y :: ys,by rw [List.mapM_cons,hy,hys]; rfl⟩
theorem lits_of_trod {H:Type} {enc:TypeId×Value->H} {P:Program} {w:World}:∀ (D fuel:Nat) (t:TypeId) (cs:List Value) (y:DataW H×List MemPlace),P.keyTypeAt D t=true->DataW.trod enc P w 0 (fun _=>true) true fuel t cs=some y->∃ ls,P.keyLits D t cs=some ls:=by
 intro D
 induction D with
|zero=>intro fuel t cs y hk _; simp [Program.keyTypeAt] at hk
|succ D ih=>
  intro fuel t cs y hk h
  unfold Program.keyTypeAt at hk
  unfold Program.keyLits
  cases hu:P.underlying t with
 |none=>rw [hu] at hk; simp at hk
 |some d=>
   rw [hu] at hk
   cases d with
  |bool=>
    obtain ⟨b,rfl,_⟩:=DataW.trod_bool hu h
    exact ⟨_,rfl⟩
  |int k=>
    obtain ⟨n,rfl,_,hw⟩:=DataW.trod_int hu h
    exact ⟨_,by simp only; rw [if_pos ⟨trivial,hw⟩]⟩
  |string=>
    obtain ⟨s,rfl,_,hs⟩:=DataW.trod_string hu h
    exact ⟨_,by simp only; rw [if_pos hs]⟩
  |array n e=>
    obtain ⟨xs,m,_,_,hl,hxn,hel⟩:=DataW.trod_array hu h
    obtain ⟨ys,hys⟩:=mapM_some (l:=List.range n) (f:=fun i=>P.keyLits D e ((cs.drop (i * P.cellsOf e)).take (P.cellsOf e))) (fun i hi=>by
     have h1:=hel i (List.mem_range.1 hi)
     have hix:i<xs.length:=by have:=List.mem_range.1 hi; omega
     rw [List.getElem?_eq_getElem hix] at h1
     exact ih m e _ _ hk h1)
    exact ⟨ys.flatten,by simp only; rw [if_pos hl,hys]; rfl⟩
  |struct fs=>
    obtain ⟨xs,m,_,_,hl,hxn,hel⟩:=DataW.trod_struct hu h
    simp only [Bool.and_eq_true,Array.all_eq_true] at hk
    have hall:∀ (i:Nat) (hi:i<fs.size),(fs[i].name != "_")=true/\P.keyTypeAt D fs[i].type=true:=fun i hi=>by
     have:=hk.1.1 i hi
     simpa using this
    obtain ⟨ys,hys⟩:=mapM_some (l:=fs.toList) (f:=fun f=>P.keyLits D f.type ((cs.drop f.offset).take (P.cellsOf f.type))) (fun f hf=>by
     obtain ⟨i,hi,rfl⟩:=List.getElem_of_mem hf
     have hi':i<fs.size:=by simpa using hi
     have h1:=hel i fs[i] (Array.getElem?_eq_getElem hi')
     have hix:i<xs.length:=by omega
     rw [List.getElem?_eq_getElem hix] at h1
     exact ih m _ _ _ (by simpa using (hall i hi').2) (by simpa using h1))
    refine ⟨ys.flatten,?_⟩
    simp only
    rw [if_pos ⟨hl,by rw [Array.all_eq_true]; exact fun i hi=>(hall i hi).1⟩,hys]
    rfl
  |_=>simp at hk
theorem eq_same {w0 w:World} {t:TypeId} {ds:List Value} (m:Nat) (hm:m<=5) (hk:Tryz.prog.keyTypeAt m t=true) (hf:(Value.agg ds.toArray).formed Tryz.prog t=true) (hr:Rd w0 t ds):(Op.equal t (.agg ds.toArray) (.agg ds.toArray)).run Tryz.prog w=.ok true w:=by
 obtain ⟨H,enc,fuel,y,h,_⟩:=hr
 obtain ⟨ls,hl⟩:=lits_of_trod m fuel t ds y hk h
 have hcs:(Value.agg ds.toArray).cells.toList=ds:=by simp [Value.cells]
 obtain ⟨r,hr,hiff⟩:=run_equalIn_deep (P:=Tryz.prog) (10000 - m) m t hk w m m (.agg ds.toArray) (.agg ds.toArray) ls ls hf hf (by rw [hcs]; exact hl) (by rw [hcs]; exact hl)
 rw [hiff.2 rfl,show 10000 - m+m=10000 by omega] at hr
 exact hr
theorem exec_eql_same (act:Act) (o:Oper) {w0 w:World} {t:TypeId} {x y:Operand} {T:TypeId} (ho:o.op=.binOp .eql t x y T) {ds:List Value} (hx:act.eval x=.agg ds.toArray) (hy:act.eval y=.agg ds.toArray) (m:Nat) (hm:m<=5) (hk:Tryz.prog.keyTypeAt m t=true) (hf:(Value.agg ds.toArray).formed Tryz.prog t=true) (hgt:Tryz.prog.eqGuardType Tryz.prog.depth t=false) (hr:Rd w0 t ds) :
  (execOp act.eval o).run Tryz.prog w=.ok (.value (.bool true)) w:=by
 have h:=eq_same (w:=w) m hm hk hf hr
 unfold execOp
 simp only [ho,hx,hy,Sem.run_bind,Sem.run_pure]
 have hg:(eqGuard .eql t x y (.agg ds.toArray) (.agg ds.toArray)).run Tryz.prog w=.ok () w:=by
  unfold eqGuard
  simp [hgt]
 have hb:(binOp .eql t (.agg ds.toArray) (.agg ds.toArray)).run Tryz.prog w=.ok (.bool true) w:=by
  unfold binOp
  simp [h]
 rw [hg]
 simp only [Result.andThen_ok,hb]
theorem exec_neq_same (act:Act) (o:Oper) {w0 w:World} {t:TypeId} {x y:Operand} {T:TypeId} (ho:o.op=.binOp .neq t x y T) {ds:List Value} (hx:act.eval x=.agg ds.toArray) (hy:act.eval y=.agg ds.toArray) (m:Nat) (hm:m<=5) (hk:Tryz.prog.keyTypeAt m t=true) (hf:(Value.agg ds.toArray).formed Tryz.prog t=true) (hgt:Tryz.prog.eqGuardType Tryz.prog.depth t=false) (hr:Rd w0 t ds) :
  (execOp act.eval o).run Tryz.prog w=.ok (.value (.bool false)) w:=by
 have h:=eq_same (w:=w) m hm hk hf hr
 unfold execOp
 simp only [ho,hx,hy,Sem.run_bind,Sem.run_pure]
 have hg:(eqGuard .neq t x y (.agg ds.toArray) (.agg ds.toArray)).run Tryz.prog w=.ok () w:=by
  unfold eqGuard
  simp [hgt]
 have hb:(binOp .neq t (.agg ds.toArray) (.agg ds.toArray)).run Tryz.prog w=.ok (.bool false) w:=by
  unfold binOp
  simp [h]
 rw [hg]
 simp only [Result.andThen_ok,hb]
abbrev EqX (N:Nat) (w0:World) (Q:Nat->Prop) (w:World):=Eqv Tryz.prog deepT N (Rd w0) Q w
end Go.Proofs.YtckcamlicgdklaaGreat
