/- Marks of totals: markText, markTotal. Rows of totals that are written over: the plain parts. What holds between the steps of flatTotals. The steps of flatTotals: the row of new marks; operations that make, append, compare. -/
import Derived.Test.YtckcamlicgdklaaGreatN13
import Derived.Laws.IdiomStrings
import Derived.Deep.Cut
import Derived.Deep.CutBlock
import Derived.Test.YtckcamlicgdklaaGreatN25
namespace Go.Proofs.YtckcamlicgdklaaGreat
open Go.RowKit Go.Mo
theorem exec_store_ptB (act:Act) (o:Oper) {w w':World} {T:TypeId} {x y:Operand} (ho:o.op=.store T x y) {p:Addr} (hx:act.eval x=.pointer (some p)) {v:Value} (hy:act.eval y=v) (h:(storeVar T p v).run Tryz.prog w=.ok () w'):(execOp act.eval o).run Tryz.prog w=.ok .skip w':=by
 unfold execOp
 simp only [ho,hx,hy,Instr.storeAt,Instr.sureAddr,Sem.run_bind,Sem.run_pure,h,Result.andThen_ok]
theorem exec_allocB (act:Act) (o:Oper) {w:World} (T:TypeId) (z:Array Value) (ho:o.op=.alloc T) (hz:∀ w,(zeroValue T).run Tryz.prog w=.ok (.agg z) w):(execOp act.eval o).run Tryz.prog w=.ok (.value (.pointer (some ⟨w.heap.size,0,none⟩))) (w.alloc (.cells z T)):=by
 unfold execOp
 simp only [ho,Instr.alloc,Sem.run_bind,hz,Result.andThen_ok]
 simp [newVar,newRow,newObj,Sem.run,Value.cells]
def ofI (z:Int):UInt8:=.ofNat (z % 256).toNat
theorem ofI_v (z:Int):((ofI z).toNat:Int)=z % 256:=by
 simp only [ofI,UInt8.toNat_ofNat']
 have:(z % 256).toNat % 256=(z % 256).toNat:=Nat.mod_eq_of_lt (by omega)
 rw [show (2 ^ 8:Nat)=256 from rfl,this]
 omega
/-- The text of a mark. -/
def mtB (k i:Int):List UInt8:=[35,ofI k,ofI (k / 256),ofI (k / 65536),47,ofI i,ofI (i / 256),ofI (i / 65536)]
theorem mtB_cells (k i:Int):(#[.int .u8 35,.int .u8 (k % 256),.int .u8 (k / 256 % 256),.int .u8 (k / 65536 % 256),.int .u8 47,.int .u8 (i % 256),.int .u8 (i / 256 % 256),.int .u8 (i / 65536 % 256)]:Array Value)=((mtB k i).map by8).toArray:=by
 simp [mtB,by8,ofI_v]
set_option maxRecDepth 100000 in
theorem markText_calls (k i:Int) (w:World):Calls Tryz.prog 129 #[.int .i64 k,.int .i64 i] w fun e w'=>e=.returned (.string ⟨(mtB k i).toArray⟩)/\Mod N0 w w':=by
 have hc:(convert 245 9 (.slice (some ⟨w.heap.size,0,none⟩) 8 8)).run Tryz.prog (w.alloc (.cells #[.int .u8 35,.int .u8 (k % 256),.int .u8 (k / 256 % 256),.int .u8 (k / 65536 % 256),.int .u8 47,.int .u8 (i % 256),.int .u8 (i / 256 % 256),.int .u8 (i / 65536 % 256)] 5))=.ok (.string ⟨(mtB k i).toArray⟩) (w.alloc (.cells #[.int .u8 35,.int .u8 (k % 256),.int .u8 (k / 256 % 256),.int .u8 (k / 65536 % 256),.int .u8 47,.int .u8 (i % 256),.int .u8 (i / 256 % 256),.int .u8 (i / 65536 % 256)] 5)):=by
  refine run_convert_bytes_back (P:=Tryz.prog) _ 245 9 5 ⟨w.heap.size,0,none⟩ 8 (mtB k i) Tryz.underlying245 Tryz.underlying5 Tryz.underlying9 ?_
  intro j hj
  rw [add0,cellB (newB w _),Nat.zero_add,mtB_cells,List.getElem?_toArray,List.getElem?_map,List.getElem?_eq_getElem hj]
  rfl
 have HC:=hh hc
 clear hc
 go_enter Tryz.func129,Tryz.ntmps129
 go_wp2
 rw [HC.out]
 go_wp2
 go_ret
 exact ⟨rfl,(Mod.refl _ w).alloc _⟩
/-- The total that marks place i of row k. -/
def mkT (k i:Nat):Nm×Int:=(⟨List.replicate 32 0,mtB k i,by simp,by simp [mtB,maxLen]⟩,0)
theorem built78m (s:Bs) (h:s.length<=maxLen):Tryz.prog.built 78 [(1,.string ⟨s.toArray⟩)]=some (totCells (⟨List.replicate 32 0,s,by simp,h⟩,0)).toArray:=by
 rw [built_eq88]
 have e1:(#[(0,32),(32,1),(33,2)]:Array (Nat×Nat))[1]?=some (32,1):=rfl
 have hc1:(Value.string ⟨s.toArray⟩).cells=#[.string ⟨s.toArray⟩]:=rfl
 simp only [Instr.fill,e1,hc1]
 have hz:zero88.size=35:=by simp [zero88]
 rw [if_neg (by simp [hz])]
 have hl2:(Array.foldl (fun cs (x:Value×Nat)=>cs.setIfInBounds (32+x.2) x.1) zero88 #[Value.string ⟨s.toArray⟩].zipIdx)=zero88.setIfInBounds 32 (.string ⟨s.toArray⟩):=rfl
 rw [hl2]
 simp [zero88,totCells,nmCells,by8,hiW,loW,List.replicate]
 simp [wrap64]
theorem exec_build78m (act:Act) (o:Oper) {w:World} {b:Operand} (ho:o.op=.build 78 #[(1,b)]) (k i:Nat) (hb:act.eval b=.string ⟨(mtB k i).toArray⟩):(execOp act.eval o).run Tryz.prog w=.ok (.value (.agg (totCells (mkT k i)).toArray)) w:=by
 have h:=run_build (P:=Tryz.prog) w 78 #[(1,.string ⟨(mtB k i).toArray⟩)] _ (built78m (mtB k i) (by simp [mtB,maxLen]))
 unfold execOp
 simp only [ho,List.map_toArray,List.map_cons,List.map_nil,hb,Sem.run_bind,Sem.run_pure,h,Result.andThen_ok]
 rfl
theorem res152 {tmps:Array Value} {b:Nat} {W:World} {v:Value} (ht:tmps[4]?.getD undef=.pointer (some ⟨b,0,none⟩)) (hl:(loadVar 78 ⟨b,0,none⟩).run Tryz.prog W=.ok v W):(results Tryz.f152 tmps).run Tryz.prog W=.ok v W:=by
 simp [results,Tryz.results152,ht,hl,asAddr]
theorem zv78:∃ z:Array Value,(∀ w,(zeroValue 78).run Tryz.prog w=.ok (.agg z) w)/\z.size=35:=⟨_,Tryz.zeroValue78,by kernel_rfl⟩
theorem zs78':(Tryz.prog.info? 78).map (·.size)=some 35:=by kernel_rfl
theorem load78_box {w:World} {b:Nat} {x:Nm×Int} (h:w.heap[b]?=some (.cells (totCells x).toArray 78 (0,0))):(loadVar 78 ⟨b,0,none⟩).run Tryz.prog w=.ok (.agg (totCells x).toArray) w:=
 run_loadVar_mid w b 0 78 (totCells x) _ (fun j u hu=>by rw [Nat.zero_add,cellB h,List.getElem?_toArray,hu]) Tryz.underlying78 rfl (by rw [zs78',totCells_length])
set_option maxRecDepth 100000 in
theorem markTotal_calls (k i:Nat) (w:World):Calls Tryz.prog 152 #[.int .i64 k,.int .i64 i] w fun e w'=>e=.returned (.agg (totCells (mkT k i)).toArray)/\Mod N0 w w':=by
 obtain ⟨z,hzv,hzs⟩:=zv78
 have hA:=newB w (.cells z 78)
 have hm:=(Mod.refl N0 w).alloc (.cells z 78)
 have HZ:=hh hzv
 clear hzv
 go_enter Tryz.func152,Tryz.ntmps152
 go_upto_region 0 with fail
 refine wp_region_lit ?_
 refine ww (exec_allocB _ _ 78 z rfl HZ.out) ?_
 generalize w.alloc (.cells z 78)=w1 at hA hm ⊢
 have HA:=hh hA
 have HM:=hh hm
 clear hA hm
 have HC:=hh (markText_calls k i w1)
 go_wp2_with fail
 refine HC.out.mono ?_
 rintro e w2 ⟨rfl,hm2⟩
 rename_i hK
 refine hK _ _ ?_
 clear hK
 (try simp only [Act.put,ja,jb,jc])
 have hA2:=(hm2.block _ (ltB HA.out) (fun q=>q)).trans HA.out
 have hst:=run_storeVar_row (P:=Tryz.prog) w2 w.heap.size 78 78 z (totCells (mkT k i)).toArray hA2 (by rw [zs78']; simp [totCells_length]) (by rw [hzs]; simp [totCells_length]) (by rw [List.all_toArray,List.all_eq_true]; exact totCells_one _)
 have hR:=setRow_heap w2 w.heap.size z (totCells (mkT k i)).toArray 78 (0,0) hA2
 have hmr:Mod N0 w (w2.setRow w.heap.size (totCells (mkT k i)).toArray):=Mod_setRow (HM.out.tr hm2) (b:=w.heap.size) (fun q=>by omega) _
 refine wx (exec_build78m _ _ rfl k i rfl) ?_
 generalize w2.setRow w.heap.size (totCells (mkT k i)).toArray=w3 at hst hR hmr
 have HR:=hh (And.intro hR hmr)
 have HS:=hh hst
 clear hst hR hmr hA2 hm2 HC
 refine wpList_execS rfl (exec_store_ptB _ _ rfl rfl rfl HS.out) ?_
 (try simp only [Act.put])
 go_wp2_with fail
 refine bodyPost_ret (v:=.agg (totCells (mkT k i)).toArray) (res152 rfl (load78_box HR.out.1)) rfl ?_
 exact ⟨rfl,HR.out.2⟩
end Go.Proofs.YtckcamlicgdklaaGreat
namespace Go.Proofs.YtckcamlicgdklaaGreat
open Go.RowKit Go.Mo Go.Sort
def marks (k n:Nat):List (Nm×Int):=(List.range n).map (mkT k)
/-- Its cells. -/
def MC (k n:Nat):List Value:=totsCells (marks k n)
theorem marks_length (k n:Nat):(marks k n).length=n:=by simp [marks]
theorem MC_length (k n:Nat):(MC k n).length=n * 35:=by rw [MC,totsCells_length,marks_length]
theorem MC_succ (k n:Nat):MC k (n+1)=MC k n ++ totCells (mkT k n):=by
 simp [MC,marks,List.range_succ,totsCells]
theorem MC_zero (k:Nat):MC k 0=[]:=rfl
theorem MC_get (k:Nat):∀ {n i:Nat},i<n->∀ (j:Nat) (u:Value),(totCells (mkT k i))[j]?=some u->(MC k n)[i * 35+j]?=some u
|0,_,h,_,_,_=>absurd h (by omega)
|n+1,i,h,j,u,hu=>by
  have hj:j<35:=by have:=(List.getElem?_eq_some_iff.1 hu).1; rwa [totCells_length] at this
  rw [MC_succ]
  by_cases hi:i<n
  ·rw [List.getElem?_append_left (by rw [MC_length]; omega)]
   exact MC_get k hi j u hu
  ·have e:i=n:=by omega
   subst e
   rw [List.getElem?_append_right (by rw [MC_length]; omega),MC_length,show i * 35+j - i * 35=j by omega]
   exact hu
/-- A total of a row is written over: the row. -/
theorem own_set {w:World} {g n cap:Nat} {X:List Value} (h:w.ownsRow 0 78 35 (.slice (some ⟨g,0,none⟩) n cap) n X) {i:Nat} (hi:i<n) (y:Nm×Int) :
  (storeVar 78 ⟨g,i * 35,none⟩ (.agg (totCells y).toArray)).run Tryz.prog w=.ok () (w.setCells g (i * 35) (totCells y)) /\
  (w.setCells g (i * 35) (totCells y)).ownsRow 0 78 35 (.slice (some ⟨g,0,none⟩) n cap) n (patch X (i * 35) (totCells y)):=by
 obtain ⟨hl,⟨h1,_⟩|⟨g',cap',cur,h1,h2,h3,h4,h5,h6,h7⟩⟩:=h
 ·cases h1
 ·cases h1
  obtain ⟨z,hzv,hz2⟩:=zv78
  have hyl:=totCells_length y
  have hcl:i * 35+(totCells y).length<=cur.toList.length:=by simp; omega
  have h3':w.heap[g]?=some (.cells cur.toList.toArray 78 (0,0)):=by simpa using h3
  refine ⟨?_,?_⟩
  ·exact run_storeVar_mid (P:=Tryz.prog) w g (i * 35) 78 (totCells y).toArray (there_box h3' (by simpa using hcl)) (by rw [zs78']; simp [hyl]) (by rw [List.all_toArray,List.all_eq_true]; exact totCells_one y)
  ·have hb:=setCells_box (totCells y) w cur.toList (i * 35) h3' hcl
   refine ⟨?_,.inr ⟨g,cap,(patch cur.toList (i * 35) (totCells y)).toArray,rfl,Nat.zero_le _,hb,h4,h5,?_,?_⟩⟩
   ·rw [patch_length (by rw [hl]; omega),hl]
   ·rw [List.size_toArray,patch_length hcl,Array.length_toList,h6]
   ·refine List.ext_getElem? fun j=>?_
    rw [List.getElem?_take,patch_get hcl,patch_get (by rw [hl]; omega),← h7,List.getElem?_take]
    repeat' split
    all_goals (first|rfl|(exfalso; omega)|(rw [List.getElem?_eq_none (by omega)]))
theorem patch_MC {X:List Value} {k i:Nat} (h:X.take (i * 35)=MC k i):(patch X (i * 35) (totCells (mkT k i))).take ((i+1) * 35)=MC k (i+1):=by
 have hy:=totCells_length (mkT k i)
 rw [MC_succ,patch,h,List.take_append_of_le_length (by rw [List.length_append,MC_length,hy]; omega),List.take_of_length_le (by rw [List.length_append,MC_length,hy]; omega)]
/-- append to a row of totals: it, and the rows that lie apart or are no longer, stay. -/
theorem append_keep {w:World} {v:Value} {n:Nat} {xs:List Value} (ty:TypeId) (hown:w.ownsRow 0 78 35 v n xs) (a:Addr) (m c:Nat) (news:List Value) (hl:news.length=m * 35)
  (hnews:∀ j u,news[j]?=some u->w.cell? (a.add j)=some u) (h1:∀ u∈news,u.oneCell'=true) (hn:n+m<=2000000) :
  ∃ v' w',(Builtin.append_ #[33,33] ty #[v,.slice (some a) m c]).run Tryz.prog w=.ok v' w'/\w'.ownsRow 0 78 35 v' (n+m) (xs ++ news)/\w.grownBy w' v.ownBlock/\(∀ q,v'.ownBlock=some q->v.ownBlock=some q∨w.heap.size<=q) /\
   ∀ ov n0 xs0,w.ownsRow 0 78 35 ov n0 xs0->(n0<=n∨∀ q,ov.ownBlock=some q->v.ownBlock≠some q)->w'.ownsRow 0 78 35 ov n0 xs0:=by
 obtain ⟨i78,hi,hz0,hz1,hz2⟩:=info_parts info88
 obtain ⟨v',w',hr,k1,k2,_,k3⟩:=run_append_at (P:=Tryz.prog) w 33 ty 78 i78 (.agg zero88) 35 64 Tryz.underlying33 hi hz0 hz1 hz2 (by simp [Value.cells,zero88]) (by decide) v n xs hown a m c news hl hnews h1 (by simp only [maxLen]; omega) (by omega)
 refine ⟨v',w',hr,k1,k2,k3,fun ov n0 xs0 ho hor=>?_⟩
 by_cases hsame:∀ q,ov.ownBlock=some q->v.ownBlock≠some q
 ·exact ownsRow_block ho fun q hq=>k2.block q (ownsRow_lt ho hq) (fun e=>hsame q hq e.symm)
 ·have hn0:n0<=n:=by
   rcases hor with e|e
   ·exact e
   ·exact absurd e hsame
  rcases hown.2 with ⟨rfl,rfl⟩|⟨g,cap,cur,rfl,_,hg,hnc,hcm,hcs,htake⟩
  ·exact absurd (fun _ _ e=>by cases e) hsame
  ·obtain ⟨hol,⟨rfl,rfl⟩|⟨g2,cap2,cur2,rfl,_,hg2,hnc2,hcm2,hcs2,htake2⟩⟩:=ho
   ·exact ⟨hol,.inl ⟨rfl,rfl⟩⟩
   ·have hgg:g2=g:=Classical.byContradiction fun hne=>hsame fun q hq e=>by
     simp only [Value.ownBlock,Option.some.injEq] at hq e
     exact hne (hq.trans e.symm)
    subst hgg
    rw [hg] at hg2
    cases hg2
    by_cases hroom:n+m<=cap
    ·have hfit:n * i78.size+news.length<=cur.size:=by rw [hl,hcs,hz1,← Nat.add_mul]; exact Nat.mul_le_mul_right _ hroom
     have hr2:=run_append_room (P:=Tryz.prog) w 33 ty 78 i78 Tryz.underlying33 hi g2 n cap cur hg a m c news (by rw [hz1]; exact hl) hnews h1 hroom hfit
     rw [hr] at hr2
     cases hr2
     rw [hz1] at *
     refine ⟨hol,.inr ⟨g2,cap2,_,rfl,Nat.zero_le _,setRow_heap _ _ _ _ _ _ hg,hnc2,hcm2,?_,?_⟩⟩
     ·simp
      omega
     ·rw [← htake2]
      refine List.ext_getElem? fun j=>?_
      rw [List.getElem?_take,List.getElem?_take]
      split
      ·rw [List.append_assoc,List.getElem?_append_left (by simp; omega),List.getElem?_take,if_pos (by omega)]
      ·rfl
    ·have holds:∀ j u,xs[j]?=some u->w.cell? ((⟨g2,0,none⟩:Addr).add j)=some u:=hown.cells (g:=g2) rfl
     have hr2:=run_append_grow (P:=Tryz.prog) w 33 ty 78 i78 (.agg zero88) Tryz.underlying33 hi hz0 ⟨g2,0,none⟩ n cap xs (by rw [hz1]; exact hown.1) holds a m c news (by rw [hz1]; exact hl) hnews (by omega) (by omega) (growslice_fits (by omega) (by rw [hz2]; omega))
     rw [hr] at hr2
     cases hr2
     refine ⟨hol,.inr ⟨g2,cap2,cur,rfl,Nat.zero_le _,?_,hnc2,hcm2,hcs2,htake2⟩⟩
     exact allocB (w:=w.drew) (show w.heap[g2]?=_ from hg) _
end Go.Proofs.YtckcamlicgdklaaGreat
namespace Go.Proofs.YtckcamlicgdklaaGreat
open Go.RowKit Go.Mo Go.Sort
theorem own_form {w:World} {B s n:Nat} {e:TypeId} {v:Value} {xs:List Value} (h:w.ownsRow B e s v n xs):∃ a c,v=.slice a n c:=by
 obtain ⟨_,⟨rfl,rfl⟩|⟨g,cap,cur,rfl,_⟩⟩:=h
 ·exact ⟨_,_,rfl⟩
 ·exact ⟨_,_,rfl⟩
theorem own_some {w:World} {B s n i:Nat} {e:TypeId} {v:Value} {xs:List Value} (h:w.ownsRow B e s v n xs) (hi:i<n):∃ g c,v=.slice (some ⟨g,0,none⟩) n c:=by
 obtain ⟨_,⟨rfl,rfl⟩|⟨g,cap,cur,rfl,_⟩⟩:=h
 ·exact absurd hi (by omega)
 ·exact ⟨_,_,rfl⟩
/-- A total of a row is loaded. -/
theorem own_at {w:World} {n i:Nat} {v:Value} {X:List Value} (h:w.ownsRow 0 78 35 v n X) (hi:i<n) {y:Nm×Int} (hX:∀ j u,(totCells y)[j]?=some u->X[i * 35+j]?=some u) :
  ∃ g c,v=.slice (some ⟨g,0,none⟩) n c/\∀ W,Mod N0 w W->(loadVar 78 ⟨g,i * 35,none⟩).run Tryz.prog W=.ok (.agg (totCells y).toArray) W:=by
 obtain ⟨g,c,rfl⟩:=own_some h hi
 refine ⟨g,c,rfl,fun W hW=>?_⟩
 have hg:=ownsRow_lt h (k:=g) rfl
 refine run_loadVar_mid W g (i * 35) 78 (totCells y) _ (fun j u hu=>?_) Tryz.underlying78 rfl (by rw [zs78',totCells_length])
 rw [hW.cell (p:=⟨g,_,none⟩) hg (fun q=>q)]
 have:=World.ownsRow.cells h (g:=g) rfl _ _ (hX j u hu)
 rwa [add0,Nat.zero_add] at this
/-- The rows that are gone through: where they lie. -/
structure Fl (w:World) (H ho K:Nat) (vs:Nat->Value) (ns:Nat->Nat):Prop where
 cell:∀ k,k<K->w.cell? ⟨H,ho+k,none⟩=some (vs k)
 lt:H<w.heap.size
 rows:∀ k,k<K->∃ X,w.ownsRow 0 78 35 (vs k) (ns k) X
 ne:∀ k,k<K->(vs k).ownBlock≠some H
 apart:∀ j k,j<K->k<K->j≠k->∀ b,(vs j).ownBlock=some b->(vs k).ownBlock≠some b
 small:∀ k,k<K->ns k<=900000
 few:K<=1000
def Sb (K:Nat) (vs:Nat->Value):Nat->Prop:=fun b=>∃ j,j<K/\(vs j).ownBlock=some b
theorem Fl.blk {w:World} {H ho K:Nat} {vs:Nat->Value} {ns:Nat->Nat} (h:Fl w H ho K vs ns) {k b:Nat} (hk:k<K) (hb:(vs k).ownBlock=some b):b<w.heap.size:=by
 obtain ⟨X,hX⟩:=h.rows k hk
 exact ownsRow_lt hX hb
theorem Fl.form {w:World} {H ho K:Nat} {vs:Nat->Value} {ns:Nat->Nat} (h:Fl w H ho K vs ns) {k:Nat} (hk:k<K):∃ a c,vs k=.slice a (ns k) c:=by
 obtain ⟨X,hX⟩:=h.rows k hk
 exact own_form hX
theorem Fl.hcell {w wr:World} {H ho K:Nat} {vs:Nat->Value} {ns:Nat->Nat} (h:Fl w H ho K vs ns) {k:Nat} (hk:k<K) (hm:Mod (Sb K vs) w wr):wr.cell? ⟨H,ho+k,none⟩=some (vs k):=
 (hm.cell (p:=⟨H,_,none⟩) h.lt (fun q=>by obtain ⟨j,hj,e⟩:=q; exact h.ne j hj e)).trans (h.cell k hk)
/-- The first loop: rows ahead of k are marked, of k the first i. -/
def P1 (w wr:World) (K:Nat) (vs:Nat->Value) (ns:Nat->Nat) (k i:Nat):Prop:=
 ∃ X:Nat->List Value,(∀ j,j<K->wr.ownsRow 0 78 35 (vs j) (ns j) (X j))/\(∀ j,j<k->j<K->X j=MC j (ns j))/\(k<K->(X k).take (i * 35)=MC k i)/\Mod (Sb K vs) w wr
theorem P1.mod {w wr:World} {K:Nat} {vs:Nat->Value} {ns:Nat->Nat} {k i:Nat} (h:P1 w wr K vs ns k i):Mod (Sb K vs) w wr:=by
 obtain ⟨_,_,_,_,hm⟩:=h
 exact hm
theorem P1.start {w:World} {H ho K:Nat} {vs:Nat->Value} {ns:Nat->Nat} (h:Fl w H ho K vs ns):P1 w w K vs ns 0 0:=by
 refine ⟨fun j=>if hj:j<K then Classical.choose (h.rows j hj) else [],fun j hj=>?_,fun j hj=>by omega,fun _=>by simp [MC_zero],Mod.refl _ w⟩
 simp only [dif_pos hj]
 exact Classical.choose_spec (h.rows j hj)
theorem P1.next {w wr:World} {K:Nat} {vs:Nat->Value} {ns:Nat->Nat} {k:Nat} (h:P1 w wr K vs ns k (ns k)) (hk:k<K):P1 w wr K vs ns (k+1) 0:=by
 obtain ⟨X,h1,h2,h3,hm⟩:=h
 refine ⟨X,h1,fun j hj hjK=>?_,fun _=>by simp [MC_zero],hm⟩
 by_cases e:j=k
 ·subst e
  have:=h3 hk
  rwa [List.take_of_length_le (by rw [(h1 j hjK).1]; omega)] at this
 ·exact h2 j (by omega) hjK
theorem P1.mark {w wr wa:World} {H ho K:Nat} {vs:Nat->Value} {ns:Nat->Nat} {k i:Nat} (hf:Fl w H ho K vs ns) (h:P1 w wr K vs ns k i) (hm:Mod N0 wr wa) (hk:k<K) (hi:i<ns k) {g c:Nat} (hv:vs k=.slice (some ⟨g,0,none⟩) (ns k) c) :
  ∃ w',(storeVar 78 ⟨g,i * 35,none⟩ (.agg (totCells (mkT k i)).toArray)).run Tryz.prog wa=.ok () w'/\P1 w w' K vs ns k (i+1)/\Mod (Sb K vs) wa w':=by
 obtain ⟨X,h1,h2,h3,hm1⟩:=h
 have hr:∀ j,j<K->wa.ownsRow 0 78 35 (vs j) (ns j) (X j):=fun j hj=>ownsRow_block (h1 j hj) fun q hq=>hm.block q (ownsRow_lt (h1 j hj) hq) (fun e=>e)
 have ho:=hr k hk
 rw [hv] at ho
 obtain ⟨hs,ho'⟩:=own_set ho hi (mkT k i)
 have hS:Sb K vs g:=⟨k,hk,by rw [hv]; rfl⟩
 have hm2:Mod (Sb K vs) wa (wa.setCells g (i * 35) (totCells (mkT k i))):=(setCells_mod wa g (totCells (mkT k i)) (i * 35)).weaken (fun b e _=>by subst e; exact hS)
 refine ⟨_,hs,⟨fun j=>if j=k then patch (X k) (i * 35) (totCells (mkT k i)) else X j,fun j hj=>?_,fun j hj hjK=>?_,fun _=>?_,(hm1.tr0 hm).tr hm2⟩,hm2⟩
 ·by_cases e:j=k
  ·subst e
   simp only [if_pos]
   rw [← hv] at ho'
   exact ho'
  ·simp only [if_neg e]
   refine ownsRow_block (hr j hj) fun q hq=>(setCells_mod wa g (totCells (mkT k i)) (i * 35)).block q (ownsRow_lt (hr j hj) hq) (fun e2=>?_)
   subst e2
   exact hf.apart j k hj hk e q hq (by rw [hv]; rfl)
 ·simp only [if_neg (show ¬ j=k by omega)]
  exact h2 j hj hjK
 ·simp only [if_pos]
  exact patch_MC (h3 hk)
/-- The rows are marked; of the rows of appended ones the first k are made. -/
structure P2 (w wr:World) (K:Nat) (vs:Nat->Value) (ns:Nat->Nat) (G base k:Nat) (g:Nat->Value) (Y:Nat->List Value):Prop where
 rows:∀ j,j<K->wr.ownsRow 0 78 35 (vs j) (ns j) (MC j (ns j))
 gs:∀ j,j<k->wr.ownsRow 0 78 35 (g j) (ns j+64) (Y j)
 orig:∀ j,j<k->∀ b,(g j).ownBlock=some b->(vs j).ownBlock=some b∨base<=b
 box:∃ cs:List Value,wr.heap[G]?=some (.cells cs.toArray 33 (0,0))/\cs.length=K/\∀ j,j<k->cs[j]?=some (g j)
 lo:w.heap.size<=G
 hi:G<base
 sz:base<=wr.heap.size
 le:k<=K
 mod:Mod (Sb K vs) w wr
section
variable {w wr wa:World} {H ho K:Nat} {vs:Nat->Value} {ns:Nat->Nat} {G base k:Nat} {g:Nat->Value} {Y:Nat->List Value} {S:Nat->Prop}
theorem P2.move (h:P2 w wr K vs ns G base k g Y) (hm:Mod S wr wa) (h1:∀ b,S b->b<wr.heap.size->(∀ j,j<K->(vs j).ownBlock≠some b)/\(∀ j,j<k->(g j).ownBlock≠some b)/\b≠G/\w.heap.size<=b):P2 w wa K vs ns G base k g Y:=by
 obtain ⟨cs,hb,hl,hc⟩:=h.box
 refine ⟨fun j hj=>?_,fun j hj=>?_,h.orig,⟨cs,?_,hl,hc⟩,h.lo,h.hi,Nat.le_trans h.sz hm.size,h.le,?_⟩
 ·exact ownsRow_block (h.rows j hj) fun q hq=>hm.block q (ownsRow_lt (h.rows j hj) hq) (fun e=>(h1 q e (ownsRow_lt (h.rows j hj) hq)).1 j hj hq)
 ·exact ownsRow_block (h.gs j hj) fun q hq=>hm.block q (ownsRow_lt (h.gs j hj) hq) (fun e=>(h1 q e (ownsRow_lt (h.gs j hj) hq)).2.1 j hj hq)
 ·exact (hm.block G (ltB hb) (fun e=>(h1 G e (ltB hb)).2.2.1 rfl)).trans hb
 ·exact h.mod.trans hm (fun b e hl=>by have:=(h1 b e (Nat.lt_of_lt_of_le hl h.mod.size)).2.2.2; omega)
theorem P2.tr (h:P2 w wr K vs ns G base k g Y) (hm:Mod N0 wr wa):P2 w wa K vs ns G base k g Y:=h.move hm (fun _ e=>e.elim)
/-- Beside that: the row v, that is being appended to. -/
structure Cur (w wr:World) (K:Nat) (vs:Nat->Value) (ns:Nat->Nat) (G base k:Nat) (g:Nat->Value) (Y:Nat->List Value) (v:Value) (n:Nat) (X:List Value):Prop where
 p:P2 w wr K vs ns G base k g Y
 own:wr.ownsRow 0 78 35 v n X
 from_:∀ b,v.ownBlock=some b->(vs k).ownBlock=some b∨base<=b
 away:∀ j,j<k->∀ b,(g j).ownBlock=some b->v.ownBlock≠some b
 lt:k<K
 more:ns k<=n
variable {v:Value} {n:Nat} {X:List Value}
theorem Cur.tr (h:Cur w wr K vs ns G base k g Y v n X) (hm:Mod N0 wr wa):Cur w wa K vs ns G base k g Y v n X:=
 ⟨h.p.tr hm,ownsRow_block h.own fun q hq=>hm.block q (ownsRow_lt h.own hq) (fun e=>e),h.from_,h.away,h.lt,h.more⟩
theorem Cur.start (hf:Fl w H ho K vs ns) (h:P2 w wr K vs ns G base k g Y) (hk:k<K):Cur w wr K vs ns G base k g Y (vs k) (ns k) (MC k (ns k)):=
 ⟨h,h.rows k hk,fun b e=>.inl e,fun j hj b hb e=>by
  rcases h.orig j hj b hb with q|q
  ·exact hf.apart j k (by omega) hk (by omega) b q e
  ·have:=hf.blk hk e
   have:=h.lo
   have:=h.hi
   omega,hk,Nat.le_refl _⟩
theorem Cur.notG (hf:Fl w H ho K vs ns) (h:Cur w wr K vs ns G base k g Y v n X):v.ownBlock≠some G:=fun e=>by
 have h1:=h.p.lo
 have h2:=h.p.hi
 rcases h.from_ G e with q|q
 ·have:=hf.blk h.lt q
  omega
 ·omega
theorem Cur.app (hf:Fl w H ho K vs ns) (h:Cur w wr K vs ns G base k g Y v n X) (ty:TypeId) (a:Addr) (m c:Nat) (news:List Value) (hl:news.length=m * 35) (hnews:∀ j u,news[j]?=some u->wr.cell? (a.add j)=some u) (h1:∀ u∈news,u.oneCell'=true) (hn:n+m<=2000000) :
  ∃ v' w',(Builtin.append_ #[33,33] ty #[v,.slice (some a) m c]).run Tryz.prog wr=.ok v' w'/\Cur w w' K vs ns G base k g Y v' (n+m) (X ++ news):=by
 obtain ⟨v',w',hr,k1,k2,k3,k4⟩:=append_keep ty h.own a m c news hl hnews h1 hn
 obtain ⟨cs,hb,hcl,hc⟩:=h.p.box
 have hG:=h.notG hf
 refine ⟨v',w',hr,⟨fun j hj=>?_,fun j hj=>?_,h.p.orig,⟨cs,?_,hcl,hc⟩,h.p.lo,h.p.hi,Nat.le_trans h.p.sz k2.size,h.p.le,?_⟩,k1,fun b hb=>?_,fun j hj b hb e=>?_,h.lt,by have:=h.more; omega⟩
 ·refine k4 _ _ _ (h.p.rows j hj) ?_
  by_cases e:j=k
  ·subst e
   exact .inl h.more
  ·refine .inr fun q hq e2=>?_
   rcases h.from_ q e2 with z|z
   ·exact hf.apart j k hj h.lt e q hq z
   ·have:=hf.blk hj hq
    have:=h.p.lo
    have:=h.p.hi
    omega
 ·exact k4 _ _ _ (h.p.gs j hj) (.inr fun q hq=>h.away j hj q hq)
 ·exact (k2.block G (ltB hb) (fun e=>hG e.symm)).trans hb
 ·refine h.p.mod.grown k2 fun b e hl=>?_
  rcases h.from_ b e with z|z
  ·exact ⟨k,h.lt,z⟩
  ·have:=h.p.lo
   have:=h.p.hi
   omega
 ·rcases k3 b hb with z|z
  ·exact h.from_ b z
  ·exact .inr (Nat.le_trans h.p.sz z)
 ·rcases k3 b e with z|z
  ·exact h.away j hj b hb z
  ·have:=ownsRow_lt (h.p.gs j hj) hb
   omega
theorem Cur.put (hf:Fl w H ho K vs ns) (h:Cur w wr K vs ns G base k g Y v (ns k+64) X) (hY:Y k=X) :
  ∃ w',(storeVar 33 ⟨G,k,none⟩ v).run Tryz.prog wr=.ok () w'/\P2 w w' K vs ns G base (k+1) (fun j=>if j=k then v else g j) Y:=by
 obtain ⟨cs,hb,hcl,hc⟩:=h.p.box
 have hk:=h.lt
 have hG:=h.notG hf
 obtain ⟨a,c,rfl⟩:=own_form h.own
 have hcell:wr.cell? ⟨G,k,none⟩=some cs[k]:=by rw [cellB hb,List.getElem?_toArray,List.getElem?_eq_getElem (by omega)]
 have hfro:wr.frozen? ⟨G,k,none⟩=false:=frozB hb _
 have hst:(storeVar 33 ⟨G,k,none⟩ (.slice a (ns k+64) c)).run Tryz.prog wr=.ok () (wr.setCell ⟨G,k,none⟩ (.slice a (ns k+64) c)):=by go_simp
 have hbk:∀ {x:Value} {m:Nat} {Z:List Value},wr.ownsRow 0 78 35 x m Z->x.ownBlock≠some G->(wr.setCell ⟨G,k,none⟩ (.slice a (ns k+64) c)).ownsRow 0 78 35 x m Z:=fun hx hne=>ownsRow_block hx fun q hq=>
  ((Mod.refl (fun b=>b=G) wr).setCell (p:=⟨G,k,none⟩) (fun _=>rfl) _).block q (ownsRow_lt hx hq) (fun e=>hne (e ▸ hq))
 refine ⟨_,hst,fun j hj=>?_,fun j hj=>?_,fun j hj b hb'=>?_,⟨cs.set k (.slice a (ns k+64) c),?_,by simp [hcl],fun j hj=>?_⟩,h.p.lo,h.p.hi,?_,by omega,?_⟩
 ·exact hbk (h.p.rows j hj) fun e=>by have:=hf.blk hj e; have:=h.p.lo; omega
 ·by_cases e:j=k
  ·subst e
   simp only [if_pos]
   rw [hY]
   exact hbk h.own hG
  ·simp only [if_neg e]
   refine hbk (h.p.gs j (by omega)) fun e2=>?_
   rcases h.p.orig j (by omega) G e2 with z|z
   ·have:=hf.blk (show j<K by omega) z; have:=h.p.lo; omega
   ·have:=h.p.hi; omega
 ·by_cases e:j=k
  ·subst e
   simp only [if_pos] at hb'
   exact h.from_ b hb'
  ·simp only [if_neg e] at hb'
   exact h.p.orig j (by omega) b hb'
 ·rw [setB hb,List.setIfInBounds_toArray]
 ·rw [List.getElem?_set]
  by_cases e:j=k
  ·subst e
   simp [hcl,hk]
  ·rw [if_neg (fun q=>e q.symm),hc j (by omega)]
   simp only [if_neg e]
 ·simpa using h.p.sz
 ·exact h.p.mod.setCell (fun hl=>by have:=h.p.lo; simp only at hl; omega) _
theorem P2.gcell (h:P2 w wr K vs ns G base k g Y) {j:Nat} (hj:j<k) (hm:Mod N0 wr wa):wa.cell? ⟨G,j,none⟩=some (g j):=by
 obtain ⟨cs,hb,_,hc⟩:=h.box
 rw [hm.cell (p:=⟨G,_,none⟩) (ltB hb) (fun q=>q),cellB hb,List.getElem?_toArray]
 exact hc j hj
end
end Go.Proofs.YtckcamlicgdklaaGreat
namespace Go.Proofs.YtckcamlicgdklaaGreat
open Go.RowKit Go.Mo Go.Sort
theorem load33F {w:World} {p:Addr} {a:Option Addr} {n c:Nat} (h:w.cell? p=some (.slice a n c)):(loadVar 33 p).run Tryz.prog w=.ok (.slice a n c) w:=by
 go_simp
theorem exec_load_ptF (act:Act) (o:Oper) {w:World} (T:TypeId) (x:Operand) (ho:o.op=.load T x) (p:Addr) (hx:act.eval x=.pointer (some p)) {v:Value} (h:(loadVar T p).run Tryz.prog w=.ok v w):(execOp act.eval o).run Tryz.prog w=.ok (.value v) w:=by
 unfold execOp
 simp only [ho,hx,Instr.loadAt,Instr.sureAddr,Sem.run_bind,Sem.run_pure,h,Result.andThen_ok]
theorem exec_app33 (act:Act) (o:Oper) {w w':World} {x y:Operand} (ho:o.op=.call {callee:=.builtin .append,args:=#[x,y],argTypes:=#[33,33]}) {u v r:Value} (hx:act.eval x=u) (hy:act.eval y=v) (h:(Builtin.append_ #[33,33] o.type #[u,v]).run Tryz.prog w=.ok r w'):(execOp act.eval o).run Tryz.prog w=.ok (.value r) w':=by
 unfold execOp
 simp only [ho,resolve,invoke,builtin,Sem.run_bind,Sem.run_pure,Result.andThen_ok,List.map_toArray,List.map_cons,List.map_nil,hx,hy,h]
theorem exec_make (act:Act) (o:Oper) {w w':World} (T:TypeId) {x y:Operand} (ho:o.op=.makeSlice T x y) {u v r:Value} (hx:act.eval x=u) (hy:act.eval y=v) (h:(Instr.makeSlice T u v).run Tryz.prog w=.ok r w'):(execOp act.eval o).run Tryz.prog w=.ok (.value r) w':=by
 unfold execOp
 simp only [ho,hx,hy,Sem.run_bind,Sem.run_pure,h,Result.andThen_ok]
theorem exec_eql78 (act:Act) (o:Oper) {w:World} {a b:Operand} {R:TypeId} (ho:o.op=.binOp .eql 78 a b R) (x:Nm×Int) (hx:act.eval a=.agg (totCells x).toArray) (hy:act.eval b=.agg (totCells x).toArray):(execOp act.eval o).run Tryz.prog w=.ok (.value (.bool true)) w:=by
 have h:=tot_eq x x w
 unfold execOp
 simp only [ho,hx,hy,Sem.run_bind,Sem.run_pure]
 have hgt:Tryz.prog.eqGuardType Tryz.prog.depth 78=false:=by kernel_rfl
 have hg:(eqGuard .eql 78 a b (.agg (totCells x).toArray) (.agg (totCells x).toArray)).run Tryz.prog w=.ok () w:=by
  unfold eqGuard
  simp [hgt]
 have hb:(binOp .eql 78 (.agg (totCells x).toArray) (.agg (totCells x).toArray)).run Tryz.prog w=.ok (.bool true) w:=by
  unfold binOp
  simp [h]
 rw [hg]
 simp only [Result.andThen_ok,hb]
theorem info33F:(Tryz.prog.info? 33).map (fun i=>(i.zero,i.size,i.bytes))=some (some (.slice none 0 0),1,24):=by kernel_rfl
/-- makeSlice of rows: none yet. -/
theorem make_rows (w:World) (n:Nat) (hn:n<=1000):∃ w',(Instr.makeSlice 58 (.int .i64 (n:Int)) (.int .i64 (n:Int))).run Tryz.prog w=.ok (.slice (some ⟨w.heap.size,0,none⟩) n n) w'/\(∃ cs:List Value,w'.heap[w.heap.size]?=some (.cells cs.toArray 33 (0,0))/\cs.length=n)/\w.grownBy w' none:=by
 obtain ⟨i33,hi,hz0,hz1,hz2⟩:=info_parts info33F
 obtain ⟨w',hr,ho,hg⟩:=run_makeSlice_full (P:=Tryz.prog) w 0 58 33 i33 (.slice none 0 0) 1 Tryz.underlying58 hi hz0 hz1 .i64 .i64 n (by omega) (by rw [hz2]; omega) (by simp only [maxLen]; omega) (Nat.zero_le _)
 obtain ⟨_,⟨h1,_⟩|⟨g,cap,cur,h1,_,h3,_,_,h6,_⟩⟩:=ho
 ·cases h1
 ·cases h1
  exact ⟨w',hr,⟨cur.toList,by simpa using h3,by simpa using h6⟩,hg⟩
/-- makeSlice of 64 totals. -/
theorem make_tots (w:World):∃ w' X,(Instr.makeSlice 33 (.int .i64 64) (.int .i64 64)).run Tryz.prog w=.ok (.slice (some ⟨w.heap.size,0,none⟩) 64 64) w'/\w'.ownsRow 0 78 35 (.slice (some ⟨w.heap.size,0,none⟩) 64 64) 64 X/\w.grownBy w' none:=by
 obtain ⟨i78,hi,hz0,hz1,hz2⟩:=info_parts info88
 obtain ⟨w',hr,ho,hg⟩:=run_makeSlice_full (P:=Tryz.prog) w 0 33 78 i78 (.agg zero88) 35 Tryz.underlying33 hi hz0 hz1 .i64 .i64 64 (by omega) (by rw [hz2]; omega) (by simp only [maxLen]; omega) (Nat.zero_le _)
 exact ⟨w',_,hr,ho,hg⟩
theorem Mod.ofGrown {w w':World} (h:w.grownBy w' none):Mod N0 w w':=(Mod.refl N0 w).grown h (fun _ e _=>by cases e)
section
variable {w wr wa:World} {H ho Kn:Nat} {vs:Nat->Value} {ns:Nat->Nat} {G base k:Nat} {g:Nat->Value} {Y:Nat->List Value} {S:Nat->Prop}
theorem P2.start (h:P1 w wr Kn vs ns Kn 0) (hm:Mod N0 wr wa) {cs:List Value} (hb:wa.heap[wr.heap.size]?=some (.cells cs.toArray 33 (0,0))) (hl:cs.length=Kn) (g:Nat->Value) (Y:Nat->List Value):P2 w wa Kn vs ns wr.heap.size wa.heap.size 0 g Y:=by
 obtain ⟨X,h1,h2,_,hm1⟩:=h
 refine ⟨fun j hj=>?_,fun j hj=>absurd hj (by omega),fun j hj=>absurd hj (by omega),⟨cs,hb,hl,fun j hj=>absurd hj (by omega)⟩,hm1.size,ltB hb,Nat.le_refl _,Nat.zero_le _,hm1.tr0 hm⟩
 rw [← h2 j hj hj]
 exact ownsRow_block (h1 j hj) fun q hq=>hm.block q (ownsRow_lt (h1 j hj) hq) (fun e=>e)
theorem P2.zero (h:P2 w wr Kn vs ns G base k g Y) (g':Nat->Value) (Y':Nat->List Value):P2 w wr Kn vs ns G base 0 g' Y':=by
 obtain ⟨cs,hb,hl,_⟩:=h.box
 exact ⟨h.rows,fun j hj=>absurd hj (by omega),fun j hj=>absurd hj (by omega),⟨cs,hb,hl,fun j hj=>absurd hj (by omega)⟩,h.lo,h.hi,h.sz,Nat.zero_le _,h.mod⟩
/-- The block b is none of those that are gone through. -/
def Fr (w:World) (Kn:Nat) (vs:Nat->Value) (G k:Nat) (g:Nat->Value) (b:Nat):Prop:=(∀ j,j<Kn->(vs j).ownBlock≠some b)/\(∀ j,j<k->(g j).ownBlock≠some b)/\b≠G/\w.heap.size<=b
theorem P2.fresh (h:P2 w wr Kn vs ns G base k g Y):Fr w Kn vs G k g wr.heap.size:=by
 obtain ⟨cs,hb,hl,_⟩:=h.box
 refine ⟨fun j hj e=>?_,fun j hj e=>?_,fun e=>?_,h.mod.size⟩
 ·have:=ownsRow_lt (h.rows j hj) e
  omega
 ·have:=ownsRow_lt (h.gs j hj) e
  omega
 ·have:=ltB hb
  omega
/-- Beside the rows: the 64 new marks, of which i are made. -/
structure Mn (w wr:World) (Kn:Nat) (vs:Nat->Value) (ns:Nat->Nat) (G base k:Nat) (g:Nat->Value) (Y:Nat->List Value) (M i:Nat):Prop where
 p:P2 w wr Kn vs ns G base k g Y
 own:∃ X,wr.ownsRow 0 78 35 (.slice (some ⟨M,0,none⟩) 64 64) 64 X/\X.take (i * 35)=MC (k+Kn) i
 fr:Fr w Kn vs G k g M
variable {M i:Nat}
theorem Mn.start (h:P2 w wr Kn vs ns G base k g Y) (hm:Mod N0 wr wa) {X:List Value} (ho:wa.ownsRow 0 78 35 (.slice (some ⟨wr.heap.size,0,none⟩) 64 64) 64 X):Mn w wa Kn vs ns G base k g Y wr.heap.size 0:=
 ⟨h.tr hm,⟨X,ho,by simp [MC_zero]⟩,h.fresh⟩
theorem Mn.mark (h:Mn w wr Kn vs ns G base k g Y M i) (hm:Mod N0 wr wa) (hi:i<64) :
  ∃ w',(storeVar 78 ⟨M,i * 35,none⟩ (.agg (totCells (mkT (k+Kn) i)).toArray)).run Tryz.prog wa=.ok () w'/\Mn w w' Kn vs ns G base k g Y M (i+1):=by
 obtain ⟨X,ho,hX⟩:=h.own
 have ho2:wa.ownsRow 0 78 35 (.slice (some ⟨M,0,none⟩) 64 64) 64 X:=ownsRow_block ho fun q hq=>hm.block q (ownsRow_lt ho hq) (fun e=>e)
 obtain ⟨hs,ho'⟩:=own_set ho2 hi (mkT (k+Kn) i)
 have hm2:=setCells_mod wa M (totCells (mkT (k+Kn) i)) (i * 35)
 refine ⟨_,hs,(h.p.tr hm).move hm2 (fun b e _=>?_),⟨_,ho',patch_MC hX⟩,h.fr⟩
 subst e
 exact h.fr
theorem Mn.done (h:Mn w wr Kn vs ns G base k g Y M 64):wr.ownsRow 0 78 35 (.slice (some ⟨M,0,none⟩) 64 64) 64 (MC (k+Kn) 64):=by
 obtain ⟨X,ho,hX⟩:=h.own
 rw [List.take_of_length_le (by rw [ho.1]; omega)] at hX
 rw [← hX]
 exact ho
theorem MC_one (k n:Nat):∀ u∈MC k n,u.oneCell'=true:=by
 intro u hu
 obtain ⟨x,_,hx⟩:=List.mem_flatMap.1 hu
 exact totCells_one x u hx
/-- What is appended in the fourth loop. -/
theorem Mn.app (hf:Fl w H ho Kn vs ns) (h:Mn w wr Kn vs ns G base k g Y M 64) (hk:k<Kn) (ty:TypeId) :
  ∃ v' w',(Builtin.append_ #[33,33] ty #[vs k,.slice (some ⟨M,0,none⟩) 64 64]).run Tryz.prog wr=.ok v' w'/\Cur w w' Kn vs ns G base k g Y v' (ns k+64) (MC k (ns k) ++ MC (k+Kn) 64):=
 (Cur.start hf h.p hk).app hf ty ⟨M,0,none⟩ 64 64 (MC (k+Kn) 64) (by rw [MC_length]) (World.ownsRow.cells h.done (g:=M) rfl) (MC_one _ _) (by have:=hf.small k hk; omega)
/-- What is appended in the second loop: one mark. -/
theorem Cur.push {v:Value} {m:Nat} (hf:Fl w H ho Kn vs ns) (h:Cur w wr Kn vs ns G base k g Y v (ns k+m) (MC k (ns k+m))) (hm:m<64) (ty:TypeId) :
  ∃ v' w',(Builtin.append_ #[33,33] ty #[v,.slice (some ⟨wr.heap.size,0,none⟩) 1 1]).run Tryz.prog (wr.alloc (.cells (totCells (mkT k (ns k+m))).toArray 78))=.ok v' w'/\Cur w w' Kn vs ns G base k g Y v' (ns k+(m+1)) (MC k (ns k+(m+1))):=by
 have h1:=h.tr ((Mod.refl N0 wr).alloc (.cells (totCells (mkT k (ns k+m))).toArray 78))
 obtain ⟨v',w',hr,hc⟩:=h1.app hf ty ⟨wr.heap.size,0,none⟩ 1 1 (totCells (mkT k (ns k+m))) (by rw [totCells_length]) (fun j u hu=>by rw [add0,Nat.zero_add,cellB (newB wr _),List.getElem?_toArray]; exact hu) (totCells_one _) (by have:=hf.small k h.lt; omega)
 rw [← MC_succ] at hc
 exact ⟨v',w',hr,hc⟩
end
end Go.Proofs.YtckcamlicgdklaaGreat
