/- Plain laws of totals: sums by name, sorted lists of them. Plain laws of TotalsParts: the parts of a state by its addresses. -/
import Derived.Test.YtckcamlicgdklaaGreatN13
import Derived.Test.YtckcamlicgdklaaGreatN07
import Derived.Test.YtckcamlicgdklaaGreatN11
namespace Go.Proofs.YtckcamlicgdklaaGreat
open Go.RowKit Go.Mo Go.Sort
def sm (l:List (Nm×Int)) (k:Nm):Int:=((l.filter fun x=>decide (x.1=k)).map (·.2)).sum
theorem sm_nil (k:Nm):sm [] k=0:=rfl
theorem sm_cons (x:Nm×Int) (l:List (Nm×Int)) (k:Nm):sm (x :: l) k=(if x.1=k then x.2 else 0)+sm l k:=by
 unfold sm
 by_cases h:x.1=k <;> simp [h]
theorem sm_append (a b:List (Nm×Int)) (k:Nm):sm (a ++ b) k=sm a k+sm b k:=by
 unfold sm; simp
theorem lkN_upN {α:Type} (k q:Nm) (v:α):∀ l:List (Nm×α),lkN (upN l k v) q=if k=q then some v else lkN l q
|[]=>by simp [upN,lkN]
|x :: r=>by
  have ih:=lkN_upN k q v r
  unfold upN
  by_cases h:x.1=k
  ·subst h
   simp only [if_true,lkN]
   by_cases h2:x.1=q <;> simp [h2]
  ·simp only [if_neg h,lkN,ih]
   by_cases h2:x.1=q
   ·subst h2; simp [Ne.symm h]
   ·simp [h2]
theorem upN_keys {α:Type} (k:Nm) (v:α):∀ l:List (Nm×α),∀ q,q∈(upN l k v).map (·.1) ↔ q=k∨q∈l.map (·.1)
|[],q=>by simp [upN]
|x :: r,q=>by
  have ih:=upN_keys k v r q
  unfold upN
  by_cases h:x.1=k
  ·subst h
   simp
  ·simp only [if_neg h,List.map_cons,List.mem_cons,ih]
   constructor
   ·rintro (h|h|h)
    ·exact .inr (.inl h)
    ·exact .inl h
    ·exact .inr (.inr h)
   ·rintro (h|h|h)
    ·exact .inr (.inl h)
    ·exact .inl h
    ·exact .inr (.inr h)
theorem upN_nodup {α:Type} (k:Nm) (v:α):∀ l:List (Nm×α),(l.map (·.1)).Nodup->((upN l k v).map (·.1)).Nodup
|[],_=>by simp [upN]
|x :: r,hn=>by
  rw [List.map_cons,List.nodup_cons] at hn
  have ih:=upN_nodup k v r hn.2
  unfold upN
  by_cases h:x.1=k
  ·subst h
   simp only [if_true,List.map_cons,List.nodup_cons]
   exact hn
  ·simp only [if_neg h,List.map_cons,List.nodup_cons]
   refine ⟨fun q=>?_,ih⟩
   rcases (upN_keys k v r x.1).1 q with e|e
   ·exact h e
   ·exact hn.1 e
theorem upN_length {α:Type} (k:Nm) (v:α):∀ l:List (Nm×α),(upN l k v).length<=l.length+1
|[]=>by simp [upN]
|x :: r=>by
  have ih:=upN_length k v r
  unfold upN
  by_cases h:x.1=k <;> simp [h] <;> omega
theorem bookA_length:∀ (xs l:List (Nm×Int)),(bookA l xs).length<=l.length+xs.length
|[],l=>by simp [bookA]
|x :: xs,l=>by
  have ih:=bookA_length xs (upN l x.1 (getW l x.1+x.2))
  have h:=upN_length x.1 (getW l x.1+x.2) l
  simp only [bookA,List.foldl_cons,List.length_cons] at *
  omega
theorem bookA_nodup:∀ (xs l:List (Nm×Int)),(l.map (·.1)).Nodup->((bookA l xs).map (·.1)).Nodup
|[],l,h=>by simpa [bookA] using h
|x :: xs,l,h=>by
  have ih:=bookA_nodup xs (upN l x.1 (getW l x.1+x.2)) (upN_nodup _ _ l h)
  simpa [bookA] using ih
theorem bookA_get (k:Nm):∀ (xs l:List (Nm×Int)),getW (bookA l xs) k=getW l k+sm xs k
|[],l=>by simp [bookA,sm_nil]
|x :: xs,l=>by
  have ih:=bookA_get k xs (upN l x.1 (getW l x.1+x.2))
  simp only [bookA,List.foldl_cons] at ih ⊢
  rw [ih,sm_cons]
  have:getW (upN l x.1 (getW l x.1+x.2)) k=getW l k+(if x.1=k then x.2 else 0):=by
   unfold getW
   rw [lkN_upN]
   by_cases h:x.1=k
   ·subst h; simp
   ·simp [h]
  omega
theorem bookV_eq (vs:List Val):bookV vs=bookA [] (vs.flatMap (·.assets)):=by
 have:∀ (vs:List Val) l,vs.foldl (fun l v=>bookA l v.assets) l=bookA l (vs.flatMap (·.assets)):=by
  intro vs
  induction vs with
 |nil=>intro l; simp [bookA]
 |cons v vs ih=>intro l; simp only [List.foldl_cons,ih,List.flatMap_cons]; simp [bookA,List.foldl_append]
 exact this vs []
theorem lk_of_mem {α:Type}:∀ (l:List (Nm×α)),(l.map (·.1)).Nodup->∀ k z,(k,z)∈l->lkN l k=some z
|[],_,k,z,h=>by simp at h
|x :: r,hn,k,z,h=>by
  rw [List.map_cons,List.nodup_cons] at hn
  rcases List.mem_cons.1 h with e|e
  ·subst e; simp [lkN]
  ·have:x.1≠k:=fun q=>hn.1 (by rw [q]; exact List.mem_map.2 ⟨_,e,rfl⟩)
   simp only [lkN,if_neg this]
   exact lk_of_mem r hn.2 k z e
theorem mem_of_lk {α:Type}:∀ (l:List (Nm×α)) k z,lkN l k=some z->(k,z)∈l
|[],k,z,h=>by simp [lkN] at h
|x :: r,k,z,h=>by
  simp only [lkN] at h
  split at h
  ·rename_i e; cases h; subst e; exact List.mem_cons_self ..
  ·exact List.mem_cons_of_mem _ (mem_of_lk r k z h)
theorem nzW_zero:nzW 0=false:=by simp [nzW,hiW,loW,wrap64]
theorem nz_iff (z:Int):nzW z=false ↔ z % 340282366920938463463374607431768211456=0:=by
 have h:nzW z=false ↔ (hiW z=0/\loW z=0):=by simp [nzW]
 rw [h]
 unfold hiW loW wrap64
 constructor
 ·rintro ⟨h1,h2⟩; omega
 ·intro h1; constructor <;> omega
theorem hi_cong {a b:Int} (h:(a - b) % 340282366920938463463374607431768211456=0):hiW a=hiW b:=by
 unfold hiW wrap64; omega
theorem lo_cong {a b:Int} (h:(a - b) % 340282366920938463463374607431768211456=0):loW a=loW b:=by
 unfold loW; omega
theorem nz_cong {a b:Int} (h:(a - b) % 340282366920938463463374607431768211456=0):nzW a=nzW b:=by
 simp only [nzW,hi_cong h,lo_cong h]
/-- A list of totals that are the sums f, rising, none of 0. -/
structure Tots (f:Nm->Int) (d:List (Nm×Int)):Prop where
 srt:d.Pairwise (fun x y=>ltN x.1 y.1)
 mem:∀ k z,(k,z)∈d ↔ nzW (f k)=true/\z=f k
theorem tots_book {xs d:List (Nm×Int)} (hp:d.Perm ((bookA [] xs).filter (nzW ·.2))) (hs:srtT d):Tots (sm xs) d:=by
 have hn:((bookA [] xs).map (·.1)).Nodup:=bookA_nodup xs [] (by simp)
 have hdn:(d.map (·.1)).Nodup:=((hp.map (·.1)).nodup_iff).2 (hn.sublist ((List.filter_sublist).map _))
 have hg:∀ k,getW (bookA [] xs) k=sm xs k:=fun k=>by rw [bookA_get]; simp [getW,lkN]
 refine ⟨?_,fun k z=>?_⟩
 ·have h1:d.Pairwise (fun x y=>x.1≠y.1):=List.pairwise_map.1 hdn
  refine (hs.and h1).imp fun {x y} h=>?_
  exact ltN_total h.1 (fun e=>h.2 e.symm)
 ·rw [hp.mem_iff,List.mem_filter]
  constructor
  ·rintro ⟨h1,h2⟩
   have h3:=lk_of_mem _ hn _ _ h1
   have h4:sm xs k=z:=by rw [← hg]; simp [getW,h3]
   rw [h4]
   exact ⟨h2,rfl⟩
  ·rintro ⟨h1,rfl⟩
   refine ⟨?_,h1⟩
   have h3:=hg k
   unfold getW at h3
   cases h:lkN (bookA [] xs) k with
  |none=>
    rw [h] at h3
    simp at h3
    rw [← h3,nzW_zero] at h1
    cases h1
  |some z=>
    rw [h] at h3
    simp at h3
    rw [← h3]
    exact mem_of_lk _ _ _ h
theorem sorted_ext {α:Type} {R:α->α->Prop} (hi:∀ a,¬ R a a) (ht:∀ {a b c},R a b->R b c->R a c):∀ {l m:List α},l.Pairwise R->m.Pairwise R->(∀ x,x∈l ↔ x∈m)->l=m
|[],[],_,_,_=>rfl
|[],y :: m,_,_,h=>by have:=(h y).2 (List.mem_cons_self ..); simp at this
|x :: l,[],_,_,h=>by have:=(h x).1 (List.mem_cons_self ..); simp at this
|x :: l,y :: m,hl,hm,h=>by
  rw [List.pairwise_cons] at hl hm
  have e:x=y:=by
   rcases List.mem_cons.1 ((h x).1 (List.mem_cons_self ..)) with e|e
   ·exact e
   ·rcases List.mem_cons.1 ((h y).2 (List.mem_cons_self ..)) with e2|e2
    ·exact e2.symm
    ·exact absurd (ht (hl.1 _ e2) (hm.1 _ e)) (hi x)
  subst e
  congr 1
  refine sorted_ext hi ht hl.2 hm.2 fun z=>?_
  constructor
  ·intro hz
   rcases List.mem_cons.1 ((h z).1 (List.mem_cons_of_mem _ hz)) with e|e
   ·subst e; exact absurd (hl.1 _ hz) (hi _)
   ·exact e
  ·intro hz
   rcases List.mem_cons.1 ((h z).2 (List.mem_cons_of_mem _ hz)) with e|e
   ·subst e; exact absurd (hm.1 _ hz) (hi _)
   ·exact e
def cong (f g:Nm->Int):Prop:=∀ k,(f k - g k) % 340282366920938463463374607431768211456=0
theorem tots_same {f g:Nm->Int} {d d':List (Nm×Int)} (h:Tots f d) (h':Tots g d') (hc:cong f g):d.map tN=d'.map tN:=by
 have key:∀ {f g:Nm->Int} {d d':List (Nm×Int)},Tots f d->Tots g d'->cong f g->∀ x,x∈d.map tN->x∈d'.map tN:=by
  intro f g d d' h h' hc x hx
  obtain ⟨⟨k,z⟩,hm,rfl⟩:=List.mem_map.1 hx
  obtain ⟨h1,rfl⟩:=(h.mem k z).1 hm
  refine List.mem_map.2 ⟨(k,g k),(h'.mem k _).2 ⟨by rw [← nz_cong (hc k)]; exact h1,rfl⟩,?_⟩
  simp [tN,hi_cong (hc k),lo_cong (hc k)]
 refine sorted_ext (R:=fun x y=>ltN x.1 y.1) (fun a=>ltN_irrefl a.1) (fun {a b c} h k=>ltN_trans (a:=a.1) (b:=b.1) (c:=c.1) h k) ?_ ?_ fun x=>⟨key h h' hc x,key h' h (fun k=>?_) x⟩
 ·exact List.pairwise_map.2 h.srt
 ·exact List.pairwise_map.2 h'.srt
 ·have:=hc k; omega
theorem sm_tots {f:Nm->Int} {d:List (Nm×Int)} (h:Tots f d):cong (sm d) f:=by
 intro k
 have hn:d.Pairwise (fun x y=>x.1≠y.1):=h.srt.imp fun {x y} q e=>by rw [e] at q; exact ltN_irrefl _ q
 have h1:∀ d:List (Nm×Int),d.Pairwise (fun x y=>x.1≠y.1)->(∀ z,(k,z)∈d->sm d k=z)/\((∀ z,(k,z) ∉ d)->sm d k=0):=by
  intro d
  induction d with
 |nil=>intro _; exact ⟨fun z h=>by simp at h,fun _=>rfl⟩
 |cons x d ih=>
   intro hp
   rw [List.pairwise_cons] at hp
   obtain ⟨i1,i2⟩:=ih hp.2
   refine ⟨fun z hz=>?_,fun hz=>?_⟩
   ·rw [sm_cons]
    rcases List.mem_cons.1 hz with e|e
    ·subst e
     rw [i2 (fun z hz=>hp.1 _ hz rfl)]
     simp
    ·rw [i1 z e,if_neg (hp.1 _ e)]
     omega
   ·rw [sm_cons,i2 (fun z q=>hz z (List.mem_cons_of_mem _ q)),if_neg]
    ·omega
    ·intro e
     exact hz x.2 (by rw [← e]; exact List.mem_cons_self ..)
 obtain ⟨i1,i2⟩:=h1 d hn
 by_cases hz:nzW (f k)=true
 ·rw [i1 (f k) ((h.mem k _).2 ⟨hz,rfl⟩)]
  simp
 ·rw [i2 (fun z q=>hz ((h.mem k z).1 q).1)]
  have:=(nz_iff (f k)).1 (by simpa using hz)
  omega
theorem tots_length {xs d:List (Nm×Int)} (hp:d.Perm ((bookA [] xs).filter (nzW ·.2))):d.length<=xs.length:=by
 rw [hp.length_eq]
 have h1:=bookA_length xs []
 have h2:=List.length_filter_le (fun x:Nm×Int=>nzW x.2) (bookA [] xs)
 simp at h1
 omega
end Go.Proofs.YtckcamlicgdklaaGreat
namespace Go.Proofs.YtckcamlicgdklaaGreat
open Go.RowKit Go.Mo Go.Sort
def ofA (es:List Ent) (a:Adr):List Ent:=es.filter fun x=>decide (x.addr=a)
def assetsOf (es:List Ent):List (Nm×Int):=es.flatMap (·.val.assets)
theorem flat_val (es:List Ent):(es.map (·.val)).flatMap (·.assets)=assetsOf es:=by
 simp [assetsOf,List.flatMap_map]
/-- The rows of some addresses: each one's sums. -/
def RowsOf (es:List Ent) (S:List Adr) (rows:List (List (Nm×Int))):Prop:=
 rows.length=S.length/\∀ (i:Nat) (a:Adr) (d:List (Nm×Int)),S[i]?=some a->rows[i]?=some d->d.Perm ((bookV ((ofA es a).map (·.val))).filter (nzW ·.2))/\srtT d
theorem RowsOf.nil (es:List Ent):RowsOf es [] []:=⟨rfl,fun i a d h=>by simp at h⟩
end Go.Proofs.YtckcamlicgdklaaGreat
