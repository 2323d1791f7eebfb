/- Plain laws of the reference's put: its lists are sorted, and of the same sums. -/
import Derived.Test.YtckcamlicgdklaaGreatN42
namespace Go.Proofs.YtckcamlicgdklaaGreat
open Go.RowKit Go.Mo Go.Sort
abbrev Rise (l:Tl):Prop:=l.Pairwise (fun x y=>ltN x.1 y.1)
def ins (x:Nm×Int):Tl->Tl
|[]=>[x]
|y :: l=>if ordN x.1 y.1<0 then x :: y :: l else if ordN x.1 y.1=0 then (y.1,y.2+x.2) :: l else y :: ins x l
theorem fold_done (x:Nm×Int):∀ (l:Tl),(∀ y∈l,ltN x.1 y.1)->∀ s,l.foldl (putStep x) (s,true)=(s ++ l,true)
|[],_,s=>by simp
|y :: l,h,s=>by
  have hy:ordN x.1 y.1<0:=h y (List.mem_cons_self ..)
  rw [List.foldl_cons,show putStep x (s,true) y=(s ++ [y],true) by simp [putStep,hy],fold_done x l (fun z hz=>h z (List.mem_cons_of_mem _ hz))]
  simp
def fin (x:Nm×Int) (r:Tl×Bool):Tl:=if r.2 then r.1 else r.1 ++ [x]
theorem fold_ins (x:Nm×Int):∀ (l:Tl),Rise l->∀ s,fin x (l.foldl (putStep x) (s,false))=s ++ ins x l
|[],_,s=>by simp [fin,ins]
|y :: l,h,s=>by
  unfold Rise at h
  rw [List.pairwise_cons] at h
  rw [List.foldl_cons]
  by_cases h0:ordN x.1 y.1<0
  ·rw [show putStep x (s,false) y=(s ++ [x] ++ [y],true) by simp [putStep,h0],fold_done x l (fun z hz=>ltN_trans (b:=y.1) h0 (h.1 z hz))]
   simp [fin,ins,h0]
  ·by_cases h1:ordN x.1 y.1=0
   ·have e:x.1=y.1:=(ordN_zero _ _).1 h1
    rw [show putStep x (s,false) y=(s ++ [(y.1,y.2+x.2)],true) by simp [putStep,h1],fold_done x l (fun z hz=>by rw [e]; exact h.1 z hz)]
    simp [fin,ins,h1]
   ·rw [show putStep x (s,false) y=(s ++ [y],false) by simp [putStep,h0,h1],fold_ins x l h.2]
    simp [ins,h0,h1]
theorem putL_ins (x:Nm×Int) (l:Tl) (h:Rise l):putL l x=ins x l:=by
 have:=fold_ins x l h []
 rw [List.nil_append] at this
 exact this
theorem ins_keys (x:Nm×Int):∀ (l:Tl) (y:Nm×Int),y∈ins x l->y.1=x.1∨∃ z∈l,z.1=y.1
|[],y,h=>by simp [ins] at h; exact .inl (by rw [h])
|a :: l,y,h=>by
  unfold ins at h
  split at h
  ·rcases List.mem_cons.1 h with e|e
   ·exact .inl (by rw [e])
   ·exact .inr ⟨y,e,rfl⟩
  ·split at h
   ·rcases List.mem_cons.1 h with e|e
    ·exact .inr ⟨a,List.mem_cons_self ..,by rw [e]⟩
    ·exact .inr ⟨y,List.mem_cons_of_mem _ e,rfl⟩
   ·rcases List.mem_cons.1 h with e|e
    ·exact .inr ⟨a,List.mem_cons_self ..,by rw [e]⟩
    ·rcases ins_keys x l y e with q|⟨z,hz,q⟩
     ·exact .inl q
     ·exact .inr ⟨z,List.mem_cons_of_mem _ hz,q⟩
theorem ins_rise (x:Nm×Int):∀ (l:Tl),Rise l->Rise (ins x l)
|[],_=>by simp [ins,Rise]
|y :: l,h=>by
  have h':=h
  unfold Rise at h'
  rw [List.pairwise_cons] at h'
  unfold ins
  split
  ·rename_i h0
   refine List.pairwise_cons.2 ⟨fun z hz=>?_,h⟩
   rcases List.mem_cons.1 hz with e|e
   ·subst e; exact h0
   ·exact ltN_trans (b:=y.1) h0 (h'.1 z e)
  ·split
   ·exact List.pairwise_cons.2 ⟨fun z hz=>h'.1 z hz,h'.2⟩
   ·rename_i h0 h1
    refine List.pairwise_cons.2 ⟨fun z hz=>?_,ins_rise x l h'.2⟩
    have hne:x.1≠y.1:=fun e=>h1 ((ordN_zero _ _).2 e)
    rcases ins_keys x l z hz with e|⟨q,hq,e⟩
    ·rw [e]; exact ltN_total h0 hne
    ·rw [← e]; exact h'.1 q hq
theorem ins_sm (x:Nm×Int) (k:Nm):∀ (l:Tl),sm (ins x l) k=sm l k+(if x.1=k then x.2 else 0)
|[]=>by simp only [ins]; rw [sm_cons,sm_nil]; omega
|y :: l=>by
  unfold ins
  split
  ·rw [sm_cons]; omega
  ·split
   ·rename_i h1
    have e:x.1=y.1:=(ordN_zero _ _).1 h1
    rw [sm_cons,sm_cons,e]
    by_cases hk:y.1=k
    ·simp only [hk,if_true]; omega
    ·simp only [hk,if_false]; omega
   ·rw [sm_cons,sm_cons,ins_sm x k l]; omega
theorem fold_put:∀ (l r:Tl),Rise r->Rise (l.foldl putL r)/\∀ k,sm (l.foldl putL r) k=sm r k+sm l k
|[],r,h=>⟨h,fun k=>by rw [sm_nil]; simp⟩
|x :: l,r,h=>by
  rw [List.foldl_cons,putL_ins x r h]
  obtain ⟨h1,h2⟩:=fold_put l (ins x r) (ins_rise x r h)
  refine ⟨h1,fun k=>?_⟩
  rw [h2,ins_sm,sm_cons]
  omega
theorem sm_mem (k:Nm) (d:Tl) (h:Rise d):(∀ z,(k,z)∈d->sm d k=z)/\((∀ z,(k,z) ∉ d)->sm d k=0):=by
 have hn:d.Pairwise (fun x y=>x.1≠y.1):=h.imp fun {x y} q e=>by rw [e] at q; exact ltN_irrefl _ q
 clear h
 induction d with
|nil=>exact ⟨fun z h=>by simp at h,fun _=>rfl⟩
|cons x d ih=>
  rw [List.pairwise_cons] at hn
  obtain ⟨i1,i2⟩:=ih hn.2
  refine ⟨fun z hz=>?_,fun hz=>?_⟩
  ·rw [sm_cons]
   rcases List.mem_cons.1 hz with e|e
   ·subst e
    rw [i2 (fun z hz=>hn.1 _ hz rfl)]
    simp
   ·rw [i1 z e,if_neg (hn.1 _ e)]
    omega
  ·rw [sm_cons,i2 (fun z q=>hz z (List.mem_cons_of_mem _ q)),if_neg]
   ·omega
   ·intro e
    exact hz x.2 (by rw [← e]; exact List.mem_cons_self ..)
/-- What the reference's Sums and Merge give are the sums by name. -/
theorem tots_put (xs:Tl):Tots (sm xs) ((putAll xs).filter (nzW ·.2)):=by
 obtain ⟨h1,h2⟩:=fold_put xs [] List.Pairwise.nil
 have h2:∀ k,sm (putAll xs) k=sm xs k:=fun k=>by have:=h2 k; rw [sm_nil] at this; unfold putAll; omega
 have h1:Rise (putAll xs):=h1
 refine ⟨h1.filter _,fun k z=>?_⟩
 obtain ⟨i1,i2⟩:=sm_mem k (putAll xs) h1
 rw [List.mem_filter,← h2 k]
 constructor
 ·rintro ⟨ha,hb⟩
  rw [i1 z ha]
  exact ⟨hb,rfl⟩
 ·rintro ⟨ha,rfl⟩
  refine ⟨?_,ha⟩
  apply Classical.byContradiction
  intro hc
  have:∀ z,(k,z) ∉ putAll xs:=fun z hz=>hc (by have:=i1 z hz; rw [this]; exact hz)
  rw [i2 this,nzW_zero] at ha
  cases ha
/-- Of the same names and numbers, both sides' lists are one. -/
theorem tots_both {xs d:Tl} (hp:d.Perm ((bookA [] xs).filter (nzW ·.2))) (hs:srtT d):d.map tN=((putAll xs).filter (nzW ·.2)).map tN:=
 tots_same (tots_book hp hs) (tots_put xs) (fun k=>by simp)
theorem vals_both {vs:List Val} {d:Tl} (hp:d.Perm ((bookV vs).filter (nzW ·.2))) (hs:srtT d):d.map tN=((putAll (vAssets vs)).filter (nzW ·.2)).map tN:=by
 rw [bookV_eq] at hp
 exact tots_both hp hs
/-- Merges of lists that are written alike are written alike. -/
theorem merge_both {f:Nm->Int} {d2 e2 m mint:Tl} (h1:Tots f d2) (h2:Tots f e2) (hp:m.Perm ((bookA [] (d2 ++ mint)).filter (nzW ·.2))) (hs:srtT m):m.map tN=((putAll (e2 ++ mint)).filter (nzW ·.2)).map tN:=by
 refine tots_same (tots_book hp hs) (tots_put _) (fun k=>?_)
 rw [sm_append,sm_append]
 have a:=sm_tots h1 k
 have b:=sm_tots h2 k
 omega
theorem vals_tots {vs:List Val} {d:Tl} (hp:d.Perm ((bookV vs).filter (nzW ·.2))) (hs:srtT d):Tots (sm (vAssets vs)) d:=by
 rw [bookV_eq] at hp
 exact tots_book hp hs
theorem bookV_leA (vs:List Val):(bookV vs).length<=(vAssets vs).length:=by
 rw [bookV_eq]
 have:=bookA_length (vs.flatMap (·.assets)) []
 simpa [vAssets] using this
end Go.Proofs.YtckcamlicgdklaaGreat
