/- Plain laws of TotalsParts: the parts of a state by its addresses. -/
import Derived.Test.YtckcamlicgdklaaPlT
import Derived.Test.YtckcamlicgdklaaTpO
namespace Go.Proofs.Ytckcamlicgdklaa
open Go.RowKit Go.Mo Go.Sort

def addrs (es : List Ent) : List Adr := es.foldl (fun s x => if x.addr ∈ s then s else s ++ [x.addr]) []
def ofA (es : List Ent) (a : Adr) : List Ent := es.filter fun x => decide (x.addr = a)
def assetsOf (es : List Ent) : List (Nm × Int) := es.flatMap (·.val.assets)
theorem addrs_snoc {es : List Ent} {k : Nat} {x : Ent} (h : es[k]? = some x) : addrs (es.take (k + 1)) = if x.addr ∈ addrs (es.take k) then addrs (es.take k) else addrs (es.take k) ++ [x.addr] := by
  rw [List.take_add_one, h]
  unfold addrs
  rw [List.foldl_append]
  rfl
theorem addrs_ok : ∀ (es : List Ent) (s : List Adr), s.Nodup → (es.foldl (fun s x => if x.addr ∈ s then s else s ++ [x.addr]) s).Nodup ∧ (∀ a ∈ s, a ∈ es.foldl (fun s x => if x.addr ∈ s then s else s ++ [x.addr]) s) ∧ ∀ x ∈ es, x.addr ∈ es.foldl (fun s x => if x.addr ∈ s then s else s ++ [x.addr]) s
  | [], s, h => ⟨h, fun a h => h, fun x h => by simp at h⟩
  | y :: es, s, h => by
    have hs : (if y.addr ∈ s then s else s ++ [y.addr]).Nodup := by
      split
      · exact h
      · rename_i q
        rw [List.nodup_append]
        exact ⟨h, by simp, fun a ha b hb e => by simp at hb; subst hb; subst e; exact q ha⟩
    obtain ⟨i1, i2, i3⟩ := addrs_ok es _ hs
    rw [List.foldl_cons]
    refine ⟨i1, fun a ha => i2 a ?_, fun x hx => ?_⟩
    · split
      · exact ha
      · exact List.mem_append_left _ ha
    · rcases List.mem_cons.1 hx with e | e
      · subst e
        refine i2 _ ?_
        split
        · assumption
        · simp
      · exact i3 x e
theorem addrs_nodup (es : List Ent) : (addrs es).Nodup := (addrs_ok es [] (by simp)).1
theorem addrs_mem (es : List Ent) : ∀ x ∈ es, x.addr ∈ addrs es := (addrs_ok es [] (by simp)).2.2
theorem addrs_length : ∀ (es : List Ent) (s : List Adr), (es.foldl (fun s x => if x.addr ∈ s then s else s ++ [x.addr]) s).length ≤ s.length + es.length
  | [], s => by simp
  | y :: es, s => by
    have := addrs_length es (if y.addr ∈ s then s else s ++ [y.addr])
    rw [List.foldl_cons]
    split at this <;> simp_all <;> omega

theorem sum_if (a : Adr) (z : Int) : ∀ (S : List Adr), S.Nodup → a ∈ S → (S.map fun b => if a = b then z else 0).sum = z
  | [], _, h => by simp at h
  | b :: S, hn, h => by
    rw [List.nodup_cons] at hn
    rw [List.map_cons, List.sum_cons]
    by_cases e : a = b
    · subst e
      have h0 : (S.map fun b => if a = b then z else 0).sum = 0 := by
        have : ∀ S : List Adr, a ∉ S → (S.map fun b => if a = b then z else 0).sum = 0 := by
          intro S
          induction S with
          | nil => intro _; rfl
          | cons c S ih =>
            intro hq
            rw [List.map_cons, List.sum_cons, ih (fun q => hq (List.mem_cons_of_mem _ q)), if_neg (fun q => hq (by rw [q]; exact List.mem_cons_self ..))]
            rfl
        exact this S hn.1
      simp [h0]
    · rw [if_neg e, sum_if a z S hn.2 (by rcases List.mem_cons.1 h with q | q; exact absurd q e; exact q)]
      simp
theorem sum_add {α : Type} (f g : α → Int) : ∀ S : List α, (S.map fun b => f b + g b).sum = (S.map f).sum + (S.map g).sum
  | [] => rfl
  | b :: S => by
    simp only [List.map_cons, List.sum_cons, sum_add f g S]; omega
/-- What is summed over all, by addresses. -/
theorem sum_parts (c : Ent → Int) (S : List Adr) (hn : S.Nodup) : ∀ es : List Ent, (∀ x ∈ es, x.addr ∈ S) → (S.map fun a => ((ofA es a).map c).sum).sum = (es.map c).sum
  | [], _ => by
    have : ∀ S : List Adr, (S.map fun a => ((ofA [] a).map c).sum).sum = 0 := by
      intro S
      induction S with
      | nil => rfl
      | cons a S ih => rw [List.map_cons, List.sum_cons, ih]; rfl
    exact this S
  | x :: es, h => by
    have ih := sum_parts c S hn es (fun y hy => h y (List.mem_cons_of_mem _ hy))
    have e : ∀ a, ((ofA (x :: es) a).map c).sum = (if x.addr = a then c x else 0) + ((ofA es a).map c).sum := by
      intro a
      unfold ofA
      rw [List.filter_cons]
      by_cases q : x.addr = a <;> simp [q]
    simp only [e]
    rw [sum_add, ih, sum_if x.addr (c x) S hn (h x (List.mem_cons_self ..))]
    simp
theorem coins_parts (S : List Adr) (hn : S.Nodup) (es : List Ent) (h : ∀ x ∈ es, x.addr ∈ S) : (S.map fun a => coins ((ofA es a).map (·.val))).sum = coins (es.map (·.val)) := by
  have := sum_parts (fun x => x.val.coin) S hn es h
  simpa [coins, List.map_map, Function.comp_def] using this
theorem sm_flat (k : Nm) : ∀ es : List Ent, sm (assetsOf es) k = (es.map fun x => sm x.val.assets k).sum
  | [] => rfl
  | x :: es => by
    have := sm_flat k es
    simp only [assetsOf, List.flatMap_cons, sm_append, List.map_cons, List.sum_cons] at *
    rw [this]
theorem sm_parts (S : List Adr) (hn : S.Nodup) (es : List Ent) (h : ∀ x ∈ es, x.addr ∈ S) (k : Nm) : (S.map fun a => sm (assetsOf (ofA es a)) k).sum = sm (assetsOf es) k := by
  rw [sm_flat, ← sum_parts (fun x => sm x.val.assets k) S hn es h]
  simp only [sm_flat]
theorem flat_val (es : List Ent) : (es.map (·.val)).flatMap (·.assets) = assetsOf es := by
  simp [assetsOf, List.flatMap_map]
/-- The rows of some addresses: each one's sums. -/
def RowsOf (es : List Ent) (S : List Adr) (rows : List (List (Nm × Int))) : Prop :=
  rows.length = S.length ∧ ∀ (i : Nat) (a : Adr) (d : List (Nm × Int)), S[i]? = some a → rows[i]? = some d → d.Perm ((bookV ((ofA es a).map (·.val))).filter (nzW ·.2)) ∧ srtT d
theorem RowsOf.nil (es : List Ent) : RowsOf es [] [] := ⟨rfl, fun i a d h => by simp at h⟩
theorem RowsOf.snoc {es : List Ent} {S : List Adr} {rows : List (List (Nm × Int))} (h : RowsOf es S rows) {a : Adr} {d : List (Nm × Int)} (hp : d.Perm ((bookV ((ofA es a).map (·.val))).filter (nzW ·.2))) (hs : srtT d) : RowsOf es (S ++ [a]) (rows ++ [d]) := by
  refine ⟨by simp [h.1], fun i b c h1 h2 => ?_⟩
  rw [List.getElem?_append] at h1 h2
  rw [h.1] at h2
  split at h1
  · rename_i q
    rw [if_pos q] at h2
    exact h.2 i b c h1 h2
  · rename_i q
    rw [if_neg q] at h2
    rw [List.getElem?_singleton] at h1 h2
    split at h1
    · rename_i q2
      rw [if_pos q2] at h2
      cases h1; cases h2
      exact ⟨hp, hs⟩
    · cases h1
theorem RowsOf.tail {es : List Ent} {a : Adr} {S : List Adr} {d : List (Nm × Int)} {rows : List (List (Nm × Int))} (h : RowsOf es (a :: S) (d :: rows)) : RowsOf es S rows :=
  ⟨by simpa using h.1, fun i b c h1 h2 => h.2 (i + 1) b c (by simpa using h1) (by simpa using h2)⟩
theorem row_tots {es : List Ent} {d : List (Nm × Int)} (h : d.Perm ((bookV (es.map (·.val))).filter (nzW ·.2)) ∧ srtT d) : Tots (sm (assetsOf es)) d := by
  rw [bookV_eq, flat_val] at h
  exact tots_book h.1 h.2
theorem row_length {es : List Ent} {d : List (Nm × Int)} (h : d.Perm ((bookV (es.map (·.val))).filter (nzW ·.2))) : d.length ≤ (assetsOf es).length := by
  rw [bookV_eq, flat_val] at h
  exact tots_length h
theorem rows_cong : ∀ (S : List Adr) (es : List Ent) (rows : List (List (Nm × Int))), RowsOf es S rows → cong (sm rows.flatten) (fun k => (S.map fun a => sm (assetsOf (ofA es a)) k).sum)
  | [], es, rows, h => by
    have : rows = [] := List.eq_nil_of_length_eq_zero h.1
    subst this
    intro k; simp [sm_nil]
  | a :: S, es, rows, h => by
    match rows, h with
    | [], h => simp [RowsOf] at h
    | d :: rows, h =>
      have ih := rows_cong S es rows h.tail
      have h0 := sm_tots (row_tots (h.2 0 a d rfl rfl))
      intro k
      have h1 := ih k
      have h2 := h0 k
      simp only [List.flatten_cons, sm_append, List.map_cons, List.sum_cons] at *
      omega
theorem ofA_sub (es : List Ent) (a : Adr) : (ofA es a).length ≤ es.length := List.length_filter_le _ _
theorem assets_len : ∀ es : List Ent, ((assetsOf es).length : Int) = (es.map fun x => (x.val.assets.length : Int)).sum
  | [] => rfl
  | x :: es => by
    have ih := assets_len es
    simp only [assetsOf, List.flatMap_cons, List.length_append, List.map_cons, List.sum_cons] at *
    rw [← ih]; omega
theorem rows_length : ∀ (S : List Adr) (es : List Ent) (rows : List (List (Nm × Int))), RowsOf es S rows → (rows.flatten.length : Int) ≤ (S.map fun a => ((assetsOf (ofA es a)).length : Int)).sum
  | [], es, rows, h => by
    have : rows = [] := List.eq_nil_of_length_eq_zero h.1
    subst this; simp
  | a :: S, es, rows, h => by
    match rows, h with
    | [], h => simp [RowsOf] at h
    | d :: rows, h =>
      have ih := rows_length S es rows h.tail
      have h0 := row_length (h.2 0 a d rfl rfl).1
      simp only [List.flatten_cons, List.length_append, List.map_cons, List.sum_cons]
      omega
theorem rows_all {es : List Ent} {rows : List (List (Nm × Int))} (h : RowsOf es (addrs es) rows) : rows.flatten.length ≤ (assetsOf es).length := by
  have h1 := rows_length _ _ _ h
  have h2 := sum_parts (fun x => (x.val.assets.length : Int)) (addrs es) (addrs_nodup es) es (addrs_mem es)
  simp only [assets_len] at h1
  rw [h2, ← assets_len] at h1
  omega
theorem assets_ofA (a : Adr) : ∀ es : List Ent, (assetsOf (ofA es a)).length ≤ (assetsOf es).length
  | [] => by simp [assetsOf, ofA]
  | x :: es => by
    have ih := assets_ofA a es
    simp only [assetsOf, ofA, List.filter_cons, List.flatMap_cons, List.length_append] at *
    split
    · simp only [List.flatMap_cons, List.length_append]; omega
    · omega
theorem bookA_le (xs : List (Nm × Int)) : (bookA [] xs).length ≤ xs.length := by
  have := bookA_length xs []; simpa using this
theorem bookV_le (es : List Ent) : (bookV (es.map (·.val))).length ≤ (assetsOf es).length := by
  rw [bookV_eq, flat_val]; exact bookA_le _
/-- The first question: all balances together. -/
theorem merge_same {es : List Ent} {rows : List (List (Nm × Int))} (h : RowsOf es (addrs es) rows) {d e : List (Nm × Int)} (hd : d.Perm ((bookA [] rows.flatten).filter (nzW ·.2))) (hs : srtT d)
    (he : e.Perm ((bookV (es.map (·.val))).filter (nzW ·.2))) (ht : srtT e) : d.map tN = e.map tN := by
  refine tots_same (tots_book hd hs) (row_tots ⟨he, ht⟩) fun k => ?_
  have h1 := rows_cong _ _ _ h k
  have h2 := sm_parts (addrs es) (addrs_nodup es) es (addrs_mem es) k
  simp only at h1
  rw [h2] at h1
  exact h1
/-- The second: one entry more. -/
theorem more_same {es : List Ent} {x : Ent} {d l m e : List (Nm × Int)} (hd : d.Perm ((bookV ((es ++ [x]).map (·.val))).filter (nzW ·.2))) (hs : srtT d)
    (he : e.Perm ((bookV (es.map (·.val))).filter (nzW ·.2))) (ht : srtT e) (hl : l.Perm ((bookV [x.val]).filter (nzW ·.2))) (hu : srtT l)
    (hm : m.Perm ((bookA [] [e, l].flatten).filter (nzW ·.2))) (hv : srtT m) : d.map tN = m.map tN := by
  refine tots_same (row_tots ⟨hd, hs⟩) (tots_book hm hv) fun k => ?_
  have h1 := sm_tots (row_tots ⟨he, ht⟩) k
  have h2 := sm_tots (row_tots (es := [x]) ⟨hl, hu⟩) k
  have e1 : assetsOf [x] = x.val.assets := by simp [assetsOf]
  have e2 : assetsOf (es ++ [x]) = assetsOf es ++ x.val.assets := by simp [assetsOf]
  rw [e1] at h2
  rw [e2, sm_append]
  simp only [List.flatten_cons, List.flatten_nil, List.append_nil, sm_append]
  omega
theorem more_coins (es : List Ent) (x : Ent) : coins ((es ++ [x]).map (·.val)) = coins (es.map (·.val)) + coins [x.val] := by
  simp [coins]
/-- The third: another address keeps what it has. -/
theorem ofA_more {es : List Ent} {x : Ent} {a : Adr} (h : a ≠ x.addr) : ofA (es ++ [x]) a = ofA es a := by
  simp [ofA, Ne.symm h]
theorem two_same {es : List Ent} {d e : List (Nm × Int)} (hd : d.Perm ((bookV (es.map (·.val))).filter (nzW ·.2))) (hs : srtT d)
    (he : e.Perm ((bookV (es.map (·.val))).filter (nzW ·.2))) (ht : srtT e) : d.map tN = e.map tN :=
  tots_same (row_tots ⟨hd, hs⟩) (row_tots ⟨he, ht⟩) fun k => by simp
end Go.Proofs.Ytckcamlicgdklaa
