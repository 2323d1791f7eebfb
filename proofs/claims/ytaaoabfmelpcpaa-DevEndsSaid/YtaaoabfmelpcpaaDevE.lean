/- used: how many sectors are. -/
import Derived.Test.YtaaoabfmelpcpaaDevD
import Derived.Maps.RangeWalk
namespace Go.Proofs.Ytaaoabfmelpcpaa
open Go.RowKit Go.Mo

def notKept (d : Dv) (x : Int × Int) : Bool := (lk d.kept x.1).isNone
def used (d : Dv) : Nat := d.kept.length + ((written d.waiting).filter (notKept d)).length

section
variable {w : World} {B : Nat} {S : Nat → Prop} {d : Dv} {K M : Nat} {W : Value} {ke we : List (Int × Value)}

theorem run_len_imap {l : List (Int × Value)} (h : w.heap[K]? = some (imap l)) (ty : TypeId) : (Builtin.len_ #[43] ty #[.map (some K)]).run Try.prog w = .ok (.int .i64 l.length) w := by
  have hg : (getObj K).run Try.prog w = .ok (imap l) w := by simp [getObj, Sem.run, h, imap]
  simp [Builtin.len_, run_underlying Try.underlying43, hg, imap, ents_length, goInt]

theorem ret_int {k : IntKind} {a b : Int} (h : a = b) : Ending.returned (.int k a) = .returned (.int k b) := by rw [h]
theorem up_length {α : Type} (k : Int) (v : α) : ∀ m : List (Int × α), (up m k v).length ≤ m.length + 1
  | [] => by simp [up]
  | x :: r => by
    have ih := up_length k v r
    by_cases h : x.1 = k <;> simp [up, h]; omega
theorem written_length : ∀ (n : Nat) (l : List (Int × Bs)), l.length = n → (written l).length ≤ n
  | 0, l, h => by
    have : l = [] := List.eq_nil_of_length_eq_zero h
    subst this; simp [written]
  | n + 1, l, h => by
    have hne : l ≠ [] := by rintro rfl; simp at h
    have e := List.dropLast_concat_getLast hne
    have ih := written_length n l.dropLast (by simp [h])
    rw [← e, written_snoc, wr1]
    have := up_length (l.getLast hne).1 ((lk (written l.dropLast) (l.getLast hne).1).getD 0 + 1) (written l.dropLast)
    omega

/-- How many an iterator has shown. -/
def shown (w : World) (r : Nat) : Nat := match w.heap[r]? with | some (.mapIter _ _ seen _) => seen.size | _ => 0
theorem shown_iter {w : World} {r b n : Nat} {seen : List Nat} (h : w.heap[r]? = some (iter b n seen)) : shown w r = seen.length := by simp [shown, h, iter]

def nk (d : Dv) (i : Nat) : Bool := (((written d.waiting)[i]?).map (notKept d)).getD false

theorem seen_all (d : Dv) (seen : List Nat) (hnd : seen.Nodup) (hlt : ∀ i ∈ seen, i < (written d.waiting).length) (hall : ∀ i, i < (written d.waiting).length → i ∈ seen) :
    (seen.filter (nk d)).length = ((written d.waiting).filter (notKept d)).length := by
  have hp : seen.Perm (List.range (written d.waiting).length) := (List.perm_ext_iff_of_nodup hnd List.nodup_range).2 fun i => ⟨fun h => List.mem_range.2 (hlt i h), fun h => hall i (List.mem_range.1 h)⟩
  rw [(hp.filter _).length_eq]
  generalize hL : written d.waiting = L
  have : ∀ (L : List (Int × Int)) (p : Int × Int → Bool), ((List.range L.length).filter fun i => ((L[i]?).map p).getD false).length = (L.filter p).length := by
    have key : ∀ (n : Nat) (L : List (Int × Int)) (p : Int × Int → Bool), L.length = n → ((List.range L.length).filter fun i => ((L[i]?).map p).getD false).length = (L.filter p).length := by
      intro n
      induction n with
      | zero =>
        intro L p h
        have : L = [] := List.eq_nil_of_length_eq_zero h
        subst this; rfl
      | succ n ih =>
        intro L p h
        have hne : L ≠ [] := by rintro rfl; simp at h
        have e := List.dropLast_concat_getLast hne
        have ih := ih L.dropLast p (by simp [h])
        rw [← e, List.length_append, List.length_singleton, List.range_succ, List.filter_append, List.filter_append, List.length_append, List.length_append, ← ih]
        congr 1
        · congr 1
          apply List.filter_congr
          intro i hi
          rw [List.getElem?_append_left (List.mem_range.1 hi)]
        · by_cases hx : p (L.getLast hne) <;> simp [hx]
    exact fun L p => key _ L p rfl
  have h2 := this L (notKept d)
  rw [← h2]
  congr 1
  apply List.filter_congr
  intro i _
  simp [nk, hL]

theorem iv_length (m : List (Int × Int)) : (iv m).length = m.length := by simp [iv]
theorem iv_get (m : List (Int × Int)) (i : Nat) (x : Int × Value) (h : (iv m)[i]? = some x) : ∃ c, m[i]? = some (x.1, c) ∧ x.2 = .int .i64 c := by
  simp only [iv, List.getElem?_map] at h
  cases hm : m[i]? with
  | none => simp [hm] at h
  | some y => simp [hm] at h; subst h; exact ⟨y.2, rfl, rfl⟩

theorem nodup_snoc {l : List Nat} {i : Nat} (h : l.Nodup) (hi : i ∉ l) : (l ++ [i]).Nodup := by
  rw [List.nodup_append]
  refine ⟨h, by simp, ?_⟩
  intro a ha b hb
  simp at hb
  subst hb
  rintro rfl
  exact hi ha

theorem seen_le : ∀ (n : Nat) (seen : List Nat), seen.Nodup → (∀ i ∈ seen, i < n) → seen.length ≤ n
  | 0, seen, _, h => by
    cases seen with
    | nil => simp
    | cons x r => exact absurd (h x (by simp)) (by omega)
  | n + 1, seen, hnd, h => by
    by_cases hm : n ∈ seen
    · have h1 := seen_le n (seen.erase n) (hnd.erase n) (fun i hi => by
        have := hnd.mem_erase_iff.1 hi
        have h2 := h i this.2
        have h3 := this.1
        omega)
      rw [List.length_erase_of_mem hm] at h1
      omega
    · have h1 := seen_le n seen hnd (fun i hi => by
        have h2 := h i hi
        have h3 : i ≠ n := fun e => hm (e ▸ hi)
        omega)
      omega

set_option maxHeartbeats 1000000 in
theorem used_calls (h : DevAt w B S d K M W ke we) (hk : d.kept.length ≤ 1000000) : Calls Try.prog 32 #[.pointer (some ⟨B, 0, none⟩)] w fun e w' => e = .returned (.int .i64 (used d)) ∧ Mod (fun _ => False) w w' := by
  have h0 := h.c0
  have h2 := h.c2
  have hn := h.kept.length
  have hlen := run_len_imap h.hK
  have hrg := run_range (P := Try.prog) (T := 45) (K := 3) (E := 3) Try.underlying45 h.hM
  rw [hn] at hlen
  clear hn
  have HH := Lib.hid h
  have hMlt := h.lt _ h.sM
  have hBlt := h.lt _ h.sB
  have hit := newB w (iter M (iv (written d.waiting)).length [])
  have hmod0 : Mod (fun _ => False) w (w.alloc (iter M (iv (written d.waiting)).length [])) := (Mod.refl _ w).alloc _
  clear h
  rw [iv_length] at hrg hit hmod0
  generalize hL : (written d.waiting).length = L at hrg hit hmod0
  have HL := Lib.hid hL
  have HI := Lib.hid hit
  clear hL hit
  go_enter Try.func32, Try.ntmps32
  go_wp2
  go_loopw [3] (fun n wr => ∃ seen : List Nat, seen.Nodup ∧ (∀ i ∈ seen, i < L) ∧ n = .int .i64 (d.kept.length + ((seen.filter (nk d)).length : Nat) : Nat) ∧ wr.heap[w.heap.size]? = some (iter M L seen) ∧ Mod (fun _ => False) w wr) (fun _ wr => L - shown wr w.heap.size)
  case atStart => exact ⟨[], by simp, by simp, by simp, HI.out, hmod0⟩
  case round =>
    obtain ⟨seen, hnd, hslt, rfl, hit, hm⟩ := hrel
    have hMr : wr.heap[M]? = some (imap (iv (written d.waiting))) := (hm.block M hMlt (fun q => q)).trans HH.out.hM
    have hsl := seen_le _ _ hnd hslt
    have hfl := List.length_filter_le (nk d) seen
    have hLM : (iv (written d.waiting)).length = L := by rw [iv_length]; exact HL.out
    have hLs : L ≤ 1000000 := by have h1 := written_length _ d.waiting rfl; rw [HL.out] at h1; have := HH.out.bound; omega
    rcases run_next (P := Try.prog) hMr seen (by rw [hLM]; exact hit) with ⟨hall, hrun⟩ | ⟨i, x, w2, hx, hi, hrun, hit2, hg2, hs2⟩
    · rw [hLM] at hall
      have HE := Lib.hid (seen_all d seen hnd (by rw [HL.out]; exact hslt) (by rw [HL.out]; exact hall))
      clear hall hslt hMr hit hLM
      go_wp2
      go_ret
      exact ⟨ret_int (by rw [HE.out]; rfl), hm⟩
    · rw [hLM] at hit2
      have hm2 : Mod (fun _ => False) w w2 := hm.grown hg2 (fun k hk hl => by cases hk; omega)
      have hMr2 : w2.heap[M]? = some (imap (iv (written d.waiting))) := (hm2.block M hMlt (fun q => q)).trans HH.out.hM
      have hen := run_entry (P := Try.prog) hMr2 seen i x hx (by rw [hLM]; exact hit2)
      have c0 : w2.cell? ⟨B, 0, none⟩ = some (.map (some K)) := (hm2.cell (p := ⟨B, 0, none⟩) hBlt (fun q => q)).trans h0
      obtain ⟨c, hxc, hx2⟩ := iv_get _ i x hx
      rw [hx2] at hrun hen
      have hil : i < L := by rw [← HL.out]; exact (List.getElem?_eq_some_iff.1 hxc).1
      have hnd2 := nodup_snoc hnd hi
      have hslt2 : ∀ j ∈ seen ++ [i], j < L := fun j hj => by
        rcases List.mem_append.1 hj with h1 | h1
        · exact hslt j h1
        · simp at h1; omega
      have hshow := shown_iter hit
      have hshow2 := shown_iter hit2
      have hsl2 := seen_le _ _ hnd2 hslt2
      simp only [List.length_append, List.length_singleton] at hsl2 hshow2
      have l1 := lookK ((hm2.block K (HH.out.lt _ HH.out.sK) (fun q => q)).trans HH.out.hK) x.1
      have hnk : nk d i = (lk d.kept x.1).isNone := by simp [nk, hxc, notKept]
      have h2' : ((seen ++ [i]).filter (nk d)).length = (seen.filter (nk d)).length + if nk d i then 1 else 0 := by
        rw [List.filter_append, List.length_append]
        by_cases hq : nk d i <;> simp [hq]
      have H1 := Lib.hid (And.intro hnd2 (And.intro hslt2 (And.intro hit2 hm2)))
      have H2 := Lib.hid (And.intro hshow hshow2)
      have HX := Lib.hid hx2
      clear hx2 hnd2 hslt2 hit2 hm2 hshow hshow2 hMr2 hMr hit hLM hnd hslt hx hxc hs2 hg2
      cases hk2 : lk d.kept x.1 with
      | none =>
        rw [HH.out.kept.none hk2] at l1
        rw [hnk, hk2] at h2'
        have H3 := Lib.hid h2'
        clear hnk hk2 h2'
        simp only [Option.isSome_none, Option.getD_none] at l1
        go_wp2
        go_roundw
        case rel => exact ⟨seen ++ [i], H1.out.1, H1.out.2.1, by rw [H3.out]; simp only [Option.isNone_none, if_true]; congr 1, H1.out.2.2.1, H1.out.2.2.2⟩
        case measure => rw [H2.out.1, H2.out.2]; omega
      | some bs =>
        obtain ⟨v, hv, _⟩ := HH.out.kept.some hk2
        rw [hv] at l1
        rw [hnk, hk2] at h2'
        have H3 := Lib.hid h2'
        clear hnk hk2 h2' hv
        simp only [Option.isSome_some, Option.getD_some] at l1
        go_wp2
        go_roundw
        case rel => exact ⟨seen ++ [i], H1.out.1, H1.out.2.1, by rw [H3.out]; simp, H1.out.2.2.1, H1.out.2.2.2⟩
        case measure => rw [H2.out.1, H2.out.2]; omega
end
end Go.Proofs.Ytaaoabfmelpcpaa
