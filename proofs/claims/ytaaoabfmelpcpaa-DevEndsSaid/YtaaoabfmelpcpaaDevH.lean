/- keep: what waits is kept, if it is so of it. -/
import Derived.Test.YtaaoabfmelpcpaaDevG
namespace Go.Proofs.Ytaaoabfmelpcpaa
open Go.RowKit Go.Mo

def keepL (p : Nat → Bool) : Nat → List (Int × Bs) → List (Int × Bs) → List (Int × Bs)
  | _, [], acc => acc
  | i, x :: r, acc => keepL p (i + 1) r (if p i then up acc x.1 x.2 else acc)
def keepTo (p : Nat → Bool) (d : Dv) (n : Nat) : List (Int × Bs) := keepL p 0 (d.waiting.take n) d.kept
theorem keepL_snoc (p : Nat → Bool) (x : Int × Bs) : ∀ (l : List (Int × Bs)) (i : Nat) (acc : List (Int × Bs)), keepL p i (l ++ [x]) acc = if p (i + l.length) then up (keepL p i l acc) x.1 x.2 else keepL p i l acc
  | [], i, acc => by simp [keepL]
  | y :: r, i, acc => by
    have := keepL_snoc p x r (i + 1) (if p i then up acc y.1 y.2 else acc)
    simp only [List.cons_append, keepL, this, List.length_cons]
    rw [show i + 1 + r.length = i + (r.length + 1) by omega]
theorem keepTo_succ (p : Nat → Bool) (d : Dv) (n : Nat) (x : Int × Bs) (h : d.waiting[n]? = some x) : keepTo p d (n + 1) = if p n then up (keepTo p d n) x.1 x.2 else keepTo p d n := by
  have hn := (List.getElem?_eq_some_iff.1 h)
  obtain ⟨hl, he⟩ := hn
  rw [keepTo, List.take_succ_eq_append_getElem hl, keepL_snoc, he, List.length_take, Nat.min_eq_left (Nat.le_of_lt hl), Nat.zero_add]; rfl

theorem run_makeMap45 (w : World) : (Instr.makeMap 45 none).run Try.prog w = .ok (.map (some w.heap.size)) (w.alloc (imap [])) := rfl

section
variable {w : World} {B : Nat} {S : Nat → Prop} {d : Dv} {K M : Nat} {W : Value} {ke we : List (Int × Value)}

theorem upd_K {w : World} {ke : List (Int × Value)} (hk : w.heap[K]? = some (imap ke)) (k : Int) (v : Value) : (Instr.mapUpdate 43 (.map (some K)) (.int .i64 k) v).run Try.prog w = .ok () (w.layObj K (imap (up ke k v))) :=
  run_mapUpdate (K := 3) (E := 56) Try.underlying43 Try.underlying3 hk k v

theorem keep_close (h : DevAt w B S d K M W ke we) (kept' : List (Int × Bs)) (wr : World) (ke' : List (Int × Value)) (hK : wr.heap[K]? = some (imap ke')) (hkv : KVs w S ke' kept') (hm : Mod (fun j => j = K) w wr) :
    DevAt (((wr.setCell ⟨B, 1, none⟩ (.slice none 0 0)).setCell ⟨B, 2, none⟩ (.map (some wr.heap.size))).alloc (imap [])) B (fun j => S j ∨ j = wr.heap.size) { d with kept := kept', waiting := [] } K wr.heap.size (.slice none 0 0) ke' [] ∧
      Mod S w (((wr.setCell ⟨B, 1, none⟩ (.slice none 0 0)).setCell ⟨B, 2, none⟩ (.map (some wr.heap.size))).alloc (imap [])) := by
  have hBl := h.lt _ h.sB
  have eBK : B ≠ K := fun e => by have h1 := h.hB; rw [e, h.hK] at h1; cases h1
  have hB : wr.heap[B]? = some (.cells (dcells K M W d) 49 (0, 0)) := (hm.block B hBl eBK).trans h.hB
  have hB2 := setB (setB hB 1 (.slice none 0 0)) 2 (.map (some wr.heap.size))
  have hms : Mod S w (((wr.setCell ⟨B, 1, none⟩ (.slice none 0 0)).setCell ⟨B, 2, none⟩ (.map (some wr.heap.size))).alloc (imap [])) :=
    (((hm.weaken (fun j e _ => by rw [e]; exact h.sK)).setCell (fun _ => h.sB) _).setCell (fun _ => h.sB) _).alloc _
  have hbs : BSame S w (((wr.setCell ⟨B, 1, none⟩ (.slice none 0 0)).setCell ⟨B, 2, none⟩ (.map (some wr.heap.size))).alloc (imap [])) := fun j cs hj hc => by
    refine allocB (setB_other (setB_other ?_ ?_ _) ?_ _) _
    · rw [hm.block j (h.lt j hj) (fun e => by rw [e, h.hK] at hc; cases hc)]; exact hc
    · rintro rfl; rw [h.hB] at hc; cases hc
    · rintro rfl; rw [h.hB] at hc; cases hc
  have hnew := newB ((wr.setCell ⟨B, 1, none⟩ (.slice none 0 0)).setCell ⟨B, 2, none⟩ (.map (some wr.heap.size))) (imap [])
  rw [World.size_setCell, World.size_setCell] at hnew
  have hsz := hm.size
  refine ⟨⟨?_, ?_, ?_, ?_, ?_, trivial, .inl h.sB, .inl h.sK, .inr rfl, ?_, ?_, ?_, by simp, h.arm⟩, hms⟩
  · rw [allocB hB2 _]; rfl
  · exact allocB (setB_other (setB_other hK eBK.symm _) eBK.symm _) _
  · exact hnew
  · exact hkv.bsame hbs hms.size (fun j hj _ => .inl hj)
  · exact World.ownsRow_nil _ _ _ _
  · intro j hj; simp [Value.ownBlock] at hj
  · have := h.lt _ h.sK; omega
  · rintro j (hj | rfl)
    · have := h.lt j hj; simp; omega
    · simp

set_option maxHeartbeats 1000000 in
theorem keep_calls (h : DevAt w B S d K M W ke we) (G : Nat) (cap : Array Value) (p : Nat → Bool) (hG : ∀ (i : Int) w, (callFunc G (#[.int .i64 i] ++ cap)).run Try.prog w = .ok (.enter G (#[.int .i64 i] ++ cap)) w)
    (hp : ∀ (i : Nat) w1, i < we.length → Mod S w w1 → Calls Try.prog G (#[.int .i64 (i : Int)] ++ cap) w1 fun e w' => e = .returned (.bool (p i)) ∧ w1 = w') :
    Calls Try.prog 38 #[.pointer (some ⟨B, 0, none⟩), .func (.func G) #[] cap] w fun e w' => e = ret0 ∧
      ∃ M' ke', DevAt w' B (fun j => S j ∨ j = M') { d with kept := keepTo p d d.waiting.length, waiting := [] } K M' (.slice none 0 0) ke' [] ∧ Mod S w w' ∧ w.heap.size ≤ M' := by
  have c1 := h.c1
  have hlen : we.length ≤ 1000000 := by rw [h.wait.length]; exact h.bound
  have hmm := run_makeMap45
  have HH := Lib.hid h
  have HP := Lib.hid hp
  clear hp h
  rcases HH.out.row.2 with ⟨rfl, hz⟩ | ⟨g, cap0, cur, rfl, _, hg, _⟩
  · have hF := Lib.hid (keep_close HH.out (keepTo p d d.waiting.length) w ke HH.out.hK (by rw [← HH.out.wait.length, hz]; exact HH.out.kept) (Mod.refl _ _))
    have hBr := HH.out.hB
    have c2r : w.cell? ⟨B, 2, none⟩ = some (.map (some M)) := by rw [cellB hBr]; rfl
    have f1 := frozB hBr 1
    have f2 := frozB hBr 2
    have hBlr := ltB hBr
    clear hBr
    go_enter Try.func38, Try.ntmps38
    go_wp2
    go_loopw [11] (fun i wr => i = .int .i64 0 ∧ wr = w) (fun _ _ => 0)
    case atStart => exact ⟨rfl, rfl⟩
    case round =>
      obtain ⟨rfl, rfl⟩ := hrel
      go_wp2
      go_returns
      exact ⟨rfl, _, _, hF.out.1, hF.out.2, Nat.le_refl _⟩
  · have hgl := ltB hg
    have hBl := HH.out.lt _ HH.out.sB
    have hKl := HH.out.lt _ HH.out.sK
    have nK := own_ne_map HH.out.row HH.out.hK
    have eBK : B ≠ K := fun e => by have h1 := HH.out.hB; rw [e, HH.out.hK] at h1; cases h1
    simp only [Value.ownBlock, ne_eq, Option.some.injEq] at nK
    have hS0 := Lib.hid (show Mod (fun j => j = K) w w from Mod.refl _ _)
    clear hg
    go_enter Try.func38, Try.ntmps38
    go_wp2
    go_loopw [11] (fun i wr => ∃ k : Nat, k ≤ we.length ∧ i = .int .i64 k ∧ ∃ ke', wr.heap[K]? = some (imap ke') ∧ KVs w S ke' (keepTo p d k) ∧ Mod (fun j => j = K) w wr) (fun i _ => we.length - (intOf i).toNat)
    case atStart => exact ⟨0, by omega, rfl, ke, HH.out.hK, HH.out.kept, hS0.out⟩
    case round =>
      obtain ⟨k, hk, rfl, ke', hK', hkv, hm⟩ := hrel
      have hBr : wr.heap[B]? = some (.cells (dcells K M (.slice (some ⟨g, 0, none⟩) we.length cap0) d) 49 (0, 0)) := (hm.block B hBl eBK).trans HH.out.hB
      by_cases hlt : k < we.length
      · have e1 := HH.out.row.cellAt (k * 2) (by omega)
        have e2 := HH.out.row.cellAt (k * 2 + 1) (by omega)
        rw [(flat_get we k HH.out.wait.sls hlt).1, ← hm.cell (p := ⟨g, k * 2, none⟩) hgl nK] at e1
        rw [(flat_get we k HH.out.wait.sls hlt).2, ← hm.cell (p := ⟨g, k * 2 + 1, none⟩) hgl nK] at e2
        have hmS : Mod S w (wr.alloc (.cells #[.int .i64 (keyAt we k), valAt we k] 78)) := (hm.weaken (fun j e _ => by rw [e]; exact HH.out.sK)).alloc _
        have HC := Lib.hid (HP.out k _ hlt hmS)
        have hBlr := ltB hBr
        have hKlr := ltB hK'
        have c0r : wr.cell? ⟨B, 0, none⟩ = some (.map (some K)) := by rw [cellB hBr]; rfl
        have hupd := upd_K (w := (wr.alloc (.cells #[.int .i64 (keyAt we k), valAt we k] 78)).drew) (allocB hK' _) (keyAt we k) (valAt we k)
        obtain ⟨y, hy⟩ : ∃ y, d.waiting[k]? = some y := ⟨_, List.getElem?_eq_getElem (by rw [← HH.out.wait.length]; exact hlt)⟩
        obtain ⟨x, hx, hxy, hby⟩ := HH.out.wait.get k y hy
        have hks := keepTo_succ p d k y hy
        obtain ⟨k1, k2⟩ := keyAt_get hx
        have hval : valAt we k = x.2 := by
          have := HH.out.wait.sls x (List.mem_of_getElem? hx)
          rw [valAt, k2, ← this]
        have hkey : keyAt we k = y.1 := k1.trans hxy
        rw [← hval] at hby
        rw [← hkey] at hks
        have HKV := Lib.hid (And.intro hkv (And.intro hby hks))
        have HM := Lib.hid (And.intro hm (And.intro hK' hBr))
        clear hmS hm hkv hK' hBr hx hxy hby hks k1 k2 hval hkey hy
        cases hpk : p k with
        | true =>
          rw [hpk] at HC
          go_wp2_with fail
          refine HC.out.mono ?_
          rintro e w' ⟨rfl, rfl⟩
          go_wp2
          go_region
          all_goals
            go_wp2
            go_roundw
            case rel =>
              refine ⟨k + 1, by omega, by go_num, up ke' (keyAt we k) (valAt we k), ?_, ?_, ?_⟩
              · exact heap_layObj_same (by simp; omega) _
              · rw [HKV.out.2.2, hpk, if_pos rfl]; exact KVs.up HKV.out.2.1 HKV.out.1
              · exact Mod.layObj ((HM.out.1.alloc _).drew) (fun _ => rfl) _
            case measure => simp [intOf]; omega
        | false =>
          rw [hpk] at HC
          go_wp2_with fail
          refine HC.out.mono ?_
          rintro e w' ⟨rfl, rfl⟩
          go_wp2
          go_roundw
          case rel =>
            refine ⟨k + 1, by omega, by go_num, ke', allocB HM.out.2.1 _, ?_, HM.out.1.alloc _⟩
            rw [HKV.out.2.2, hpk]; exact HKV.out.1
          case measure => simp [intOf]; omega
      · have e : k = we.length := by omega
        subst e
        have hF := Lib.hid (keep_close HH.out (keepTo p d d.waiting.length) wr ke' hK' (by rw [← HH.out.wait.length]; exact hkv) hm)
        have c1r : wr.cell? ⟨B, 1, none⟩ = some (.slice (some ⟨g, 0, none⟩) we.length cap0) := by rw [cellB hBr]; rfl
        have c2r : wr.cell? ⟨B, 2, none⟩ = some (.map (some M)) := by rw [cellB hBr]; rfl
        have f1 := frozB hBr 1
        have f2 := frozB hBr 2
        have hBlr := ltB hBr
        have hsz := hm.size
        clear hBr hK' hkv hm
        go_wp2
        go_returns
        exact ⟨rfl, _, _, hF.out.1, hF.out.2, hsz⟩
end
end Go.Proofs.Ytaaoabfmelpcpaa
