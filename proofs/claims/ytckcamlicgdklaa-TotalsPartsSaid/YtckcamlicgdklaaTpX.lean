/- slices.Concat at totals. -/
import Derived.Test.YtckcamlicgdklaaTpW
namespace Go.Proofs.Ytckcamlicgdklaa
open Go.RowKit Go.Mo Go.Sort

theorem wpList_append_tots {ops : Array Oper} {rest : List Oper} {o : Oper} {a : Act} {w : World} {Q : Exit → Act → World → Prop} (hgd : o.guard = none) (s x : Operand)
    (ho : o.op = .call { callee := .builtin .append, args := #[s, x], argTypes := #[33, 33] }) {v rv : Value} {n : Nat} {xs : List Value} {r : List (Nm × Int)} (hs : a.eval s = v) (hx : a.eval x = rv)
    (hown : w.ownsRow 0 88 35 v n xs) (hr : TotsAt w rv r) (hn : n ≤ 1000000)
    (h : ∀ v' w', w'.ownsRow 0 88 35 v' (n + r.length) (xs ++ totsCells r) → w.grownBy w' v.ownBlock → (∀ k, v'.ownBlock = some k → v.ownBlock = some k ∨ w.heap.size ≤ k) → wpList Try.prog ops Q rest (a.put o.dst v') w') : wpList Try.prog ops Q (o :: rest) a w := by
  refine wpList_plain hgd fun K hK => ?_
  obtain ⟨v', w', hrun, h2, h3, h4⟩ := append_tots o.type hown hr hn
  unfold Oper.wp execOp
  simp only [ho, resolve, invoke, builtin, Sem.run_bind, Sem.run_pure, Result.andThen_ok, List.map_toArray, List.map_cons, List.map_nil, hs, hx, hrun]
  exact hK _ _ (h v' w' h2 h3 h4)
theorem flat_le (rows : List (List (Nm × Int))) (k : Nat) : (rows.take k).flatten.length ≤ rows.flatten.length := by
  conv => rhs; rw [← List.take_append_drop k rows, List.flatten_append, List.length_append]
  omega
theorem flat_snoc {rows : List (List (Nm × Int))} {k : Nat} {r : List (Nm × Int)} (h : rows[k]? = some r) : (rows.take (k + 1)).flatten = (rows.take k).flatten ++ r := by
  rw [List.take_add_one, h]
  simp
def tlen (rows : List (List (Nm × Int))) : Nat := rows.flatten.length
def ConcatPost (w : World) (ds : List (Nm × Int)) (e : Ending) (w' : World) : Prop :=
  ∃ v, e = .returned v ∧ w'.ownsRow 0 88 35 v ds.length (totsCells ds) ∧ (∀ k, v.ownBlock = some k → w.heap.size ≤ k) ∧ Mod (fun _ => False) w w'
set_option maxRecDepth 100000 in
set_option maxHeartbeats 2000000 in
theorem concat_calls (w : World) (v : Value) (rows : List (List (Nm × Int))) (h : RowsAt w v rows) (hn : rows.flatten.length ≤ 1000000) : Calls Try.prog 25 #[v] w fun e w' => ConcatPost w rows.flatten e w' := by
  obtain ⟨a, c, rfl, hl, h⟩ := h
  have HE := Lib.hid h
  clear h
  go_enter Try.func25, Try.ntmps25
  go_wp2_with fail
  go_loopw [3, 11] (fun z i wr => ∃ k : Nat, k ≤ rows.length ∧ i = .int .i64 k ∧ z = .int .i64 (tlen (rows.take k)) ∧ w = wr) (fun _ i _ => rows.length - (intOf i).toNat)
  case atStart => exact ⟨0, by omega, rfl, rfl, rfl⟩
  case round =>
    obtain ⟨k, hk, rfl, rfl, rfl⟩ := hrel
    by_cases hlt : k < rows.length
    · obtain ⟨r, hr⟩ : ∃ r, rows[k]? = some r := ⟨_, List.getElem?_eq_getElem hlt⟩
      obtain ⟨L, off, rv, rfl, hL, hc, ra, rc, rfl, _, hrl, _⟩ := HE.out k r hr
      have hs := flat_snoc hr
      have h1 : tlen (rows.take (k + 1)) ≤ rows.flatten.length := flat_le rows (k + 1)
      have hB : tlen (rows.take (k + 1)) = tlen (rows.take k) + r.length := by unfold tlen; rw [hs]; simp
      rw [hB] at h1
      have HB := Lib.hid hB
      clear hB hs hr
      generalize tlen (rows.take k) = A at h1 HB ⊢
      have hneg : decide ((A : Int) + (r.length : Int) < 0) = false := by simp; omega
      go_wp2_with fail
      go_roundw
      case rel => exact ⟨k + 1, by omega, by simp, by rw [HB.out]; simp, trivial⟩
      case measure => simp [intOf]; omega
    · have e : k = rows.length := by omega
      subst e
      rw [List.take_length]
      have HG := Lib.hid (grow_calls (tlen rows) hn w)
      go_wp2_with fail
      refine HG.out.mono ?_
      rintro e w2 ⟨v2, rfl, ho2, hb2, hm2⟩
      obtain ⟨va, vn, vc, rfl⟩ := ownsRow_slice ho2
      have H2 := Lib.hid (And.intro ho2 (And.intro hb2 hm2))
      clear ho2 hb2 hm2
      go_wp2_with fail
      go_loopw [6, 27] (fun v6 i wi => ∃ (k : Nat) (v' : Value), k ≤ rows.length ∧ v' = v6 ∧ i = .int .i64 k ∧ wi.ownsRow 0 88 35 v' (tlen (rows.take k)) (totsCells (rows.take k).flatten) ∧ (∀ q, v'.ownBlock = some q → w.heap.size ≤ q) ∧ Mod (fun _ => False) w wi) (fun _ i _ => rows.length - (intOf i).toNat)
      case atStart => exact ⟨0, _, by omega, rfl, rfl, H2.out.1, H2.out.2.1, H2.out.2.2⟩
      case round =>
        obtain ⟨k, v6, hk, rfl, rfl, ho, hb, hm⟩ := hrel
        by_cases hlt : k < rows.length
        · obtain ⟨r, hr⟩ : ∃ r, rows[k]? = some r := ⟨_, List.getElem?_eq_getElem hlt⟩
          obtain ⟨L, off, rv, rfl, hL, hc, hT⟩ := HE.out k r hr
          have e0 : wr.cell? ⟨L, off + k, none⟩ = some rv := (hm.cell (p := ⟨L, _, none⟩) hL (fun q => q)).trans hc
          have hTT := hT
          obtain ⟨ra, rc, rfl, _⟩ := hTT
          have h1 : tlen (rows.take k) ≤ rows.flatten.length := flat_le rows k
          have hs := flat_snoc hr
          have hB : tlen (rows.take (k + 1)) = tlen (rows.take k) + r.length := by unfold tlen; rw [hs]; simp
          have HO := Lib.hid (And.intro ho (And.intro (hT.tr hm) (Nat.le_trans h1 hn)))
          have HS := Lib.hid (And.intro hs (And.intro hB (And.intro hb hm)))
          clear ho hT hs hB hb hm hr h1
          go_wp2_with (refine wpList_append_tots rfl _ _ rfl rfl rfl HO.out.1 HO.out.2.1 HO.out.2.2 ?_; intro v7 w7 ho7 hg7 hat7; have H7 := Lib.hid (And.intro ho7 (And.intro hg7 hat7)); clear ho7 hg7 hat7)
          have hm7 : Mod (fun _ => False) w w7 := HS.out.2.2.2.grown H7.out.2.1 (fun q hq hl => by have := HS.out.2.2.1 q hq; omega)
          have hb7 : ∀ q, v7.ownBlock = some q → w.heap.size ≤ q := fun q hq => by
            rcases H7.out.2.2 q hq with h | h
            · exact HS.out.2.2.1 q h
            · exact Nat.le_trans HS.out.2.2.2.size h
          have ho7 : w7.ownsRow 0 88 35 v7 (tlen (rows.take (k + 1))) (totsCells (rows.take (k + 1)).flatten) := by
            rw [HS.out.1, HS.out.2.1]
            have := H7.out.1
            simpa [totsCells] using this
          have H8 := Lib.hid (And.intro ho7 (And.intro hb7 hm7))
          clear ho7 hb7 hm7
          go_roundw
          case rel => exact ⟨k + 1, _, by omega, rfl, by simp, H8.out.1, H8.out.2.1, H8.out.2.2⟩
          case measure => simp [intOf]; omega
        · have e : k = rows.length := by omega
          subst e
          rw [List.take_length] at ho
          have H8 := Lib.hid (And.intro ho (And.intro hb hm))
          clear ho hb hm
          go_wp2_with fail
          go_ret
          exact ⟨_, rfl, H8.out.1, H8.out.2.1, H8.out.2.2⟩
end Go.Proofs.Ytckcamlicgdklaa
