/- Bytes: clones, sectors. -/
import Derived.Test.YtaaoabfmelpcpaaDevA
namespace Go.Proofs.Ytaaoabfmelpcpaa
open Go.RowKit Go.Mo

abbrev Bs := List UInt8
def by8 (x : UInt8) : Value := .int .u8 (x.toNat : Int)

/-- v is a slice of its own row that reads bs; its block is one of S. -/
structure Byt (w : World) (S : Nat → Prop) (v : Value) (bs : Bs) : Prop where
  own : w.ownsRow 0 5 1 v bs.length (bs.map by8)
  some : ∃ g cap, v = .slice (some ⟨g, 0, none⟩) bs.length cap ∧ S g ∧ g < w.heap.size

theorem own_same {w w' : World} {e : TypeId} {size : Nat} {v : Value} {n : Nat} {xs : List Value} (h : w.ownsRow 0 e size v n xs) (hs : ∀ k, v.ownBlock = some k → w'.heap[k]? = w.heap[k]?) : w'.ownsRow 0 e size v n xs := by
  refine ⟨h.1, ?_⟩
  rcases h.2 with h2 | ⟨g, cap, cur, hv, hb, hg, r⟩
  · exact .inl h2
  · exact .inr ⟨g, cap, cur, hv, hb, by rw [hs g (by rw [hv]; rfl)]; exact hg, r⟩

theorem Byt.same {w w' : World} {S T : Nat → Prop} {v : Value} {bs : Bs} (h : Byt w S v bs) (hs : Same S w w') (hl : w.heap.size ≤ w'.heap.size) (ht : ∀ k, S k → k < w.heap.size → T k) : Byt w' T v bs := by
  obtain ⟨ho, g, cap, rfl, hS, hg⟩ := h
  refine ⟨own_same ho ?_, g, cap, rfl, ht g hS hg, by omega⟩
  intro k hk
  simp [Value.ownBlock] at hk
  subst hk
  exact hs _ hS hg

theorem info5 : (Try.prog.info? 5).map (fun i => (i.zero, i.size, i.bytes)) = some (some (.int .u8 0), 1, 1) := by kernel_rfl

theorem u8_one (bs : Bs) : ∀ u ∈ bs.map by8, u.oneCell' = true := by
  intro u hu
  obtain ⟨x, _, rfl⟩ := List.mem_map.1 hu
  rfl

theorem byt_of_own {w : World} {base : Nat} {v : Value} {bs : Bs} (h : w.ownsRow base 5 1 v bs.length (bs.map by8)) (hne : v ≠ .slice none 0 0) : Byt w (fun k => base ≤ k) v bs := by
  rcases h.2 with ⟨h', _⟩ | ⟨g, cap, cur, rfl, hb, hg, h3, h4, h5, h6⟩
  · exact absurd h' hne
  · exact ⟨⟨h.1, .inr ⟨g, cap, cur, rfl, Nat.zero_le _, hg, h3, h4, h5, h6⟩⟩, g, cap, rfl, hb, ltB hg⟩

theorem run_bytes_eq_nil (g n cap : Nat) (w : World) : (binOp .eql 56 (.slice (some ⟨g, 0, none⟩) n cap) (.slice none 0 0)).run Try.prog w = .ok (.bool false) w := by kernel_rfl

theorem clone_ok (v : Value) (bs : Bs) (S : Nat → Prop) (w : World) (h : Byt w S v bs) (hn : bs.length ≤ 140737488355328) :
    Calls Try.prog 45 #[v] w fun e w' => ∃ v', e = .returned v' ∧ Byt w' (fun k => w.heap.size ≤ k) v' bs ∧ Mod (fun _ => False) w w' := by
  obtain ⟨ho, g, cap, rfl, hS, hg⟩ := h
  obtain ⟨i0, hi, hz0, hz1, hz2⟩ := info_parts info5
  have hcells : ∀ j u, (bs.map by8)[j]? = some u → w.cell? ((⟨g, 0, none⟩ : Addr).add j) = some u := ho.cells (g := g) rfl
  have hlit := World.ownsRow_lit (e := 5) (size := 1) (base := w.heap.size) w #[] 0 (Nat.le_refl _) (by simp [maxLen]) rfl
  have HC := Lib.hid hcells
  clear hcells
  have hnil : ∀ w, (binOp .eql 56 (.slice (some ⟨g, 0, none⟩) bs.length cap) (.slice none 0 0)).run Try.prog w = .ok (.bool false) w := run_bytes_eq_nil g _ cap
  go_enter Try.func45, Try.ntmps45
  go_wp2_with (first | (at_builtin; refine wpList_append_own _ rfl _ _ 56 rfl w.heap.size 5 i0 (.int .u8 0) 1 1 Try.underlying56 hi hz0 hz1 hz2 rfl (by decide) _ _ _ rfl hlit ⟨g, 0, none⟩ bs.length cap (bs.map by8) rfl (by simp) ?c1 (u8_one bs) ?c3 ?c4 (by simp) ?_))
  case c1 =>
    intro j u hj
    have h1 := HC.out j (by8 u) (by simp [hj])
    simpa [add0] using h1
  case c3 => simp [maxLen]; omega
  intro v' w1 ho1 hg1 hne
  go_wp2
  go_ret
  have hne' : v' ≠ .slice none 0 0 := by simpa using hne
  exact ⟨v', rfl, byt_of_own (by simpa using ho1) hne', ((Mod.refl _ w).alloc _).grown hg1 (fun k hk hl => by simp [Value.ownBlock] at hk; omega)⟩

def secAt (n : Int) (i : Nat) : UInt8 := UInt8.ofNat ((n + (i / 100 : Nat)) % 256).toNat
def sector (n : Int) : Bs := (List.range 256).map (secAt n)
/-- The cells when i of them are laid. -/
def secTo (n : Int) (i : Nat) : List Value := (List.range 256).map fun j => if j < i then by8 (secAt n j) else .int .u8 0

theorem sector_length (n : Int) : (sector n).length = 256 := by simp [sector]
theorem secTo_length (n : Int) (i : Nat) : (secTo n i).length = 256 := by simp [secTo]
theorem secTo_get (n : Int) (i : Nat) (h : i < 256) : (secTo n i)[i]? = some (.int .u8 0) := by simp [secTo, h]
theorem secTo_zero (n : Int) : secTo n 0 = List.replicate 256 (.int .u8 0) := by
  apply List.ext_getElem?
  intro j
  simp only [secTo, List.getElem?_map, List.getElem?_replicate]
  by_cases h : j < 256
  · simp [h]
  · simp [h]
theorem secTo_all (n : Int) : secTo n 256 = (sector n).map by8 := by
  simp only [secTo, sector, List.map_map]
  apply List.map_congr_left
  intro j hj
  simp only [List.mem_range] at hj
  simp [hj]
theorem secTo_succ (n : Int) (i : Nat) : (secTo n i).set i (by8 (secAt n i)) = secTo n (i + 1) := by
  apply List.ext_getElem?
  intro j
  simp only [secTo, List.getElem?_map, List.getElem?_set, List.length_map, List.length_range]
  by_cases h : j < 256
  · by_cases e : i = j
    · subst e; simp [h]
    · by_cases h2 : j < i
      · simp [e, h, h2, Nat.lt_succ_of_lt h2]
      · have : ¬ j < i + 1 := by omega
        simp [e, h, h2, this]
  · by_cases e : i = j
    · subst e; simp [h]
    · simp [e, h]

theorem sec_wrap (n : Int) (i : Nat) : IntKind.u8.wrap (wrap64 (n + ((i : Int) / 100))) = ((secAt n i).toNat : Int) := by
  have h0 : 0 ≤ (n + ((i / 100 : Nat) : Int)) % 256 := Int.emod_nonneg _ (by omega)
  have h1 : (n + ((i / 100 : Nat) : Int)) % 256 < 256 := Int.emod_lt_of_pos _ (by omega)
  have h2 : (((n + ((i / 100 : Nat) : Int)) % 256).toNat) < 256 := by omega
  simp only [secAt, UInt8.toNat_ofNat', IntKind.wrap_u8, wrap64]
  rw [Nat.mod_eq_of_lt (by simpa using h2), Int.toNat_of_nonneg h0]
  omega

attribute [irreducible] secTo sector secAt

set_option maxRecDepth 100000 in
set_option maxHeartbeats 1000000 in
theorem sector_ok (n : Int) (w : World) :
    Calls Try.prog 18 #[.int .i64 n] w fun e w' => ∃ v', e = .returned v' ∧ Byt w' (fun k => w.heap.size ≤ k) v' (sector n) ∧ Mod (fun _ => False) w w' := by
  obtain ⟨i0, hi, hz0, hz1, hz2⟩ := info_parts info5
  go_enter Try.func18, Try.ntmps18
  go_wp2_with (first | (at_make; refine wpList_make_full _ rfl _ _ 56 rfl w.heap.size 5 i0 (.int .u8 0) 1 Try.underlying56 hi hz0 hz1 .i64 .i64 256 256 256 rfl rfl rfl rfl (by omega) (by simp [maxLen]) (Nat.le_refl _) ?_; intro w1 ho1 hg1))
  have ho2 : w1.ownsRow w.heap.size 5 1 (.slice (some ⟨w.heap.size, 0, none⟩) 256 256) 256 (secTo n 0) := by rw [secTo_zero, ← toList_madeCells_one]; exact ho1
  have hm1 : Mod (fun _ => False) w w1 := (Mod.refl _ w).grown hg1 (fun k hk _ => by cases hk)
  clear ho1 hg1
  go_loopw [4] (fun i wr => ∃ k : Nat, k ≤ 256 ∧ i = .int .i64 k ∧ wr.ownsRow w.heap.size 5 1 (.slice (some ⟨w.heap.size, 0, none⟩) 256 256) 256 (secTo n k) ∧ Mod (fun _ => False) w wr) (fun i _ => 256 - (intOf i).toNat)
  case atStart => exact ⟨0, by omega, rfl, ho2, hm1⟩
  case round =>
    obtain ⟨k, hk, rfl, ho, hm⟩ := hrel
    by_cases hlt : k < 256
    · have hc := ho.cellAt k (by omega)
      have hf := ho.frozenAt k
      rw [secTo_get n k hlt] at hc
      have hst := ho.stored k (by8 (secAt n k))
      rw [secTo_succ] at hst
      have hw := sec_wrap n k
      obtain ⟨hst1, hst2⟩ := hst
      have H1 := Lib.hid hst1
      have H2 := Lib.hid hst2
      clear hst1 hst2 ho
      go_wp2
      go_roundw
      case rel => exact ⟨k + 1, by omega, by go_num, H1.out, hm.grown H2.out (fun j hj hl => by cases hj; omega)⟩
      case measure => simp [intOf]; omega
    · have e : k = 256 := by omega
      subst e
      rw [secTo_all] at ho
      go_wp2
      go_ret
      exact ⟨_, rfl, byt_of_own (by rw [sector_length]; exact ho) (by simp), hm⟩
end Go.Proofs.Ytaaoabfmelpcpaa
