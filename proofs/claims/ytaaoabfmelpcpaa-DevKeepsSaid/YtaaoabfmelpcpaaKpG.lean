/- DevKeeps: what holds between two steps of its walk. -/
import Derived.Test.YtaaoabfmelpcpaaKpD
namespace Go.Proofs.Ytaaoabfmelpcpaa
open Go.RowKit Go.Mo

/-- append to a row of strings, as one step of a region that draws its order. -/
theorem step_append_str {ops : Array Oper} {o : Oper} {a : Act} {K : Act → World → Prop} {Q : Exit → Act → World → Prop} {E : Prop} {w : World} (hgd : o.guard = none) (s x : Operand)
    (ho : o.op = .call { callee := .builtin .append, args := #[s, x], argTypes := #[57, 57] })
    {g : Nat} {v : Value} {xs : List Value} (h : StrAt w g v xs) (hs : a.eval s = v) (ad : Addr) (c : Nat) (hx : a.eval x = .slice (some ad) 1 c) (str : ByteArray) (hc : w.cell? (ad.add 0) = some (.string str)) (hn : xs.length < 1000000)
    (hk : ∀ v' w' g', StrAt w' g' v' (xs ++ [.string str]) → Mod (fun j => j = g) w w' → (g' = g ∨ w.heap.size ≤ g') → K (a.put o.dst v') w') :
    if Region.wanted o (yielded ops a.tmps) = true then Oper.wp Try.prog o a w K Q else E := by
  rw [if_pos (by simp [Region.wanted, hgd])]
  obtain ⟨v', w', g', hr, h2, h3, h4⟩ := run_append_str h o.type ad c str hc hn
  unfold Oper.wp execOp
  simp only [ho, resolve, invoke, builtin, Sem.run_bind, Sem.run_pure, Result.andThen_ok, List.map_toArray, List.map_cons, List.map_nil, hs, hx, hr]
  exact hk v' w' g' h2 h3 h4

/-- The device p of the blocks S, and the rows of what each sector may have in the blocks G, gs. -/
structure KW (w wx : World) (p : Value) (G n m : Nat) (d : Dv) (S : Nat → Prop) (M : Nat → List Bs) (gs : List Nat) (vs : List Value) : Prop where
  hd : Hd wx p S (some d)
  inv : InvO (some d) m
  may : MayAt wx G gs vs M
  gl : gs.length = n
  vl : vs.length = n
  disG : ¬ S G
  dis : ∀ g ∈ gs, ¬ S g
  mod : Mod (fun _ => False) w wx
  own : ∀ j, S j → w.heap.size ≤ j
  ownG : w.heap.size ≤ G
  ownGs : ∀ g ∈ gs, w.heap.size ≤ g

section
variable {w wx w' : World} {p : Value} {G n m : Nat} {d : Dv} {S : Nat → Prop} {M : Nat → List Bs} {gs : List Nat} {vs : List Value}

theorem KW.step (h : KW w wx p G n m d S M gs vs) (hm : Mod (fun _ => False) wx w') : KW w w' p G n m d S M gs vs :=
  ⟨h.hd.mod hm, h.inv, h.may.mod hm (fun q => q) (fun _ _ q => q), h.gl, h.vl, h.disG, h.dis, h.mod.tr hm, h.own, h.ownG, h.ownGs⟩

theorem KW.le (h : KW w wx p G n m d S M gs vs) {m' : Nat} (hm : m ≤ m') : KW w wx p G n m' d S M gs vs :=
  { h with inv := fun d hd => (h.inv d hd).mono hm }

theorem KW.op (h : KW w wx p G n m d S M gs vs) {d' : Dv} {m' : Nat} (ho : OpH wx w' p S (some d')) (hi : Inv d' m') : ∃ S', KW w w' p G n m' d' S' M gs vs := by
  obtain ⟨S', h1, h2, h3⟩ := ho
  have hlt := fun k g (hg : gs[k]? = some g) => h.may.lt hg
  refine ⟨S', h1, fun d hd => by cases hd; exact hi, h.may.mod h2 h.disG h.dis, h.gl, h.vl, fun q => ?_, fun g hg q => ?_, ?_, fun j hj => ?_, h.ownG, h.ownGs⟩
  · rcases h3 _ q with q | q
    · exact h.disG q
    · have := ltB h.may.row; omega
  · rcases h3 _ q with q | q
    · exact h.dis g hg q
    · obtain ⟨i, hi⟩ := List.getElem?_of_mem hg
      have := h.may.lt hi; omega
  · exact h.mod.trans h2 (fun j q l => by have := h.own j q; omega)
  · rcases h3 _ hj with q | q
    · exact h.own j q
    · have := h.mod.size; omega

theorem KW.put (h : KW w wx p G n m d S M gs vs) {k g : Nat} (hg : gs[k]? = some g) (hm : Mod (fun j => j = g) wx w') {g' : Nat} {v' : Value} {xs : List Bs} (hs : StrAt w' g' v' (xs.map strV)) (hg' : g' = g ∨ wx.heap.size ≤ g') :
    KW w (w'.setCell ⟨G, k, none⟩ v') p G n m d S (fun j => if j = k then xs else M j) (gs.set k g') (vs.set k v') := by
  have hmem := List.mem_of_getElem? hg
  have hlt := h.hd.lt
  have hmS : Mod (fun j => j = G) w' (w'.setCell ⟨G, k, none⟩ v') := (Mod.refl (fun j => j = G) w').setCell (fun _ => rfl) _
  have hw := h.mod.size
  refine ⟨(h.hd.same hm (fun j hj q => h.dis g hmem (q ▸ hj))).same hmS (fun j hj q => h.disG (q ▸ hj)), h.inv, h.may.put hg hm hs hg', by simpa using h.gl, by simpa using h.vl, h.disG, fun x hx q => ?_, ?_, h.own, h.ownG, fun x hx => ?_⟩
  · rcases List.mem_or_eq_of_mem_set hx with hx | rfl
    · exact h.dis x hx q
    · rcases hg' with rfl | e
      · exact h.dis _ hmem q
      · have := hlt _ q; omega
  · exact (h.mod.trans hm (fun j q l => by have := h.ownGs g hmem; omega)).trans hmS (fun j q l => by have := h.ownG; omega)
  · rcases List.mem_or_eq_of_mem_set hx with hx | rfl
    · exact h.ownGs x hx
    · rcases hg' with rfl | e
      · exact h.ownGs _ hmem
      · omega

theorem KW.app (h : KW w wx p G n m d S M gs vs) {k g : Nat} (hg : gs[k]? = some g) (hm : Mod (fun j => j = g) wx w') {g' : Nat} {v' : Value} {b : Bs} (hs : StrAt w' g' v' ((M k).map strV ++ [.string ⟨b.toArray⟩])) (hg' : g' = g ∨ wx.heap.size ≤ g')
    {T : Nat → Prop} {vv : Value} {bs : Bs} (hb : Byt wx T vv bs) (h1 : ¬ T g) (h2 : ¬ T G) :
    ∃ gs' vs', KW w (w'.setCell ⟨G, k, none⟩ v') p G n m d S (fun j => if j = k then M k ++ [b] else M j) gs' vs' ∧ Byt (w'.setCell ⟨G, k, none⟩ v') T vv bs := by
  have hmS : Mod (fun j => j = G) w' (w'.setCell ⟨G, k, none⟩ v') := (Mod.refl (fun j => j = G) w').setCell (fun _ => rfl) _
  refine ⟨_, _, h.put hg hm (xs := M k ++ [b]) (by simpa [strV] using hs) hg', ?_⟩
  exact (hb.same (hm.same (fun j hj q => h1 (q ▸ hj))) hm.size (fun _ q _ => q)).same (hmS.same (fun j hj q => h2 (q ▸ hj))) hmS.size (fun _ q _ => q)

theorem KW.at (h : KW w wx p G n m d S M gs vs) {k : Nat} (hk : k < n) : ∃ g v, gs[k]? = some g ∧ vs[k]? = some v ∧ StrAt wx g v ((M k).map strV) ∧ wx.cell? ⟨G, k, none⟩ = some v ∧ wx.frozen? ⟨G, k, none⟩ = false := by
  obtain ⟨g, hg⟩ : ∃ g, gs[k]? = some g := ⟨_, List.getElem?_eq_getElem (by have := h.gl; omega)⟩
  obtain ⟨v, hv⟩ : ∃ v, vs[k]? = some v := ⟨_, List.getElem?_eq_getElem (by have := h.vl; omega)⟩
  exact ⟨g, v, hg, hv, h.may.at_ k g v hg hv, by rw [cellB h.may.row]; simpa using hv, frozB h.may.row _⟩

theorem KW.stat (h : KW w wx p G n m d S M gs vs) (hm : m ≤ 1000000) : Calls Try.prog 13 #[p] wx fun e w' => e = .returned (.agg #[.int .i64 d.sectors, .int .i64 d.quota, .int .i64 (used d), .int .i64 d.waiting.length, .int .i64 d.armed, .int .i64 d.turns, .bool d.down]) ∧ Mod (fun _ => False) wx w' := stat_H h.hd h.inv hm

theorem KW.flush (h : KW w wx p G n m d S M gs vs) : Calls Try.prog 17 #[p] wx fun e w' => e = .returned (.int .i64 (flushE d)) ∧ ∃ S', KW w w' p G n m (flushD d) S' M gs vs :=
  (flush_H h.hd).mono fun _ _ ⟨a, b⟩ => ⟨a, h.op b ((h.inv d rfl).flush)⟩

theorem KW.write (h : KW w wx p G n m d S M gs vs) (hm : m < 1000000) (k : Int) (v : Value) (bs : Bs) (T : Nat → Prop) (hv : Byt wx T v bs) (hb : bs.length = 256) :
    Calls Try.prog 19 #[p, .int .i64 k, v] wx fun e w' => e = .returned (.int .i64 (writeE d k 256)) ∧ Mod S wx w' ∧ ∃ S', KW w w' p G n (m + 1) (writeD d k bs) S' M gs vs := by
  obtain ⟨g, cap, e⟩ := hv.shape
  refine (write_H h.hd h.inv hm k v bs T ⟨⟨_, _, e⟩, fun _ => hv⟩).mono ?_
  rintro e w' ⟨a, b⟩
  rw [hb] at a
  exact ⟨a, b.elim fun _ q => q.2.1, h.op b ((h.inv d rfl).write k bs)⟩

theorem KW.crash (h : KW w wx p G n m d S M gs vs) : Calls Try.prog 21 #[p] wx fun e w' => e = ret0 ∧ ∃ S', KW w w' p G n m { d with down := true } S' M gs vs :=
  (crash_H h.hd).mono fun _ _ ⟨a, b⟩ => ⟨a, h.op b ((h.inv d rfl).crash)⟩

theorem KW.wake (h : KW w wx p G n m d S M gs vs) (vb : Value) (bits : List Bool) (hb : Bls w vb bits) (hl : bits.length ≤ 140737488355328) : Calls Try.prog 22 #[p, vb] wx fun e w' => e = ret0 ∧ ∃ S', KW w w' p G n m (wakeD d bits) S' M gs vs := by
  refine (wake_H h.hd vb bits hl (hb.mod h.mod) ?_).mono fun _ _ ⟨a, b⟩ => ⟨a, h.op b ((h.inv d rfl).wake bits)⟩
  intro k hk q
  have := h.own k q
  obtain ⟨a, c, rfl, ⟨rfl, _⟩ | ⟨b, o, rfl, hb, _⟩⟩ := hb
  · simp [Value.ownBlock] at hk
  · simp [Value.ownBlock] at hk
    omega

theorem KW.read (h : KW w wx p G n m d S M gs vs) (k : Int) : Calls Try.prog 20 #[p, .int .i64 k] wx fun e w' => ∃ v, e = .returned (.tuple #[v, .int .i64 (readE d k)]) ∧ (readE d k = 0 → Byt w' (fun j => wx.heap.size ≤ j) v (last d k)) ∧ Mod (fun _ => False) wx w' := by
  refine (read_H h.hd h.inv k).mono ?_
  rintro e w' ⟨v, rfl, hb, hm⟩
  refine ⟨v, rfl, fun q => ?_, hm⟩
  have hl := last_length (h.inv d rfl) k
  rcases hb with ⟨hb, _⟩ | hb
  · simp only [readB', q, if_true] at hb
    rw [hb] at hl; simp at hl
  · simp only [readB', q, if_true] at hb
    exact hb

theorem readE_ok {d : Dv} (hd : d.down = false) {k : Int} (h0 : 0 ≤ k) (h1 : k < d.sectors) : readE d k = 0 := by
  rw [readE, if_neg (by simp [hd]), if_pos ⟨h0, h1⟩]

theorem beq_flip (a b : Bs) : Value.bool (a == b) = Value.bool (false || decide (b = a)) := by
  by_cases e : b = a
  · subst e; simp
  · have e' : ¬ a = b := fun q => e q.symm
    simp [e, e']

theorem pickM_lt (x : Int) {n : Int} (h : 1 ≤ n) : 0 ≤ pickM x n ∧ pickM x n < n := by
  unfold pickM
  rw [if_neg (by omega)]
  exact ⟨Int.emod_nonneg _ (by omega), Int.emod_lt_of_pos _ (by omega)⟩
end
end Go.Proofs.Ytaaoabfmelpcpaa
