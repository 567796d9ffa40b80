/- What is appended. -/
import Derived.Test.YtlobcaofeobgaaaEngStore
import Derived.Deep.AppendSrc
namespace Go.Proofs.Ytlobcaofeobgaaa
open Go.RowKit
set_option linter.unusedVariables false
set_option linter.unusedSimpArgs false
set_option linter.unusedSectionVars false

theorem flat_at {α : Type} {k : Nat} : ∀ {l : List (List α)}, (∀ es ∈ l, es.length = k) → ∀ (x : Nat) es, l[x]? = some es → ∀ (j : Nat) p, es[j]? = some p → l.flatten[x * k + j]? = some p
  | [], _, x, es, hx, _, _, _ => by simp at hx
  | e0 :: l, hk, 0, es, hx, j, p, hp => by
    simp only [List.getElem?_cons_zero, Option.some.injEq] at hx
    subst hx
    have : j < e0.length := (List.getElem?_eq_some_iff.1 hp).1
    rw [List.flatten_cons, Nat.zero_mul, Nat.zero_add, List.getElem?_append_left this]
    exact hp
  | e0 :: l, hk, x + 1, es, hx, j, p, hp => by
    have h0 := hk e0 (by simp)
    rw [List.flatten_cons, List.getElem?_append_right (by rw [h0, Nat.add_mul]; omega)]
    have := flat_at (l := l) (k := k) (fun es h => hk es (by simp [h])) x es (by simpa using hx) j p hp
    rw [← this]
    congr 1
    rw [h0, Nat.add_mul]
    omega
theorem flat_len {α : Type} {k : Nat} : ∀ {l : List (List α)}, (∀ es ∈ l, es.length = k) → l.flatten.length = l.length * k
  | [], _ => by simp
  | e0 :: l, hk => by
    rw [List.flatten_cons, List.length_append, hk e0 (by simp), flat_len fun es h => hk es (by simp [h]), List.length_cons, Nat.add_mul]
    omega
/-- where a flat place lies -/
theorem flat_place {k m n : Nat} (hk : 0 < k) (h : m < n * k) : m / k < n ∧ m % k < k ∧ m / k * k + m % k = m := ⟨(Nat.div_lt_iff_lt_mul hk).2 h, Nat.mod_lt _ hk, by rw [Nat.mul_comm]; exact Nat.div_add_mod m k⟩

/-- the second argument of an append, read as elements of k cells each -/
structure Took (P : Program) (w : World) (k : Nat) (tx : TypeId) (v : Value) (l : List (List Cell)) (us : List (List Value)) : Prop where
  src : Src P k tx v l.length us.flatten w
  len : us.length = l.length
  el : ∀ (x : Nat) es, l[x]? = some es → es.length = k
  uk : ∀ es ∈ us, es.length = k
theorem one_of {v : Value} (h : oneV v) : v.oneCell' = true := by
  cases v <;> first | rfl | exact absurd rfl (h.1 _) | exact absurd rfl (h.2 _)
theorem src_slice {P : Program} {w : World} {k : Nat} {tx : TypeId} (hk : (∃ e', P.underlying tx = some (.slice e')) ∨ P.underlying tx = some .string) {A : Option Addr} {n c : Nat} {us : List (List Value)} (hl : us.length = n) (huk : ∀ es ∈ us, es.length = k) (hA : ∀ (x : Nat) es, us[x]? = some es → ∃ b off, A = some ⟨b, off, none⟩ ∧ ∀ (j : Nat) u, es[j]? = some u → w.cell? ⟨b, off + x * k + j, none⟩ = some u ∧ oneV u) (hk0 : 0 < k) (hn : A = none → n = 0) :
    Src P k tx (.slice A n c) n us.flatten w := by
  cases A with
  | none =>
    have h0 := hn rfl
    subst h0
    have : us = [] := by simpa using hl
    subst this
    exact ⟨hk, fun _ => rfl, run_firstCells_none w k 0 0 c, run_firstCells_none w.drew k 0 0 c, by simp, fun _ h => by cases h⟩
  | some a =>
    have hone : ∀ u ∈ us.flatten, u.oneCell' = true := by
      intro u hu
      obtain ⟨es, hes, hu'⟩ := List.mem_flatten.1 hu
      obtain ⟨x, hx⟩ := List.getElem?_of_mem hes
      obtain ⟨j, hj⟩ := List.getElem?_of_mem hu'
      obtain ⟨b, off, _, h⟩ := hA x es hx
      exact one_of (h j u hj).2
    have hcells : ∀ (m : Nat) u, us.flatten[m]? = some u → w.cell? (a.add m) = some u := ?_
    · exact ⟨hk, fun _ => rfl, run_firstCells_some w k n a n c us.flatten (by rw [flat_len huk, hl]) hcells, run_firstCells_some w.drew k n a n c us.flatten (by rw [flat_len huk, hl]) (by simpa using hcells), by rw [flat_len huk, hl], hone⟩
    intro m u hm
    have hml : m < us.length * k := by rw [← flat_len huk]; exact (List.getElem?_eq_some_iff.1 hm).1
    obtain ⟨h1, h2, h3⟩ := flat_place hk0 hml
    have hx : us[m / k]? = some us[m / k] := List.getElem?_eq_getElem h1
    obtain ⟨b, off, hA', h⟩ := hA _ _ hx
    injection hA' with hA'
    subst hA'
    have hlen := huk us[m / k] (List.getElem_mem h1)
    have hj : us[m / k][m % k]? = some (us[m / k][m % k]'(by omega)) := List.getElem?_eq_getElem (by omega)
    have := flat_at huk _ _ hx _ _ hj
    rw [h3, hm] at this
    injection this with this
    rw [← this] at hj
    have := (h _ _ hj).1
    rw [Nat.add_assoc, h3] at this
    rw [add_eq]
    exact this
/-- n elements of k cells each, from an address on -/
def usOf (w : World) (A : Option Addr) (n k : Nat) : List (List Value) :=
  match A with
  | some a => (List.range n).map fun x => (List.range k).map fun j => (w.cell? ⟨a.block, a.off + x * k + j, none⟩).getD undef
  | none => []
theorem usOf_len {w : World} {A : Option Addr} {n k : Nat} (h : A = none → n = 0) : (usOf w A n k).length = n := by
  unfold usOf
  cases A with
  | none => simp [h rfl]
  | some a => simp
theorem usOf_k {w : World} {A : Option Addr} {n k : Nat} : ∀ es ∈ usOf w A n k, es.length = k := by
  intro es h
  unfold usOf at h
  cases A with
  | none => simp at h
  | some a =>
    obtain ⟨x, _, rfl⟩ := List.mem_map.1 h
    simp
theorem usOf_at {w : World} {a : Addr} {n k x j : Nat} {u : Value} (hx : x < n) (hj : j < k) (hu : w.cell? ⟨a.block, a.off + x * k + j, none⟩ = some u) : ((usOf w (some a) n k)[x]?).bind (·[j]?) = some u := by
  simp [usOf, hx, hj, hu]
theorem usOf_inv {w : World} {A : Option Addr} {n k x : Nat} {es : List Value} (h : (usOf w A n k)[x]? = some es) : ∃ a, A = some a ∧ x < n ∧ ∀ (j : Nat) u, es[j]? = some u → j < k ∧ u = (w.cell? ⟨a.block, a.off + x * k + j, none⟩).getD undef := by
  unfold usOf at h
  cases A with
  | none => simp at h
  | some a =>
    have hx : x < n := by have := (List.getElem?_eq_some_iff.1 h).1; simpa using this
    refine ⟨a, rfl, hx, fun j u hu => ?_⟩
    simp only [List.getElem?_map, List.getElem?_range hx, Option.map_some, Option.some.injEq] at h
    subst h
    have hj : j < k := by have := (List.getElem?_eq_some_iff.1 hu).1; simpa using this
    simp only [List.getElem?_map, List.getElem?_range hj, Option.map_some, Option.some.injEq] at hu
    exact ⟨hj, hu.symm⟩
/-- what has been taken -/
structure Taken (P : Program) (E : Env) (w : World) (k : Nat) (tx : TypeId) (v : Value) (l : List (List Cell)) (hp hp0 : List (Nm × Bk)) (m : Nm) (s0 : Nat) (E1 : Env) (us : List (List Value)) : Prop where
  turn : ∃ gone, Turn E E1 w w (fun _ => False) gone
  wf : WfE E1 w
  φ : E1.φ = E.φ
  blk : ∀ n b, look hp n = some b → BkOk E1 w n b
  nm : ∀ n b, look hp n = some b → ∃ b', look hp0 n = some b'
  took : Took P w k tx v l us
  cv : ∀ (x : Nat) es, l[x]? = some es → ∀ (j : Nat) p, es[j]? = some p → ∃ u, ((us[x]?).bind (·[j]?)) = some u ∧ CvB E1 w m (s0 + x) j p u
theorem lend_one {E : Env} {w : World} {s : Bool} {d : DT} {c : Cell} {u : Value} (h : Rd (RS E s) w u d) (hl : lendD s d = some c) : CvC E w c u ∧ oneV u := by
  unfold lendD at hl
  split at hl
  · rename_i v
    split at hl
    · rename_i hp
      injection hl with hl
      subst hl
      obtain ⟨n, h⟩ := h
      have hu : u = v := by cases n <;> exact h
      have hc : CvC E w (.at v) u := hu
      exact ⟨hc, (ok_one hc hp).2⟩
    · cases hl
  · injection hl with hl
    subst hl
    exact ⟨h, (ok_one (x := .rd s _ _ _) h rfl).2⟩
  · cases hl
theorem asrc_rd {P : Program} {E : Env} {w : World} (hW : WfE E w) {hp : List (Nm × Bk)} (hB : ∀ n b, look hp n = some b → BkOk E w n b) {k : Nat} {tx : TypeId} (hk0 : 0 < k) (hkind : (∃ e', P.underlying tx = some (.slice e')) ∨ P.underlying tx = some .string) {s : Bool} {e : Nat} {ll : List (List DT)} {v : Value} (hv : CvC E w (.rd s e k ll) v) {l : List (List Cell)} (hl : mapO (mapO (lendD s)) ll = some l) (m : Nm) (s0 : Nat) :
    ∃ us, Taken P E w k tx v l hp hp m s0 E us := by
  obtain ⟨n, hr⟩ := hv
  cases n with
  | zero => exact hr.elim
  | succ n =>
    obtain ⟨A, c, rfl, h1, h2, hj⟩ := hr
    obtain ⟨hlen, hm⟩ := mapO_at hl
    have hA0 : A = none → ll.length = 0 := by
      intro hA
      cases hll : ll with
      | nil => rfl
      | cons e0 r =>
        obtain ⟨_, b, off, hA', _⟩ := hj 0 e0 (by simp [hll])
        rw [hA] at hA'
        cases hA'
    have key : ∀ (x : Nat) es, l[x]? = some es → es.length = k ∧ ∃ a, A = some a ∧ x < ll.length ∧ ∀ (j : Nat) p, es[j]? = some p → j < k ∧ ∃ u, w.cell? ⟨a.block, a.off + x * k + j, none⟩ = some u ∧ CvC E w p u ∧ oneV u := by
      intro x es hx
      have hxl : x < ll.length := by rw [← hlen]; exact (List.getElem?_eq_some_iff.1 hx).1
      have hle : ll[x]? = some ll[x] := List.getElem?_eq_getElem hxl
      obtain ⟨es', hes', hme⟩ := hm x _ hle
      rw [hes'] at hx
      injection hx with hx
      subst hx
      obtain ⟨hlen2, hm2⟩ := mapO_at hme
      obtain ⟨hke, b, off, hA, hR, hc⟩ := hj x _ hle
      refine ⟨by rw [hlen2, hke], ⟨b, off, none⟩, hA, hxl, fun j p hp => ?_⟩
      have hjl : j < ll[x].length := by rw [← hlen2]; exact (List.getElem?_eq_some_iff.1 hp).1
      have hd : ll[x][j]? = some ll[x][j] := List.getElem?_eq_getElem hjl
      obtain ⟨c', hc', hld⟩ := hm2 j _ hd
      rw [hc'] at hp
      injection hp with hp
      subst hp
      obtain ⟨u, hu, hr⟩ := hc j _ hd
      obtain ⟨g1, g2⟩ := lend_one (E := E) ⟨n, hr⟩ hld
      exact ⟨by rw [← hke]; exact hjl, u, hu, g1, g2⟩
    refine ⟨usOf w A ll.length k, ⟨⟨fun _ => False, Turn.refl E w _⟩, hW, rfl, hB, fun n b hb => ⟨b, hb⟩, ⟨?_, by rw [usOf_len hA0, hlen], fun x es hx => (key x es hx).1, usOf_k⟩, fun x es hx j p hp => ?_⟩⟩
    · rw [hlen]
      refine src_slice hkind (usOf_len hA0) usOf_k (fun x es hx => ?_) hk0 hA0
      obtain ⟨a, hA, hxl, hes⟩ := usOf_inv hx
      have hlx : l[x]? = some (l[x]'(by omega)) := List.getElem?_eq_getElem (by omega)
      obtain ⟨hk', a', hA', _, hcell⟩ := key x _ hlx
      rw [hA] at hA'
      injection hA' with hA'
      subst hA'
      have hsp : a.spot = none := by
        obtain ⟨_, b, off, hA'', _⟩ := hj x _ (List.getElem?_eq_getElem hxl)
        rw [hA] at hA''
        injection hA'' with hA''
        rw [hA'']
      refine ⟨a.block, a.off, by rw [hA]; cases a; simp_all, fun j u hu => ?_⟩
      obtain ⟨hjk, hu'⟩ := hes j u hu
      obtain ⟨_, u2, hu2, _, ho⟩ := hcell j _ (List.getElem?_eq_getElem (by omega))
      rw [hu2] at hu'
      simp at hu'
      subst hu'
      exact ⟨hu2, ho⟩
    · obtain ⟨_, a, hA, hxl, hcell⟩ := key x es hx
      obtain ⟨hjk, u, hu, hC, _⟩ := hcell j p hp
      refine ⟨u, ?_, CvB.of_CvC hC⟩
      rw [hA]
      exact usOf_at hxl hjk hu
end Go.Proofs.Ytlobcaofeobgaaa
