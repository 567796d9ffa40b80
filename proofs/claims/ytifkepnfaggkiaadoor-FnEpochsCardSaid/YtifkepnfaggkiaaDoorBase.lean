/- Readings of Go data in memory, and ownership of new memory, by shape: plain definitions and their stability. No program is named here. -/
import Derived.WalkKit
import Derived.Lib.Hide
import Derived.Deep.Draws
import Derived.Deep.QuietTactic
import Derived.BigQuiet
import Derived.WalkSpells
import Derived.WalkLawsBesides
namespace Go.Proofs.YtifkepnfaggkiaaDoor
open Go.RowKit
set_option linter.unusedVariables false

def I64 (n : Int) : Prop := -9223372036854775808 ≤ n ∧ n ≤ 9223372036854775807

/-- w' is w with new blocks: nothing that was there has turned -/
def Ext (w w' : World) : Prop := Below w.heap.size w w'

theorem Ext.refl (w : World) : Ext w w := Below.refl _ _
theorem Ext.trans {a b c : World} (h : Ext a b) (k : Ext b c) : Ext a c := Below.trans h (Below.mono k h.size)
theorem Ext.drew {a w : World} (h : Ext a w) : Ext a w.drew := Below.drew h
theorem Ext.drewN {a w : World} (h : Ext a w) (n : Nat) : Ext a (w.drewN n) := ⟨h.os, h.tape, h.output, h.size, h.block⟩
theorem Ext.alloc {a w : World} (h : Ext a w) (o : Obj) : Ext a (w.alloc o) := Below.alloc h h.size o
theorem Ext.setCell {a w : World} (h : Ext a w) {b o : Nat} (hp : a.heap.size ≤ b) (u : Value) : Ext a (w.setCell ⟨b, o, none⟩ u) := Below.setCell h hp u
theorem Ext.cell {w w' : World} (h : Ext w w') {p : Addr} {v : Value} (hp : w.cell? p = some v) : w'.cell? p = some v :=
  (Below.cell h (World.block_lt_of_cell? w p hp)).trans hp
theorem Ext.grown {a w w' : World} {row : Option Nat} (h : Ext a w) (hg : w.grownBy w' row) (hr : ∀ k, row = some k → a.heap.size ≤ k) : Ext a w' := Below.grown h hg h.size hr

/-- the cells es lie in block b from offset o on -/
def Cells (w : World) (b o : Nat) (es : List Value) : Prop := ∀ j u, es[j]? = some u → w.cell? ⟨b, o + j, none⟩ = some u

theorem Cells.ext {w w' : World} {b o : Nat} {es : List Value} (h : Ext w w') (hc : Cells w b o es) : Cells w' b o es := fun j u hu => h.cell (hc j u hu)
theorem Cells.at {w : World} {b o : Nat} {es : List Value} (h : Cells w b o es) (j : Nat) (hj : j < es.length) : w.cell? ⟨b, o + j, none⟩ = some es[j] := h j _ (List.getElem?_eq_getElem hj)

/-- blocks as they were -/
def Same (fp : List Nat) (w w' : World) : Prop := ∀ b ∈ fp, w'.heap[b]? = w.heap[b]?

/-- HOW A DATUM LIES IN CELLS: 'rd': they read as x; 'ow': they read as x, and the blocks fp are all that they lead to, each met once. -/
structure Shape (α : Type) where
  k : Nat
  rd : World → List Value → α → Prop
  ow : World → List Value → α → List Nat → Prop
  len : ∀ {w cs x}, rd w cs x → cs.length = k
  ext : ∀ {w w' cs x}, Ext w w' → rd w cs x → rd w' cs x
  keep : ∀ {w w' cs x fp}, Same fp w w' → ow w cs x fp → ow w' cs x fp
  read : ∀ {w cs x fp}, ow w cs x fp → rd w cs x
  lt : ∀ {w cs x fp}, ow w cs x fp → ∀ b ∈ fp, b < w.heap.size
  nodup : ∀ {w cs x fp}, ow w cs x fp → fp.Nodup

namespace Shape

/-- a datum of one cell that leads nowhere -/
def one {α : Type} (f : α → Value) (ok : α → Prop) : Shape α where
  k := 1
  rd _ cs x := cs = [f x] ∧ ok x
  ow _ cs x fp := (cs = [f x] ∧ ok x) ∧ fp = []
  len := by rintro w cs x ⟨rfl, _⟩; rfl
  ext := fun _ h => h
  keep := fun _ h => h
  read := fun h => h.1
  lt := by rintro w cs x fp ⟨_, rfl⟩ b hb; cases hb
  nodup := by rintro w cs x fp ⟨_, rfl⟩; exact List.nodup_nil

def int : Shape Int := one (fun n => .int .i64 n) I64
def byte : Shape UInt8 := one (fun n => .int .u8 n.toNat) (fun _ => True)
def bool : Shape Bool := one (fun b => .bool b) (fun _ => True)
def str : Shape ByteArray := one (fun s => .string s) (fun s => s.size ≤ maxLen)

/-- one behind the other -/
def pair {α β : Type} (S : Shape α) (T : Shape β) : Shape (α × β) where
  k := S.k + T.k
  rd w cs x := ∃ c1 c2, cs = c1 ++ c2 ∧ S.rd w c1 x.1 ∧ T.rd w c2 x.2
  ow w cs x fp := ∃ c1 c2 f1 f2, cs = c1 ++ c2 ∧ S.ow w c1 x.1 f1 ∧ T.ow w c2 x.2 f2 ∧ fp = f1 ++ f2 ∧ fp.Nodup
  len := by rintro w cs x ⟨c1, c2, rfl, h1, h2⟩; rw [List.length_append, S.len h1, T.len h2]
  ext := by rintro w w' cs x hx ⟨c1, c2, rfl, h1, h2⟩; exact ⟨c1, c2, rfl, S.ext hx h1, T.ext hx h2⟩
  keep := by
    rintro w w' cs x fp hs ⟨c1, c2, f1, f2, rfl, h1, h2, rfl, hn⟩
    exact ⟨c1, c2, f1, f2, rfl, S.keep (fun b hb => hs b (List.mem_append_left _ hb)) h1, T.keep (fun b hb => hs b (List.mem_append_right _ hb)) h2, rfl, hn⟩
  read := by rintro w cs x fp ⟨c1, c2, f1, f2, rfl, h1, h2, _⟩; exact ⟨c1, c2, rfl, S.read h1, T.read h2⟩
  lt := by
    rintro w cs x fp ⟨c1, c2, f1, f2, rfl, h1, h2, rfl, _⟩ b hb
    rcases List.mem_append.1 hb with hb | hb
    · exact S.lt h1 b hb
    · exact T.lt h2 b hb
  nodup := by rintro w cs x fp ⟨c1, c2, f1, f2, _, _, _, _, hn⟩; exact hn

/-- the same cells under another name -/
def via {α β : Type} (S : Shape α) (f : β → α) : Shape β where
  k := S.k
  rd w cs x := S.rd w cs (f x)
  ow w cs x fp := S.ow w cs (f x) fp
  len := S.len
  ext := S.ext
  keep := S.keep
  read := S.read
  lt := S.lt
  nodup := S.nodup

/-- the cells of a list's elements, one behind the other, each with its own footprint -/
def rows {α : Type} (S : Shape α) (w : World) : List (List Value) → List α → List (List Nat) → Prop
  | [], [], [] => True
  | c :: cs, x :: xs, f :: fs => S.ow w c x f ∧ rows S w cs xs fs
  | _, _, _ => False

theorem rows_keep {α : Type} (S : Shape α) {w w' : World} : ∀ {cs : List (List Value)} {xs : List α} {fs : List (List Nat)}, Same fs.flatten w w' → rows S w cs xs fs → rows S w' cs xs fs
  | [], [], [], _, _ => trivial
  | c :: cs, x :: xs, f :: fs, hs, h =>
    ⟨S.keep (fun b hb => hs b (by simp [hb])) h.1, rows_keep S (fun b hb => hs b (by rw [List.flatten_cons]; exact List.mem_append_right _ hb)) h.2⟩
  | [], [], _ :: _, _, h | [], _ :: _, _, _, h | _ :: _, [], _, _, h | _ :: _, _ :: _, [], _, h => h.elim

theorem rows_length {α : Type} (S : Shape α) {w : World} : ∀ {cs : List (List Value)} {xs : List α} {fs : List (List Nat)}, rows S w cs xs fs → cs.length = xs.length ∧ fs.length = xs.length
  | [], [], [], _ => ⟨rfl, rfl⟩
  | _ :: cs, _ :: xs, _ :: fs, h => by have := rows_length S h.2; simp [this.1, this.2]
  | [], [], _ :: _, h | [], _ :: _, _, h | _ :: _, [], _, h | _ :: _, _ :: _, [], h => h.elim

theorem rows_lt {α : Type} (S : Shape α) {w : World} : ∀ {cs : List (List Value)} {xs : List α} {fs : List (List Nat)}, rows S w cs xs fs → ∀ b ∈ fs.flatten, b < w.heap.size
  | [], [], [], _, b, hb => by simp at hb
  | _ :: cs, _ :: xs, _ :: fs, h, b, hb => by
    rw [List.flatten_cons] at hb
    rcases List.mem_append.1 hb with hb | hb
    · exact S.lt h.1 b hb
    · exact rows_lt S h.2 b hb
  | [], [], _ :: _, h, _, _ | [], _ :: _, _, h, _, _ | _ :: _, [], _, h, _, _ | _ :: _, _ :: _, [], h, _, _ => h.elim

theorem rows_at {α : Type} (S : Shape α) {w : World} : ∀ {cs : List (List Value)} {xs : List α} {fs : List (List Nat)}, rows S w cs xs fs → ∀ i (h : i < xs.length), ∃ c f, cs[i]? = some c ∧ fs[i]? = some f ∧ S.ow w c xs[i] f
  | [], [], [], _, i, h => by simp at h
  | c :: cs, x :: xs, f :: fs, h, 0, _ => ⟨c, f, rfl, rfl, h.1⟩
  | c :: cs, x :: xs, f :: fs, h, i + 1, hi => by
    obtain ⟨c', f', h1, h2, h3⟩ := rows_at S h.2 i (by simpa using hi)
    exact ⟨c', f', by simpa using h1, by simpa using h2, by simpa using h3⟩
  | [], [], _ :: _, h, _, _ | [], _ :: _, _, h, _, _ | _ :: _, [], _, h, _, _ | _ :: _, _ :: _, [], h, _, _ => h.elim

theorem rows_flat {α : Type} (S : Shape α) {w : World} : ∀ {cs : List (List Value)} {xs : List α} {fs : List (List Nat)}, rows S w cs xs fs → cs.flatten.length = xs.length * S.k
  | [], [], [], _ => by simp
  | c :: cs, x :: xs, f :: fs, h => by
    have h1 := rows_flat S h.2
    have h2 := S.len (S.read h.1)
    rw [List.flatten_cons, List.length_append, h1, h2, List.length_cons, Nat.add_mul, Nat.one_mul, Nat.add_comm]
  | [], [], _ :: _, h | [], _ :: _, _, h | _ :: _, [], _, h | _ :: _, _ :: _, [], h => h.elim

/-- where a row's cells lie among all -/
theorem rows_cell {α : Type} (S : Shape α) {w : World} : ∀ {cs : List (List Value)} {xs : List α} {fs : List (List Nat)}, rows S w cs xs fs → ∀ i c, cs[i]? = some c → ∀ j u, c[j]? = some u → cs.flatten[i * S.k + j]? = some u
  | [], [], [], _, i, c, hc, _, _, _ => by simp at hc
  | c0 :: cs, x :: xs, f :: fs, h, i, c, hc, j, u, hu => by
    have hl := S.len (S.read h.1)
    have hj : j < c.length := (List.getElem?_eq_some_iff.1 hu).1
    cases i with
    | zero =>
      simp at hc
      subst hc
      rw [List.flatten_cons, Nat.zero_mul, Nat.zero_add, List.getElem?_append_left (by omega)]
      exact hu
    | succ i =>
      have := rows_cell S h.2 i c (by simpa using hc) j u hu
      rw [List.flatten_cons, List.getElem?_append_right (by rw [hl, Nat.add_mul]; omega)]
      rw [← this]
      congr 1
      rw [hl, Nat.add_mul]
      omega
  | [], [], _ :: _, h, _, _, _, _, _, _ | [], _ :: _, _, h, _, _, _, _, _, _ | _ :: _, [], _, h, _, _, _, _, _, _ | _ :: _, _ :: _, [], h, _, _, _, _, _, _ => h.elim

theorem rows_append {α : Type} (S : Shape α) {w : World} : ∀ {cs : List (List Value)} {xs : List α} {fs : List (List Nat)} {cs' : List (List Value)} {xs' : List α} {fs' : List (List Nat)},
    rows S w cs xs fs → rows S w cs' xs' fs' → rows S w (cs ++ cs') (xs ++ xs') (fs ++ fs')
  | [], [], [], _, _, _, _, h => h
  | _ :: _, _ :: _, _ :: _, _, _, _, h, h' => ⟨h.1, rows_append S h.2 h'⟩
  | [], [], _ :: _, _, _, _, h, _ | [], _ :: _, _, _, _, _, h, _ | _ :: _, [], _, _, _, _, h, _ | _ :: _, _ :: _, [], _, _, _, h, _ => h.elim

theorem block_cell {w : World} {g e : Nat} {cur : Array Value} (hg : w.heap[g]? = some (.cells cur e (0, 0))) (i : Nat) : w.cell? ⟨g, i, none⟩ = cur[i]? := cell_of_row w g i cur e (0, 0) hg

/-- a slice whose elements have the shape S; 'e': the element type's number (for ownership alone) -/
def sl {α : Type} (e : Nat) (S : Shape α) : Shape (List α) where
  k := 1
  rd w cs l := ∃ A c, cs = [.slice A l.length c] ∧ l.length ≤ c ∧ c ≤ maxLen ∧
    (0 < l.length → ∃ b off, A = some ⟨b, off, none⟩ ∧ ∀ i (h : i < l.length), ∃ es, Cells w b (off + i * S.k) es ∧ S.rd w es l[i])
  ow w cs l fp := ∃ v xs fs, cs = [v] ∧ w.ownsRow 0 e S.k v l.length xs.flatten ∧ S.rows w xs l fs ∧ fp = v.ownBlock.toList ++ fs.flatten ∧ fp.Nodup
  len := by rintro w cs l ⟨A, c, rfl, _⟩; rfl
  ext := by
    rintro w w' cs l hx ⟨A, c, rfl, hl, hm, hc⟩
    refine ⟨A, c, rfl, hl, hm, fun h0 => ?_⟩
    obtain ⟨b, off, hA, hi⟩ := hc h0
    refine ⟨b, off, hA, fun i h => ?_⟩
    obtain ⟨es, h2, h3⟩ := hi i h
    exact ⟨es, h2.ext hx, S.ext hx h3⟩
  keep := by
    rintro w w' cs l fp hs ⟨v, xs, fs, rfl, ho, hr, rfl, hn⟩
    refine ⟨v, xs, fs, rfl, ?_, rows_keep S (fun b hb => hs b (List.mem_append_right _ hb)) hr, rfl, hn⟩
    refine ⟨ho.1, ?_⟩
    rcases ho.2 with h | ⟨g, cap, cur, rfl, hb, hg, rest⟩
    · exact .inl h
    · exact .inr ⟨g, cap, cur, rfl, hb, (hs g (List.mem_append_left _ (by simp [Value.ownBlock]))).trans hg, rest⟩
  read := by
    rintro w cs l fp ⟨v, xs, fs, rfl, ho, hr, rfl, hn⟩
    rcases ho.2 with ⟨rfl, h0⟩ | ⟨g, cap, cur, rfl, hb, hg, hnc, hcm, hcs, htake⟩
    · refine ⟨none, 0, by rw [h0], by omega, by simp [maxLen], fun h => by omega⟩
    · refine ⟨some ⟨g, 0, none⟩, cap, rfl, hnc, hcm, fun h0 => ⟨g, 0, rfl, fun i hi => ?_⟩⟩
      obtain ⟨c, f, h1, h2, h3⟩ := rows_at S hr i hi
      refine ⟨c, fun j u hu => ?_, S.read h3⟩
      have := rows_cell S hr i c h1 j u hu
      rw [block_cell hg, Nat.zero_add]
      rw [← htake, List.getElem?_take] at this
      split at this
      · simpa using this
      · cases this
  lt := by
    rintro w cs l fp ⟨v, xs, fs, rfl, ho, hr, rfl, hn⟩ b hb
    rcases List.mem_append.1 hb with hb | hb
    · exact (ho.lt b (by simpa using hb)).2
    · exact rows_lt S hr b hb
  nodup := by rintro w cs l fp ⟨v, xs, fs, _, _, _, _, hn⟩; exact hn

theorem sl_at {α : Type} {e : Nat} {S : Shape α} {w : World} {A : Option Addr} {c n : Nat} {l : List α} (h : (sl e S).rd w [.slice A n c] l) {i : Nat} (hi : i < l.length) :
    ∃ b off es, A = some ⟨b, off, none⟩ ∧ Cells w b (off + i * S.k) es ∧ S.rd w es l[i] := by
  obtain ⟨A', c', hv, _, _, hc⟩ := h
  injection hv with hv
  injection hv with h1 h2 h3
  subst h1
  obtain ⟨b, off, hA, hi'⟩ := hc (by omega)
  obtain ⟨es, h2, h3⟩ := hi' i hi
  exact ⟨b, off, es, hA, h2, h3⟩

theorem sl_form {α : Type} {e : Nat} {S : Shape α} {w : World} {v : Value} {l : List α} (h : (sl e S).rd w [v] l) : ∃ A c, v = .slice A l.length c ∧ l.length ≤ c ∧ c ≤ maxLen := by
  obtain ⟨A, c, hv, h1, h2, _⟩ := h
  injection hv with hv
  exact ⟨A, c, hv, h1, h2⟩

theorem str_at {e : Nat} {w : World} {A : Option Addr} {c n : Nat} {l : List ByteArray} (h : (sl e str).rd w [.slice A n c] l) {i : Nat} (hi : i < l.length) :
    ∃ b off, A = some ⟨b, off, none⟩ ∧ w.cell? ⟨b, off + i, none⟩ = some (.string l[i]) ∧ l[i].size ≤ maxLen := by
  obtain ⟨b, off, es, hA, hc, rfl, hs⟩ := sl_at h hi
  exact ⟨b, off, hA, by simpa [str, one] using hc 0 _ rfl, hs⟩
theorem int_at {e : Nat} {w : World} {A : Option Addr} {c n : Nat} {l : List Int} (h : (sl e int).rd w [.slice A n c] l) {i : Nat} (hi : i < l.length) :
    ∃ b off, A = some ⟨b, off, none⟩ ∧ w.cell? ⟨b, off + i, none⟩ = some (.int .i64 l[i]) ∧ I64 l[i] := by
  obtain ⟨b, off, es, hA, hc, rfl, hs⟩ := sl_at h hi
  exact ⟨b, off, hA, by simpa [int, one] using hc 0 _ rfl, hs⟩
theorem byte_at {e : Nat} {w : World} {A : Option Addr} {c n : Nat} {l : List UInt8} (h : (sl e byte).rd w [.slice A n c] l) {i : Nat} (hi : i < l.length) :
    ∃ b off, A = some ⟨b, off, none⟩ ∧ w.cell? ⟨b, off + i, none⟩ = some (.int .u8 l[i].toNat) := by
  obtain ⟨b, off, es, hA, hc, rfl, hs⟩ := sl_at h hi
  exact ⟨b, off, hA, by simpa [byte, one] using hc 0 _ rfl⟩

/-- the slice's first n elements -/
theorem sl_take {α : Type} {e : Nat} {S : Shape α} {w : World} {A : Option Addr} {c m : Nat} {l : List α} (n : Nat) (hn : n ≤ l.length) (h : (sl e S).rd w [.slice A m c] l) :
    (sl e S).rd w [.slice A n c] (l.take n) := by
  obtain ⟨A', c', hv, hl, hm, hc⟩ := h
  injection hv with hv
  injection hv with h1 h2 h3
  subst h1; subst h3
  refine ⟨A, c, by rw [List.length_take, Nat.min_eq_left hn], by rw [List.length_take]; omega, hm, fun h0 => ?_⟩
  rw [List.length_take] at h0
  obtain ⟨b, off, hA, hi⟩ := hc (by omega)
  refine ⟨b, off, hA, fun i h => ?_⟩
  rw [List.length_take] at h
  obtain ⟨es, h2, h3⟩ := hi i (by omega)
  exact ⟨es, h2, by rw [List.getElem_take]; exact h3⟩

theorem sl_nil {α : Type} {e : Nat} {S : Shape α} {w : World} : (sl e S).rd w [.slice none 0 0] [] := ⟨none, 0, rfl, by simp, by simp [maxLen], fun h => by simp at h⟩

end Shape

namespace Shape
/-- owned, and every block lies from lo on and below hi -/
def own {α : Type} (S : Shape α) (lo hi : Nat) (w : World) (cs : List Value) (x : α) : Prop := ∃ fp, S.ow w cs x fp ∧ ∀ b ∈ fp, lo ≤ b ∧ b < hi

section
variable {α β : Type} {S : Shape α} {T : Shape β} {lo hi : Nat} {w w' : World} {cs cs' : List Value} {x : α} {y : β}
theorem own.rd (h : S.own lo hi w cs x) : S.rd w cs x := by obtain ⟨fp, h, _⟩ := h; exact S.read h
theorem own.keep (h : S.own lo hi w cs x) (hs : ∀ b, lo ≤ b → b < hi → w'.heap[b]? = w.heap[b]?) : S.own lo hi w' cs x := by
  obtain ⟨fp, h, hb⟩ := h
  exact ⟨fp, S.keep (fun b hb' => hs b (hb b hb').1 (hb b hb').2) h, hb⟩
theorem own.ext (h : S.own lo hi w cs x) (hx : Ext w w') (hh : hi ≤ w.heap.size) : S.own lo hi w' cs x := h.keep fun b _ hb => hx.block b (by omega)
theorem own.setCell (h : S.own lo hi w cs x) {g o : Nat} (hp : g < lo ∨ hi ≤ g) (u : Value) : S.own lo hi (w.setCell ⟨g, o, none⟩ u) cs x :=
  h.keep fun b h1 h2 => Below.heap_setCell _ _ _ _ (by show b ≠ g; omega)
theorem own.alloc (h : S.own lo hi w cs x) (hh : hi ≤ w.heap.size) (o : Obj) : S.own lo hi (w.alloc o) cs x := h.keep fun b _ hb => Below.heap_alloc _ _ _ (by omega)
theorem own.drew (h : S.own lo hi w cs x) : S.own lo hi w.drew cs x := h.keep fun _ _ _ => rfl
theorem own.drewN (h : S.own lo hi w cs x) (n : Nat) : S.own lo hi (w.drewN n) cs x := h.keep fun _ _ _ => rfl
theorem own.wide (h : S.own lo hi w cs x) {lo' hi' : Nat} (h1 : lo' ≤ lo) (h2 : hi ≤ hi') : S.own lo' hi' w cs x := by
  obtain ⟨fp, h, hb⟩ := h
  exact ⟨fp, h, fun b hb' => by have := hb b hb'; omega⟩
theorem own.pair {m m' : Nat} (h1 : S.own lo m w cs x) (hm : m ≤ m') (h2 : T.own m' hi w cs' y) (hlo : lo ≤ m') (hhi : m ≤ hi) : (S.pair T).own lo hi w (cs ++ cs') (x, y) := by
  obtain ⟨f1, a1, b1⟩ := h1
  obtain ⟨f2, a2, b2⟩ := h2
  refine ⟨f1 ++ f2, ⟨cs, cs', f1, f2, rfl, a1, a2, rfl, ?_⟩, fun b hb => ?_⟩
  · rw [List.nodup_append]
    refine ⟨S.nodup a1, T.nodup a2, fun a ha b hb e => ?_⟩
    have := b1 a ha
    have := b2 b hb
    omega
  · rcases List.mem_append.1 hb with hb | hb
    · have := b1 b hb; omega
    · have := b2 b hb; omega
theorem own.via {γ : Type} {f : γ → α} {z : γ} (h : S.own lo hi w cs (f z)) : (S.via f).own lo hi w cs z := h
end
theorem own_int {lo hi : Nat} {w : World} {n : Int} (h : I64 n) : int.own lo hi w [.int .i64 n] n := ⟨[], ⟨⟨rfl, h⟩, rfl⟩, by simp⟩
theorem own_bool {lo hi : Nat} {w : World} {b : Bool} : bool.own lo hi w [.bool b] b := ⟨[], ⟨⟨rfl, trivial⟩, rfl⟩, by simp⟩
theorem own_str {lo hi : Nat} {w : World} {s : ByteArray} (h : s.size ≤ maxLen) : str.own lo hi w [.string s] s := ⟨[], ⟨⟨rfl, h⟩, rfl⟩, by simp⟩
theorem own_byte {lo hi : Nat} {w : World} {n : UInt8} : byte.own lo hi w [.int .u8 n.toNat] n := ⟨[], ⟨⟨rfl, trivial⟩, rfl⟩, by simp⟩

/-- a row of n elements in the block g that is being filled: the first ones are l -/
def Fill {α : Type} (S : Shape α) (e g n : Nat) (w : World) (l : List α) : Prop :=
  ∃ xs fs z, w.heap[g]? = some (.cells (xs.flatten ++ z).toArray e (0, 0)) ∧ z.length = (n - l.length) * S.k ∧ l.length ≤ n ∧ S.rows w xs l fs ∧ fs.flatten.Nodup ∧ ∀ b ∈ fs.flatten, g < b ∧ b < w.heap.size

def putRow (w : World) (g : Nat) : Nat → List Value → World
  | _, [] => w
  | o, c :: cs => putRow (w.setCell ⟨g, o, none⟩ c) g (o + 1) cs

theorem putRow_other (g b : Nat) (hb : b ≠ g) : ∀ (cs : List Value) (o : Nat) (w : World), (putRow w g o cs).heap[b]? = w.heap[b]?
  | [], _, _ => rfl
  | c :: cs, o, w => (putRow_other g b hb cs (o + 1) _).trans (Below.heap_setCell _ _ _ _ hb)
theorem putRow_size (g : Nat) : ∀ (cs : List Value) (o : Nat) (w : World), (putRow w g o cs).heap.size = w.heap.size
  | [], _, _ => rfl
  | c :: cs, o, w => (putRow_size g cs (o + 1) _).trans (by simp [World.setCell])
theorem putRow_block (g e : Nat) : ∀ (cs : List Value) (pre z : List Value) (w : World), w.heap[g]? = some (.cells (pre ++ z).toArray e (0, 0)) → cs.length ≤ z.length →
    (putRow w g pre.length cs).heap[g]? = some (.cells (pre ++ cs ++ z.drop cs.length).toArray e (0, 0))
  | [], pre, z, w, h, _ => by simpa [putRow] using h
  | c :: cs, pre, [], w, h, hl => by simp at hl
  | c :: cs, pre, z0 :: z, w, h, hl => by
    have h1 : (w.setCell ⟨g, pre.length, none⟩ c).heap[g]? = some (.cells ((pre ++ [c]) ++ z).toArray e (0, 0)) := by
      simp [World.setCell, Array.getElem?_modify, h]
    have h2 := putRow_block g e cs (pre ++ [c]) z _ h1 (by simpa using hl)
    rw [List.length_append, List.length_singleton] at h2
    simp only [putRow]
    rw [h2]
    simp

section
variable {α : Type} {S : Shape α} {e g n : Nat} {w w1 : World} {l : List α}
theorem Fill.start {base : Nat} {v : Value} {zs : List Value} (h : w.ownsRow base e S.k (.slice (some ⟨g, 0, none⟩) n n) n zs) : Fill S e g n w [] := by
  rcases h.2 with ⟨h0, _⟩ | ⟨g', cap, cur, hv, _, hg, _, _, hs, _⟩
  · cases h0
  · injection hv with h1 h2 h3
    injection h1 with h1
    injection h1 with h1
    subst h1; subst h3
    exact ⟨[], [], cur.toList, by simpa using hg, by simpa using hs, by simp, trivial, by simp, by simp⟩
theorem Fill.ext (h : Fill S e g n w l) (hx : Ext w w1) : Fill S e g n w1 l := by
  obtain ⟨xs, fs, z, hg, hz, hl, hr, hn, hb⟩ := h
  have hlt : g < w.heap.size := (Array.getElem?_eq_some_iff.1 hg).1
  exact ⟨xs, fs, z, (hx.block g hlt).trans hg, hz, hl, rows_keep S (fun b hb' => hx.block b (hb b hb').2) hr, hn, fun b hb' => by have := hb b hb'; have := hx.size; omega⟩
theorem Fill.step (h : Fill S e g n w l) (hx : Ext w w1) {cs : List Value} {x : α} (ho : S.own w.heap.size w1.heap.size w1 cs x) (hl : l.length < n) : Fill S e g n (putRow w1 g (l.length * S.k) cs) (l ++ [x]) := by
  obtain ⟨xs, fs, z, hg, hz, hle, hr, hn, hb⟩ := h
  obtain ⟨f, how, hf⟩ := ho
  have hlt : g < w.heap.size := (Array.getElem?_eq_some_iff.1 hg).1
  have hsz := hx.size
  have hg1 := (hx.block g hlt).trans hg
  have hr1 : S.rows w1 xs l fs := rows_keep S (fun b hb' => hx.block b (hb b hb').2) hr
  have hflat := rows_flat S hr1
  have hk := S.len (S.read how)
  have hz' : cs.length ≤ z.length := by
    rw [hz, hk]
    exact Nat.le_trans (Nat.le_of_eq (Nat.one_mul _).symm) (Nat.mul_le_mul_right _ (by omega))
  have hblk := putRow_block g e cs xs.flatten z w1 hg1 hz'
  rw [hflat] at hblk
  have hoth : ∀ b, b ≠ g → (putRow w1 g (l.length * S.k) cs).heap[b]? = w1.heap[b]? := fun b hb => putRow_other g b hb _ _ _
  refine ⟨xs ++ [cs], fs ++ [f], z.drop cs.length, by rw [hblk]; simp, ?_, by simp; omega, ?_, ?_, ?_⟩
  · rw [List.length_drop, hz, hk, List.length_append, List.length_singleton]
    have : n - l.length = (n - (l.length + 1)) + 1 := by omega
    rw [this, Nat.add_mul, Nat.one_mul, Nat.add_sub_cancel]
  · refine rows_append S (rows_keep S (fun b hb' => hoth b (by have := hb b hb'; omega)) hr1) ⟨S.keep (fun b hb' => hoth b (by have := hf b hb'; omega)) how, trivial⟩
  · rw [List.flatten_append, List.nodup_append]
    refine ⟨hn, by simpa using S.nodup how, fun a ha b hb' e => ?_⟩
    have := hb a ha
    have := hf b (by simpa using hb')
    omega
  · intro b hb'
    rw [putRow_size]
    rw [List.flatten_append] at hb'
    rcases List.mem_append.1 hb' with h1 | h1
    · have := hb b h1; omega
    · have := hf b (by simpa using h1); omega
theorem Fill.done (h : Fill S e g n w l) (hl : l.length = n) (hm : n ≤ maxLen) : (sl e S).own g w.heap.size w [.slice (some ⟨g, 0, none⟩) n n] l := by
  obtain ⟨xs, fs, z, hg, hz, hle, hr, hn, hb⟩ := h
  subst hl
  have hflat := rows_flat S hr
  have hz0 : z = [] := List.eq_nil_of_length_eq_zero (by simpa using hz)
  subst hz0
  rw [List.append_nil] at hg
  have hlt : g < w.heap.size := (Array.getElem?_eq_some_iff.1 hg).1
  refine ⟨g :: fs.flatten, ⟨_, xs, fs, rfl, ⟨hflat, .inr ⟨g, l.length, xs.flatten.toArray, rfl, Nat.zero_le _, hg, Nat.le_refl _, hm, by simpa using hflat, by rw [← hflat]; exact List.take_length⟩⟩, hr, rfl, ?_⟩, ?_⟩
  · show (g :: fs.flatten).Nodup
    rw [List.nodup_cons]
    exact ⟨fun h => by have := hb g h; omega, hn⟩
  · intro b hb'
    rcases List.mem_cons.1 hb' with rfl | h1
    · omega
    · have := hb b h1; omega
/-- the cells that the next element goes to -/
theorem Fill.room (h : Fill S e g n w l) (hl : l.length < n) (j : Nat) (hj : j < S.k) : (∃ u, w.cell? ⟨g, l.length * S.k + j, none⟩ = some u) ∧ w.frozen? ⟨g, l.length * S.k + j, none⟩ = false := by
  obtain ⟨xs, fs, z, hg, hz, hle, hr, hn, hb⟩ := h
  have hflat := rows_flat S hr
  refine ⟨?_, by simp [World.frozen?, hg]⟩
  rw [block_cell hg]
  have h1 : S.k ≤ z.length := by
    rw [hz]
    exact Nat.le_trans (Nat.le_of_eq (Nat.one_mul _).symm) (Nat.mul_le_mul_right _ (by omega))
  have h2 : l.length * S.k + j < (xs.flatten ++ z).length := by rw [List.length_append, hflat]; omega
  exact ⟨_, (by rw [List.getElem?_toArray]; exact List.getElem?_eq_getElem h2)⟩
theorem Fill.lt (h : Fill S e g n w l) : g < w.heap.size := by obtain ⟨xs, fs, z, hg, _⟩ := h; exact (Array.getElem?_eq_some_iff.1 hg).1
end
end Shape

/-- a block that is known whole -/
def Blk (w : World) (g t : Nat) (cs : Array Value) : Prop := w.heap[g]? = some (.cells cs t (0, 0))
section
variable {w w' : World} {g t : Nat} {cs : Array Value}
theorem Blk.lt (h : Blk w g t cs) : g < w.heap.size := (Array.getElem?_eq_some_iff.1 h).1
theorem Blk.cell (h : Blk w g t cs) (i : Nat) : w.cell? ⟨g, i, none⟩ = cs[i]? := cell_of_row w g i cs t (0, 0) h
theorem Blk.frozen (h : Blk w g t cs) (i : Nat) : w.frozen? ⟨g, i, none⟩ = false := by
  unfold Blk at h
  simp [World.frozen?, h]
theorem Blk.new (w : World) (t : Nat) (cs : Array Value) : Blk (w.alloc (.cells cs t)) w.heap.size t cs := heap_alloc_new w _
theorem Blk.new_at {w : World} {n t : Nat} {cs : Array Value} (h : n = w.heap.size) : Blk (w.alloc (.cells cs t)) n t cs := h ▸ heap_alloc_new w _
theorem Blk.drew (h : Blk w g t cs) : Blk w.drew g t cs := h
theorem Blk.alloc (h : Blk w g t cs) (o : Obj) : Blk (w.alloc o) g t cs := (Below.heap_alloc w o g h.lt).trans h
theorem Blk.set_ (h : Blk w g t cs) (i : Nat) (u : Value) : Blk (w.setCell ⟨g, i, none⟩ u) g t (cs.setIfInBounds i u) := by
  unfold Blk at h ⊢
  simp [World.setCell, Array.getElem?_modify, h]
theorem Blk.far (h : Blk w g t cs) {b o : Nat} (hp : g ≠ b) (u : Value) : Blk (w.setCell ⟨b, o, none⟩ u) g t cs := (Below.heap_setCell w ⟨b, o, none⟩ u g hp).trans h
theorem Blk.ext (hx : Ext w w') (h : Blk w g t cs) : Blk w' g t cs := (hx.block g h.lt).trans h
end

/-- from block N on, what was there is as it was -/
def Fr (N : Nat) (w w' : World) : Prop := w.heap.size ≤ w'.heap.size ∧ ∀ b, N ≤ b → b < w.heap.size → w'.heap[b]? = w.heap[b]?
theorem Fr.refl (N : Nat) (w : World) : Fr N w w := ⟨Nat.le_refl _, fun _ _ _ => rfl⟩
theorem Fr.trans {N : Nat} {a b c : World} (h : Fr N a b) (k : Fr N b c) : Fr N a c := ⟨Nat.le_trans h.1 k.1, fun i h1 h2 => (k.2 i h1 (by have := h.1; omega)).trans (h.2 i h1 h2)⟩
theorem Fr.ext {N : Nat} {w w' : World} (h : Ext w w') : Fr N w w' := ⟨h.size, fun b _ hb => h.block b hb⟩
theorem Fr.setCell {N : Nat} {a w : World} (h : Fr N a w) {g o : Nat} (hp : g < N) (u : Value) : Fr N a (w.setCell ⟨g, o, none⟩ u) :=
  h.trans ⟨by simp [World.setCell], fun b h1 _ => Below.heap_setCell _ _ _ _ (by show b ≠ g; omega)⟩
theorem Fr.alloc {N : Nat} {a w : World} (h : Fr N a w) (o : Obj) : Fr N a (w.alloc o) := h.trans (Fr.ext ((Ext.refl w).alloc o))
theorem Fr.drew {N : Nat} {a w : World} (h : Fr N a w) : Fr N a w.drew := h.trans (Fr.ext (Ext.refl w).drew)
theorem Fr.drewN {N : Nat} {a w : World} (h : Fr N a w) (n : Nat) : Fr N a (w.drewN n) := h.trans (Fr.ext ((Ext.refl w).drewN n))
theorem Shape.own.fr {α : Type} {S : Shape α} {lo hi N : Nat} {w w' : World} {cs : List Value} {x : α} (h : S.own lo hi w cs x) (hf : Fr N w w') (h1 : N ≤ lo) (h2 : hi ≤ w.heap.size) : S.own lo hi w' cs x :=
  h.keep fun b hb1 hb2 => hf.2 b (by omega) (by omega)

/-- the call hands back a slice of its own that reads as x -/
def Gives {α : Type} (S : Shape α) (w : World) (x : α) (e : Ending) (w' : World) : Prop := (∃ r, e = .returned r ∧ S.own w.heap.size w'.heap.size w' [r] x) ∧ Ext w w'
/-- .. a struct -/
def GivesA {α : Type} (S : Shape α) (w : World) (x : α) (e : Ending) (w' : World) : Prop := (∃ r, e = .returned (.agg r.toArray) ∧ S.own w.heap.size w'.heap.size w' r x) ∧ Ext w w'

/-- a world behind w, as a datum: so that a fact on all of them is a rewrite rule without a condition -/
structure ExtOf (w : World) where
  W : World
  ok : Ext w W
instance (w : World) : Nonempty (ExtOf w) := ⟨⟨w, Ext.refl w⟩⟩

/-- A REGION THAT DRAWS ITS ORDER, its operations reading and its calls making new memory alone, each with one answer: one walk in the text's order. -/
theorem wp_region_ext {P : Program} {id : Nat} {Q : Exit → Act → World → Prop} {a : Act} {w : World} {l : List Oper} (hm : P.follows .mixedOrders = true) (hB : Region.lexB .any l.toArray = true)
    (h : wpQuiet P l.toArray (fun w' => ∃ t : ExtOf w, w' = t.W) (fun a' => ∀ w', (∃ t : ExtOf w, w' = t.W) → Q .normal a' w') l a) : (Code.region id l.toArray true).wp P Q a w :=
  wp_region_quiet (C := fun w' => ∃ t : ExtOf w, w' = t.W) hm hB ⟨⟨w.drew, (Ext.refl w).drew⟩, rfl⟩ (by simpa using h)

theorem wpList_of_quiet {P : Program} {ops : Array Oper} {C : World → Prop} {Q : Exit → Act → World → Prop} : ∀ (l : List Oper) (a : Act) (w : World), C w →
    wpQuiet P ops C (fun a' => ∀ w', C w' → Q .normal a' w') l a → wpList P ops Q l a w
  | [], a, w, hw, h => h w hw
  | o :: l, a, w, hw, h => by
    unfold wpQuiet at h
    unfold wpList
    split
    · rename_i hg
      rw [if_pos hg] at h
      exact .inl (Oper.wp_of_quiet hw (fun a w' hw' h' => wpList_of_quiet l a w' hw' h') h)
    · rename_i hg
      rw [if_neg hg] at h
      exact wpList_of_quiet l _ w hw h

/-- .. a region that draws no order -/
theorem wp_region_extp {P : Program} {id : Nat} {Q : Exit → Act → World → Prop} {a : Act} {w : World} {l : List Oper}
    (h : wpQuiet P l.toArray (fun w' => ∃ t : ExtOf w, w' = t.W) (fun a' => ∀ w', (∃ t : ExtOf w, w' = t.W) → Q .normal a' w') l a) : (Code.region id l.toArray false).wp P Q a w :=
  wp_region_lit (wpList_of_quiet l a w ⟨⟨w, Ext.refl w⟩, rfl⟩ h)

theorem Calls.ext_of {P : Program} {f : FuncId} {args : Array Value} {w : World} {t : ExtOf w} {v : Value}
    (h : Calls P f args t.W fun e w' => e = .returned v ∧ Ext t.W w') : Calls P f args t.W fun e w'' => e = .returned v ∧ ∃ t' : ExtOf w, w'' = t'.W :=
  h.mono fun _ w' ⟨he, hx⟩ => ⟨he, ⟨w', t.ok.trans hx⟩, rfl⟩
theorem Calls.ext_ofb {P : Program} {f : FuncId} {args : Array Value} {w : World} {t : ExtOf w} {b c : Bool} (hb : b = c)
    (h : Calls P f args t.W fun e w' => e = .returned (.bool b) ∧ Ext t.W w') : Calls P f args t.W fun e w'' => e = .returned (.bool c) ∧ ∃ t' : ExtOf w, w'' = t'.W := hb ▸ Calls.ext_of h
theorem Ext.cellOf {w : World} {p : Addr} {v : Value} (hp : w.cell? p = some v) : ∀ t : ExtOf w, t.W.cell? p = some v := fun t => t.ok.cell hp
theorem ext_rules {w w1 : World} (h : Ext w w1) : (∀ b o, b < w.heap.size → w1.cell? ⟨b, o, none⟩ = w.cell? ⟨b, o, none⟩) ∧ (∀ b o, b < w.heap.size → w1.frozen? ⟨b, o, none⟩ = w.frozen? ⟨b, o, none⟩) ∧ w.heap.size ≤ w1.heap.size :=
  ⟨fun b o hb => Below.cell h (p := ⟨b, o, none⟩) hb, fun b o hb => Below.frozen h (p := ⟨b, o, none⟩) hb, h.size⟩

theorem one_cell {cs : List Value} (h : cs.length = 1) : ∃ v, cs = [v] := by
  match cs, h with
  | [v], _ => exact ⟨v, rfl⟩

/-- a function that a call enters -/
def Enters (P : Program) (f : FuncId) : Prop := ∀ (as : Array Value) (w : World), (callFunc f as).run P w = .ok (.enter f as) w

/-- A CALL OF A FUNCTION VALUE THAT LIES IN A SLOT. -/
theorem wpList_callv {P : Program} {ops : Array Oper} {rest : List Oper} {o : Oper} {a : Act} {w : World} {Q : Exit → Act → World → Prop} (hgd : o.guard = none) (t : Tmp) (xs : Array Operand) (ats : Array TypeId)
    (ho : o.op = .call { callee := .value (.tmp t), args := xs, argTypes := ats }) (f : FuncId) (caps : Array Value) (ht : a.eval (.tmp t) = .func (.func f) #[] caps) (hf : Enters P f) (args : Array Value) (hargs : xs.map a.eval ++ caps = args)
    (h : ∀ K : Act → World → Prop, (∀ a w, wpList P ops Q rest a w → K a w) → Calls P f args w fun
      | .returned v, w'' => K (a.put o.dst v) w''
      | .panicked chain, w'' => Q (.panic chain) a w''
      | .outgrown, _ => LetsOut Q) : wpList P ops Q (o :: rest) a w := by
  refine wpList_plain hgd fun K hK => ?_
  unfold Oper.wp execOp
  simp only [ho, resolve, ht, Deferred.ofValue, invoke, Sem.run_bind, Sem.run_pure, Result.andThen_ok, Array.empty_append, hargs, hf args w]
  exact h K hK

/-- how much of a purse is left; -1 where it does not reach -/
def remain (left : Int) (n : Nat) : Int := if (n : Int) ≤ left then left - n else -1
theorem remain_lt {left : Int} {n : Nat} (h : left < n) : remain left n = -1 := if_neg (by omega)
theorem remain_le {left : Int} {n : Nat} (h : (n : Int) ≤ left) : remain left n = left - n := if_pos h
theorem remain_neg {left : Int} {n : Nat} (h : remain left n < 0) : left < n := by
  unfold remain at h; split at h <;> omega
theorem remain_pos {left : Int} {n : Nat} (h : 0 ≤ remain left n) : (n : Int) ≤ left ∧ remain left n = left - n := by
  unfold remain at h ⊢; split at h
  · exact ⟨by assumption, if_pos (by assumption)⟩
  · omega
theorem remain_bd (left : Int) (n : Nat) : -1 ≤ remain left n ∧ (remain left n ≤ left ∨ remain left n = -1) := by unfold remain; split <;> omega
/-- a list's size: its elements', and one for each -/
def szL {α : Type} (f : α → Nat) : List α → Nat
  | [] => 0
  | x :: l => f x + 1 + szL f l
section
variable {α : Type} (f : α → Nat)
theorem szL_snoc (l : List α) (s : α) : szL f (l ++ [s]) = szL f l + (f s + 1) := by
  induction l with
  | nil => simp [szL]
  | cons x l ih => simp only [List.cons_append, szL, ih]; omega
theorem szL_take (l : List α) (k : Nat) (h : k < l.length) : szL f (l.take (k + 1)) = szL f (l.take k) + (f l[k] + 1) := by
  rw [List.take_succ_eq_append_getElem h, szL_snoc]
theorem szL_len (l : List α) : l.length ≤ szL f l := by
  induction l with
  | nil => simp
  | cons x l ih => simp only [szL, List.length_cons]; omega
theorem szL_take_le (l : List α) (k : Nat) : szL f (l.take k) ≤ szL f l := by
  induction l generalizing k with
  | nil => simp
  | cons x l ih =>
    cases k with
    | zero => simp [szL]
    | succ k => simp only [List.take_succ_cons, szL]; have := ih k; omega
theorem szL_rest (l : List α) (k : Nat) (hk : k ≤ l.length) : szL f (l.take k) + (l.length - k) ≤ szL f l := by
  induction l generalizing k with
  | nil => simp [szL]
  | cons x l ih =>
    cases k with
    | zero => have := szL_len f (x :: l); simpa [szL] using this
    | succ k => simp only [List.take_succ_cons, szL, List.length_cons] at *; have := ih k (by omega); omega
theorem szL_at (l : List α) (k : Nat) (h : k < l.length) : f l[k] < szL f l := by
  have h1 := szL_take f l k h
  have h2 := szL_take_le f l (k + 1)
  omega
end
theorem szL_zero {α : Type} (l : List α) : szL (fun _ => 0) l = l.length := by
  induction l with
  | nil => rfl
  | cons x l ih => simp only [szL, List.length_cons, ih]; omega

theorem ret_int {k : IntKind} {a b : Int} (h : a = b) : Ending.returned (.int k a) = .returned (.int k b) := by rw [h]
theorem ret_bool {a b : Bool} (h : a = b) : Ending.returned (.bool a) = .returned (.bool b) := by rw [h]

end Go.Proofs.YtifkepnfaggkiaaDoor
