/- Joined: ReadsBase, Reads. -/
import Derived.Test.YtifkepnfaggkiaaDoorBase
import Derived.Deep.Slices
import Derived.ProofKit
import Derived.Test.YtifkepnfaggkiaaDoorEnc
namespace Go.Proofs.YtifkepnfaggkiaaDoor
open Go.RowKit Go.Deep
set_option linter.unusedVariables false

def Reads {α : Type} (P : Program) (t : TypeId) (S : Shape α) : Prop :=
  ∀ (H : Type) (enc : TypeId × Value → H) (w : World) (base : Nat) (spare : Nat → Bool) (held : Bool) (fuel : Nat) (cs : List Value) (y : DataW H × List MemPlace), DataW.trod enc P w base spare held fuel t cs = some y → ∃ x, S.rd w cs x

section
variable {P : Program} {t e : TypeId} {α β : Type}
theorem reads_int (h : P.underlying t = some (.int .i64)) : Reads P t Shape.int := by
  intro H enc w base spare held fuel cs y hy
  obtain ⟨n, rfl, _, hw⟩ := DataW.trod_int h hy
  exact ⟨n, rfl, by simp [Lit.wf, IntKind.min, IntKind.max, IntKind.signed, IntKind.bits] at hw; exact ⟨by omega, by omega⟩⟩
theorem reads_byte (h : P.underlying t = some (.int .u8)) : Reads P t Shape.byte := by
  intro H enc w base spare held fuel cs y hy
  obtain ⟨n, rfl, _, hw⟩ := DataW.trod_int h hy
  simp [Lit.wf, IntKind.min, IntKind.max, IntKind.signed, IntKind.bits] at hw
  refine ⟨UInt8.ofNat n.toNat, ?_, trivial⟩
  have : (UInt8.ofNat n.toNat).toNat = n.toNat := by
    rw [UInt8.toNat_ofNat']; omega
  show [Value.int IntKind.u8 n] = [Value.int IntKind.u8 ((UInt8.ofNat n.toNat).toNat : Int)]
  rw [this, Int.toNat_of_nonneg hw.1]
theorem reads_bool (h : P.underlying t = some .bool) : Reads P t Shape.bool := by
  intro H enc w base spare held fuel cs y hy
  obtain ⟨b, rfl, _⟩ := DataW.trod_bool h hy
  exact ⟨b, rfl, trivial⟩
theorem reads_str (h : P.underlying t = some .string) : Reads P t Shape.str := by
  intro H enc w base spare held fuel cs y hy
  obtain ⟨s, rfl, _, hs⟩ := DataW.trod_string h hy
  exact ⟨s, rfl, hs⟩
theorem reads_sl {S : Shape α} {e' : Nat} (h : P.underlying t = some (.slice e)) (hk : P.cellsOf e = S.k) (hpos : 0 < S.k) (hS : Reads P e S) : Reads P t (Shape.sl e' S) := by
  intro H enc w base spare held fuel cs y hy
  rcases open_slice h hy with ⟨rfl, _⟩ | ⟨a, len, cap, m, n, D, Pl, rfl, _, hl, hm, hmm, _, hi⟩
  · exact ⟨[], Shape.sl_nil⟩
  · have hlm : len ≤ m := by rw [hmm]; split <;> omega
    have hx : ∀ i : Nat, i < len → ∃ x : α, ∃ es, w.cells? base (a.add (i * S.k)) S.k = some es ∧ S.rd w es x := fun i hi' => by
      obtain ⟨es, h1, h2⟩ := hi i (by omega)
      obtain ⟨x, h3⟩ := hS H enc w base spare held n es _ h2
      rw [hk] at h1
      exact ⟨x, es, h1, h3⟩
    have hlist : ∀ k : Nat, k ≤ len → ∃ l : List α, l.length = k ∧ ∀ i (h : i < l.length), ∃ es, w.cells? base (a.add (i * S.k)) S.k = some es ∧ S.rd w es l[i] := by
      intro k
      induction k with
      | zero => intro _; exact ⟨[], rfl, fun i h => by simp at h⟩
      | succ k ih =>
        intro hk'
        obtain ⟨l, hl1, hl2⟩ := ih (by omega)
        obtain ⟨x, es, h1, h2⟩ := hx k (by omega)
        refine ⟨l ++ [x], by simp [hl1], fun i h => ?_⟩
        rw [List.length_append, List.length_singleton] at h
        by_cases hik : i < l.length
        · rw [List.getElem_append_left hik]; exact hl2 i hik
        · have : i = k := by omega
          subst this
          refine ⟨es, h1, ?_⟩
          rw [List.getElem_append_right (by omega)]
          simpa [hl1] using h2
    obtain ⟨l, hl1, hl2⟩ := hlist len (Nat.le_refl _)
    refine ⟨l, some a, cap, by rw [hl1], by omega, hm, fun h0 => ?_⟩
    obtain ⟨es0, hc0, hr0⟩ := hl2 0 h0
    obtain ⟨_, hlen0, hat0⟩ := World.cells?_some hc0
    obtain ⟨b, off, spot⟩ := a
    have hspot : spot = none := by
      have := hat0 0 hpos
      have hes : es0[0]? = some (es0[0]'(by omega)) := List.getElem?_eq_getElem (by omega)
      rw [hes] at this
      simpa [Addr.add] using World.cell?_spot this
    subst hspot
    have hadd : ∀ n, (⟨b, off, none⟩ : Addr).add n = ⟨b, off + n, none⟩ := fun n => by unfold Addr.add; split <;> simp_all
    refine ⟨b, off, rfl, fun i h => ?_⟩
    obtain ⟨es, h1, h2⟩ := hl2 i h
    obtain ⟨_, hlen, hat⟩ := World.cells?_some h1
    refine ⟨es, fun j u hu => ?_, h2⟩
    have hj : j < S.k := by rw [← hlen]; exact (List.getElem?_eq_some_iff.1 hu).1
    have := hat j hj
    rw [hadd] at this
    have hadd2 : (⟨b, off + i * S.k, none⟩ : Addr).add j = ⟨b, off + i * S.k + j, none⟩ := by unfold Addr.add; split <;> simp_all
    rw [hadd2] at this
    rw [this, hu]

theorem rd_pair {S : Shape α} {T : Shape β} {w : World} {cs : List Value} {o n : Nat} {x : α} {y : β} (h1 : S.rd w ((cs.drop o).take S.k) x) (h2 : T.rd w ((cs.drop (o + S.k)).take n) y) :
    (S.pair T).rd w ((cs.drop o).take (S.k + n)) (x, y) := by
  refine ⟨(cs.drop o).take S.k, (cs.drop (o + S.k)).take n, ?_, h1, h2⟩
  rw [List.take_add, List.drop_drop]
end
end Go.Proofs.YtifkepnfaggkiaaDoor

namespace Go.Proofs.YtifkepnfaggkiaaDoor
open Go.RowKit
set_option linter.unusedVariables false
set_option linter.unusedSimpArgs false
set_option linter.unusedSectionVars false
def sBytes : Shape (List UInt8) := Shape.sl 5 Shape.byte
theorem rdF {α H : Type} {T : TypeId} {S : Shape α} {enc : TypeId × Value → H} {w : World} {base n pos k : Nat} {spare : Nat → Bool} {held : Bool} {cs : List Value} {o : Option (DataW H × List MemPlace)} (hR : Reads Tryd.prog T S) (hf : DataW.trod enc Tryd.prog w base spare held n T (List.take (Tryd.prog.cellsOf T) (List.drop pos cs)) = o) (hy : ∃ y, o = some y) (hc : Tryd.prog.cellsOf T = k) : ∃ x, S.rd w (List.take k (List.drop pos cs)) x := by
  obtain ⟨y, rfl⟩ := hy
  rw [hc] at hf
  exact hR H enc w base spare held n _ _ hf
theorem reads_ByteS : Reads Tryd.prog 22 sBytes := reads_sl Tryd.underlying22 (by kernel_rfl) (by decide) (reads_byte Tryd.underlying5)
end Go.Proofs.YtifkepnfaggkiaaDoor
