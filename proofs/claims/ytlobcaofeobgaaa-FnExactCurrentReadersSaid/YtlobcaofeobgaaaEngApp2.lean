/- What is appended: rows of ours. -/
import Derived.Test.YtlobcaofeobgaaaEngApp
namespace Go.Proofs.Ytlobcaofeobgaaa
open Go.RowKit
set_option linter.unusedVariables false
set_option linter.unusedSimpArgs false
set_option linter.unusedSectionVars false
theorem asrc_nil {P : Program} {E : Env} {w : World} (hW : WfE E w) {hp : List (Nm × Bk)} (hB : ∀ n b, look hp n = some b → BkOk E w n b) {k : Nat} {tx : TypeId} (hkind : (∃ e', P.underlying tx = some (.slice e')) ∨ P.underlying tx = some .string) {v : Value} (hv : v = .slice none 0 0) (m : Nm) (s0 : Nat) :
    ∃ us, Taken P E w k tx v [] hp hp m s0 E us := by
  subst hv
  exact ⟨[], ⟨⟨fun _ => False, Turn.refl E w _⟩, hW, rfl, hB, fun n b hb => ⟨b, hb⟩, ⟨⟨hkind, fun _ => rfl, run_firstCells_none w k 0 0 0, run_firstCells_none w.drew k 0 0 0, by simp, (fun _ h => by cases h)⟩, rfl, (fun x es hx => by simp at hx), (fun es h => by cases h)⟩, (fun x es hx => by simp at hx)⟩⟩
theorem asrc_str {P : Program} {E : Env} {w : World} (hW : WfE E w) {hp : List (Nm × Bk)} (hB : ∀ n b, look hp n = some b → BkOk E w n b) {tx : TypeId} (hkind : (∃ e', P.underlying tx = some (.slice e')) ∨ P.underlying tx = some .string) (s : ByteArray) (m : Nm) (s0 : Nat) :
    ∃ us, Taken P E w 1 tx (.string s) (prims.bytes s) hp hp m s0 E us := by
  have hfl : (s.data.toList.map fun b => [Value.int .u8 b.toNat]).flatten = byteCells s := by
    unfold byteCells
    induction s.data.toList with
    | nil => rfl
    | cons b l ih => simp [ih]
  have hl : (prims.bytes s).length = s.size := by simp [prims]
  refine ⟨s.data.toList.map fun b => [Value.int .u8 b.toNat], ⟨⟨fun _ => False, Turn.refl E w _⟩, hW, rfl, hB, fun n b hb => ⟨b, hb⟩, ⟨?_, by simp [prims], fun x es hx => ?_, fun es h => ?_⟩, fun x es hx j p hp => ?_⟩⟩
  · rw [hfl, hl]
    exact ⟨hkind, fun _ => rfl, firstCells_string s w, firstCells_string s w.drew, by rw [byteCells_length, Nat.mul_one], fun u hu => by
      obtain ⟨_, _, rfl⟩ := List.mem_map.1 hu
      rfl⟩
  · simp only [prims, List.getElem?_map] at hx
    cases hb : s.data.toList[x]? with
    | none => simp [hb] at hx
    | some b => simp only [hb, Option.map_some, Option.some.injEq] at hx; subst hx; rfl
  · obtain ⟨b, _, rfl⟩ := List.mem_map.1 h; rfl
  · simp only [prims, List.getElem?_map] at hx
    cases hb : s.data.toList[x]? with
    | none => simp [hb] at hx
    | some b =>
      simp only [hb, Option.map_some, Option.some.injEq] at hx
      subst hx
      cases j with
      | succ j => simp at hp
      | zero =>
        simp at hp
        subst hp
        refine ⟨.int .u8 b.toNat, by simp [List.getElem?_map, hb], rfl⟩
theorem moveC_eq {p q : Cell} (h : moveC p = some q) : p = q ∧ (∀ v, p = .at v → plainV v = true) ∧ ((∃ v, p = .at v) ∨ (∃ e k, p = .nil e k) ∨ (∃ s e k l, p = .rd s e k l) ∨ (∃ e k l, p = .own e k l)) := by
  unfold moveC at h
  split at h
  · rename_i v
    split at h
    · rename_i hp; injection h with h; exact ⟨h, fun v' hv => by injection hv with hv; subst hv; exact hp, .inl ⟨v, rfl⟩⟩
    · cases h
  · injection h with h; exact ⟨h, (fun v hv => by cases hv), .inr (.inl ⟨_, _, rfl⟩)⟩
  · injection h with h; exact ⟨h, (fun v hv => by cases hv), .inr (.inr (.inl ⟨_, _, _, _, rfl⟩))⟩
  · injection h with h; exact ⟨h, (fun v hv => by cases hv), .inr (.inr (.inr ⟨_, _, _, rfl⟩))⟩
  · cases h
theorem ow_one {w : World} {S : Nat → Prop} {v : Value} {e k : Nat} {l : List (List DT)} (h : Ow w S v (.sl e k l)) : oneV v := by
  obtain ⟨n, h⟩ := h
  cases n with
  | zero => exact h.elim
  | succ n =>
    rcases h with ⟨rfl, _⟩ | ⟨g, c, cur, fz, rfl, _⟩ <;> constructor <;> intro _ h <;> cases h
theorem move_one {E : Env} {w : World} {i : Nm} {x j : Nat} {p q : Cell} {u : Value} (h : CvB E w i x j p u) (hm : moveC p = some q) : oneV u := by
  obtain ⟨rfl, h1, h2⟩ := moveC_eq hm
  rcases h2 with ⟨v, rfl⟩ | ⟨e, k, rfl⟩ | ⟨s, e, k, l, rfl⟩ | ⟨e, k, l, rfl⟩
  · exact (ok_one (E := E) (w := w) (x := .at v) h (h1 v rfl)).2
  · exact (ok_one (E := E) (w := w) (x := .nil e k) h rfl).2
  · exact (ok_one (E := E) (w := w) (x := .rd s e k l) h rfl).2
  · exact ow_one h
/-- the cells of a part of a row are moved into another row -/
def shift (E : Env) (j m : Nm) (off n s0 : Nat) : Env := ⟨E.φ, (fun b => match E.ω b with
  | some (i, some (y, q)) => if i = j ∧ off ≤ y ∧ y < off + n then some (m, some (s0 + (y - off), q)) else some (i, some (y, q))
  | o => o), E.B⟩
theorem shift_some {E : Env} {j m : Nm} {off n s0 b : Nat} {y : Nm × Option (Nat × Nat)} (h : (shift E j m off n s0).ω b = some y) : ∃ z, E.ω b = some z := by
  simp only [shift] at h
  split at h
  · rename_i i a q hb; exact ⟨_, hb⟩
  · exact ⟨_, h⟩
theorem shift_turn (E : Env) (w : World) (j m : Nm) (off n s0 : Nat) : Turn E (shift E j m off n s0) w w (fun _ => False) (fun i => i = j) := by
  refine ⟨fun _ _ h => h, fun b i x hb hi => ?_, fun b i c hb => ?_, fun _ => Iff.rfl, Nat.le_refl _, fun _ _ _ => rfl, fun _ h => h.elim, fun _ h => h.elim⟩
  · simp only [shift, hb]
    cases x with
    | none => rfl
    | some c => obtain ⟨y, q⟩ := c; simp only []; rw [if_neg (fun h => hi h.1)]
  · obtain ⟨y, q⟩ := c
    simp only [shift, hb]
    split
    · exact ⟨_, _, rfl⟩
    · exact ⟨_, _, rfl⟩
theorem shift_wf {E : Env} {w : World} (hW : WfE E w) (j m : Nm) (off n s0 : Nat) : WfE (shift E j m off n s0) w :=
  ⟨fun b x hx => by obtain ⟨z, hz⟩ := shift_some hx; exact hW.lt b z hz, fun b x hx => by obtain ⟨z, hz⟩ := shift_some hx; exact hW.nb b z hz, hW.bl⟩
theorem asrc_row {P : Program} {E : Env} {w : World} (hW : WfE E w) {hp : List (Nm × Bk)} (hB : ∀ n b, look hp n = some b → BkOk E w n b) {k : Nat} {tx : TypeId} (hk0 : 0 < k) (hkind : (∃ e', P.underlying tx = some (.slice e')) ∨ P.underlying tx = some .string) {i : Nm} {e off n : Nat} {v : Value} (hv : CvL E w (.row i e k off n) v) {b : Bk} (hb : look hp i = some b) (hkb : k = b.k) (hle : off + n ≤ b.el.length) {l : List (List Cell)} (hl : mapO (mapO moveC) ((b.el.drop off).take n) = some l) (m : Nm) (s0 : Nat) (lit : Bool) :
    ∃ us, Taken P E w k tx v l (upd hp i ⟨b.isRow, lit, b.e, b.k, prims.rout b.el off n⟩) hp m s0 (shift E i m off n s0) us := by
  have hW1 := shift_wf hW i m off n s0
  have G := shift_turn E w i m off n s0
  obtain ⟨hlen, hm⟩ := mapO_at hl
  have hln : l.length = n := by rw [hlen]; simp; omega
  obtain ⟨A, c, rfl, hc1, hc2, h3⟩ := hv
  subst hkb
  rcases hB i b hb with ⟨hφ, hr, hnil⟩ | ⟨g, cur, fz, hφ, hω, hh, hfz, hrow, hc⟩
  · -- a nil slice
    have hn0 : n = 0 := by rw [hnil] at hle; simp at hle; omega
    subst hn0
    have hl0 : l = [] := by simpa using hln
    subst hl0
    refine ⟨[], ⟨⟨_, G⟩, hW1, rfl, fun n' b' hb' => ?_, fun n' b' hb' => ?_, ⟨?_, rfl, (fun x es hx => by simp at hx), (fun es h => by cases h)⟩, (fun x es hx => by simp at hx)⟩⟩
    · rcases look_upd hb' with ⟨rfl, rfl⟩ | ⟨hne, hlk⟩
      · exact .inl ⟨hφ, hr, by simp [prims, hnil]⟩
      · exact (hB n' b' hlk).turn hW G hne (fun _ h => h.elim)
    · rcases look_upd hb' with ⟨rfl, rfl⟩ | ⟨hne, hlk⟩
      · exact ⟨b, hb⟩
      · exact ⟨b', hlk⟩
    · exact src_slice (us := []) hkind rfl (by simp) (fun x es hx => by simp at hx) hk0 (fun _ => rfl)
  · have hA0 : A = none → n = 0 := by
      intro hA
      rcases h3 with ⟨hφ', _⟩ | ⟨g', hφ', hA', _⟩
      · rw [hφ] at hφ'; injection hφ' with hφ'; cases hφ'
      · rcases Nat.eq_zero_or_pos n with h | h
        · exact h
        · rw [hA] at hA'; cases hA' h
    have hAs : 0 < n → A = some ⟨g, off * b.k, none⟩ := by
      intro hn
      rcases h3 with ⟨hφ', _⟩ | ⟨g', hφ', hA', _⟩
      · rw [hφ] at hφ'; injection hφ' with hφ'; cases hφ'
      · rw [hφ] at hφ'; injection hφ' with hφ'; injection hφ' with hφ'; subst hφ'; exact hA' hn
    have key : ∀ (x : Nat) es, l[x]? = some es → es.length = b.k ∧ x < n ∧ ∀ (j : Nat) p, es[j]? = some p → j < b.k ∧ ∃ u, cur[(off + x) * b.k + j]? = some u ∧ CvB E w i (off + x) j p u ∧ oneV u := by
      intro x es hx
      have hxn : x < n := by rw [← hln]; exact (List.getElem?_eq_some_iff.1 hx).1
      have hbe : b.el[off + x]? = some (b.el[off + x]'(by omega)) := List.getElem?_eq_getElem (by omega)
      have hel : ((b.el.drop off).take n)[x]? = some (b.el[off + x]'(by omega)) := by rw [List.getElem?_take_of_lt hxn, List.getElem?_drop, hbe]
      obtain ⟨es', hes', hme⟩ := hm x _ hel
      rw [hes'] at hx
      injection hx with hx
      subst hx
      obtain ⟨hlen2, hm2⟩ := mapO_at hme
      obtain ⟨hke, hcj⟩ := hc _ _ hbe
      refine ⟨by rw [hlen2, hke], hxn, fun j p hp => ?_⟩
      have hjl : j < (b.el[off + x]'(by omega)).length := by rw [← hlen2]; exact (List.getElem?_eq_some_iff.1 hp).1
      have hq : (b.el[off + x]'(by omega))[j]? = some ((b.el[off + x]'(by omega))[j]) := List.getElem?_eq_getElem hjl
      obtain ⟨u, hu, hC⟩ := hcj j _ hq
      obtain ⟨p', hp', hmv⟩ := hm2 j _ hq
      rw [hp'] at hp
      injection hp with hp
      subst hp
      obtain ⟨he, _⟩ := moveC_eq hmv
      rw [← he]
      exact ⟨by rw [← hke]; exact hjl, u, hu, hC, move_one hC hmv⟩
    refine ⟨usOf w A n b.k, ⟨⟨_, G⟩, hW1, rfl, fun n' b' hb' => ?_, fun n' b' hb' => ?_, ⟨?_, by rw [usOf_len hA0, hln], fun x es hx => (key x es hx).1, usOf_k⟩, fun x es hx j p hp => ?_⟩⟩
    · rcases look_upd hb' with ⟨rfl, rfl⟩ | ⟨hne, hlk⟩
      · unfold BkOk
        dsimp only
        refine .inr ⟨g, cur, fz, hφ, by simp [shift, hω], hh, hfz, fun hr' => ?_, fun x es hx => ?_⟩
        · obtain ⟨c', h1, h2, h4⟩ := hrow hr'
          refine ⟨c', h1, h2, ?_⟩
          simp [prims]
          omega
        · simp only [prims] at hx
          by_cases hx1 : x < off
          · rw [List.append_assoc, List.getElem?_append_left (by simp; omega), List.getElem?_take_of_lt hx1] at hx
            obtain ⟨hke, hcj⟩ := hc x es hx
            refine ⟨hke, fun j p hp => ?_⟩
            obtain ⟨u, hu, hC⟩ := hcj j p hp
            refine ⟨u, hu, ?_⟩
            by_cases ho : ∃ e k l, p = .own e k l
            · obtain ⟨e, k, l, rfl⟩ := ho
              exact Ow.mono hC (fun b' hb' => by simp only [shift, hb']; rw [if_neg (by omega)]) (same_refl _ _)
            · exact CvB.of_CvC ((hC.toC fun e k l h => ho ⟨e, k, l, h⟩).turn hW G)
          · by_cases hx2 : x < off + n
            · have hlo : (b.el.take off).length = off := by simp; omega
              rw [List.append_assoc, List.getElem?_append_right (by omega), hlo, List.getElem?_append_left (by simp; omega), List.getElem?_map, List.getElem?_take_of_lt (by omega), List.getElem?_drop, show off + (x - off) = x by omega] at hx
              cases hbe : b.el[x]? with
              | none => simp [hbe] at hx
              | some es0 =>
                simp only [hbe, Option.map_some, Option.some.injEq] at hx
                subst hx
                obtain ⟨hke, hcj⟩ := hc x es0 hbe
                refine ⟨by simpa using hke, fun j p hp => ?_⟩
                rw [List.getElem?_map] at hp
                cases hq : es0[j]? with
                | none => simp [hq] at hp
                | some q =>
                  simp only [hq, Option.map_some, Option.some.injEq] at hp
                  subst hp
                  obtain ⟨u, hu, hC⟩ := hcj j q hq
                  refine ⟨u, hu, CvB.of_CvC ?_⟩
                  by_cases ho : ∃ e k l, q = .own e k l
                  · obtain ⟨e, k, l, rfl⟩ := ho
                    refine Ow.rd hC (fun b' hb' => .inr ⟨rfl, m, (s0 + (x - off), j), ?_⟩)
                    simp only [shift, hb']
                    rw [if_pos ⟨trivial, by omega, by omega⟩]
                  · have hC' := (hC.toC fun e k l h => ho ⟨e, k, l, h⟩).turn hW G
                    have : outC q = q := by cases q <;> first | rfl | exact absurd ⟨_, _, _, rfl⟩ ho
                    rw [this]
                    exact hC'
            · have hlo : (b.el.take off ++ ((b.el.drop off).take n).map (·.map outC)).length = off + n := by simp; omega
              rw [List.getElem?_append_right (by omega), hlo, List.getElem?_drop, show off + n + (x - (off + n)) = x by omega] at hx
              obtain ⟨hke, hcj⟩ := hc x es hx
              refine ⟨hke, fun j p hp => ?_⟩
              obtain ⟨u, hu, hC⟩ := hcj j p hp
              refine ⟨u, hu, ?_⟩
              by_cases ho : ∃ e k l, p = .own e k l
              · obtain ⟨e, k, l, rfl⟩ := ho
                exact Ow.mono hC (fun b' hb' => by simp only [shift, hb']; rw [if_neg (by omega)]) (same_refl _ _)
              · exact CvB.of_CvC ((hC.toC fun e k l h => ho ⟨e, k, l, h⟩).turn hW G)
      · exact (hB n' b' hlk).turn hW G hne (fun _ h => h.elim)
    · rcases look_upd hb' with ⟨rfl, rfl⟩ | ⟨hne, hlk⟩
      · exact ⟨b, hb⟩
      · exact ⟨b', hlk⟩
    · rw [hln]
      refine src_slice hkind (usOf_len hA0) usOf_k (fun x es hx => ?_) hk0 hA0
      obtain ⟨a, hA, hxn, hes⟩ := usOf_inv hx
      have hA2 := hAs (by omega)
      rw [hA] at hA2
      injection hA2 with hA2
      subst hA2
      refine ⟨g, off * b.k, hA, fun j u hu => ?_⟩
      obtain ⟨hjk, hu'⟩ := hes j u hu
      obtain ⟨hk', _, hcell⟩ := key x _ (List.getElem?_eq_getElem (by omega))
      obtain ⟨_, u2, hu2, _, ho⟩ := hcell j _ (List.getElem?_eq_getElem (by omega))
      have hcellw : w.cell? ⟨g, off * b.k + x * b.k + j, none⟩ = some u2 := by rw [block_cell' hh, ← hu2, Nat.add_mul]
      rw [hcellw] at hu'
      simp at hu'
      subst hu'
      exact ⟨hcellw, ho⟩
    · obtain ⟨_, hxn, hcell⟩ := key x es hx
      obtain ⟨hjk, u, hu, hC, _⟩ := hcell j p hp
      refine ⟨u, ?_, ?_⟩
      · rw [hAs (by omega)]
        refine usOf_at hxn hjk ?_
        rw [block_cell' hh, ← hu, Nat.add_mul]
      · by_cases ho : ∃ e k l, p = .own e k l
        · obtain ⟨e, k, l, rfl⟩ := ho
          refine Ow.mono hC (fun b' hb' => ?_) (same_refl _ _)
          simp only [shift, hb']
          rw [if_pos ⟨trivial, by omega, by omega⟩, show off + x - off = x by omega]
        · exact CvB.of_CvC ((hC.toC fun e k l h => ho ⟨e, k, l, h⟩).turn hW G)
end Go.Proofs.Ytlobcaofeobgaaa
