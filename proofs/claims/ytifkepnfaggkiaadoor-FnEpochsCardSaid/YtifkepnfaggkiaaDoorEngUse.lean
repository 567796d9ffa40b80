/- How the interpreter is used: data as it lies in memory, tables of contracts, loops. -/
import Derived.Test.YtifkepnfaggkiaaDoorEngDraw
namespace Go.Proofs.YtifkepnfaggkiaaDoor
open Go.RowKit
set_option linter.unusedVariables false
set_option linter.unusedSimpArgs false
set_option linter.unusedSectionVars false
/-! data of a shape, as the interpreter's -/
def RdL (w : World) (cs : List Value) (ds : List DT) : Prop := cs.length = ds.length ∧ ∀ (j : Nat) d u, ds[j]? = some d → cs[j]? = some u → Rd (Lt w) w u d
def Enc {α : Type} (S : Shape α) (e : α → List DT) : Prop := ∀ w cs x, S.rd w cs x → RdL w cs (e x)
theorem RdL.one {w : World} {v : Value} {d : DT} (h : Rd (Lt w) w v d) : RdL w [v] [d] := by
  refine ⟨rfl, fun j d' u hd hu => ?_⟩
  cases j with
  | zero => simp at hd hu; subst hd; subst hu; exact h
  | succ j => simp at hd
theorem RdL.app {w : World} {c1 c2 : List Value} {d1 d2 : List DT} (h1 : RdL w c1 d1) (h2 : RdL w c2 d2) : RdL w (c1 ++ c2) (d1 ++ d2) := by
  refine ⟨by rw [List.length_append, List.length_append, h1.1, h2.1], fun j d u hd hu => ?_⟩
  by_cases hj : j < d1.length
  · rw [List.getElem?_append_left hj] at hd
    rw [List.getElem?_append_left (by rw [h1.1]; exact hj)] at hu
    exact h1.2 j d u hd hu
  · rw [List.getElem?_append_right (by omega)] at hd
    rw [List.getElem?_append_right (by rw [h1.1]; omega), h1.1] at hu
    exact h2.2 _ d u hd hu
theorem rd_at (R : Nat → Prop) (w : World) (v : Value) : Rd R w v (.at v) := ⟨0, by unfold RdN; rfl⟩
def eI (n : Int) : List DT := [.at (.int .i64 n)]
def eB (b : Bool) : List DT := [.at (.bool b)]
def eS (s : ByteArray) : List DT := [.at (.string s)]
def eY (b : UInt8) : List DT := [.at (.int .u8 b.toNat)]
theorem Enc.int : Enc Shape.int eI := fun w cs x h => by
  obtain ⟨rfl, _⟩ := h
  exact RdL.one (rd_at _ _ _)
theorem Enc.bool : Enc Shape.bool eB := fun w cs x h => by
  obtain ⟨rfl, _⟩ := h
  exact RdL.one (rd_at _ _ _)
theorem Enc.str : Enc Shape.str eS := fun w cs x h => by
  obtain ⟨rfl, _⟩ := h
  exact RdL.one (rd_at _ _ _)
theorem Enc.byte : Enc Shape.byte eY := fun w cs x h => by
  obtain ⟨rfl, _⟩ := h
  exact RdL.one (rd_at _ _ _)
theorem Enc.pair {α β : Type} {S : Shape α} {T : Shape β} {e : α → List DT} {f : β → List DT} (h1 : Enc S e) (h2 : Enc T f) : Enc (S.pair T) (fun x => e x.1 ++ f x.2) := fun w cs x h => by
  obtain ⟨c1, c2, rfl, r1, r2⟩ := h
  exact (h1 w c1 _ r1).app (h2 w c2 _ r2)
theorem Enc.via {α β : Type} {S : Shape α} {e : α → List DT} (h : Enc S e) (f : β → α) : Enc (S.via f) (fun y => e (f y)) := fun w cs x hr => h w cs (f x) hr
theorem Enc.sl {α : Type} {S : Shape α} {e : α → List DT} (t : Nat) (h : Enc S e) (h0 : 0 < S.k) : Enc (Shape.sl t S) (fun l => [.sl t S.k (l.map e)]) := fun w cs l hr => by
  obtain ⟨A, c, rfl, h1, h2, h3⟩ := hr
  have hm : (l.map e).length = l.length := List.length_map _
  refine RdL.one ?_
  rw [← hm]
  refine Rd.sl (by rw [hm]; exact h1) h2 fun i es hi => ?_
  rw [List.getElem?_map] at hi
  cases hx : l[i]? with
  | none => simp [hx] at hi
  | some x =>
    simp only [hx, Option.map_some, Option.some.injEq] at hi
    subst hi
    have hlt : i < l.length := (List.getElem?_eq_some_iff.1 hx).1
    have hxe : l[i] = x := (List.getElem?_eq_some_iff.1 hx).2
    obtain ⟨b, off, hA, hall⟩ := h3 (by omega)
    obtain ⟨cs, hc, hrd⟩ := hall i hlt
    rw [hxe] at hrd
    obtain ⟨hl, hj⟩ := h w cs x hrd
    have hk := S.len hrd
    have hb : ∀ (j : Nat) u, cs[j]? = some u → w.cell? ⟨b, off + i * S.k + j, none⟩ = some u := fun j u hu => hc j u hu
    refine ⟨by omega, b, off, hA, ?_, fun j d hd => ?_⟩
    · have : cs[0]? = some (cs[0]'(by omega)) := List.getElem?_eq_getElem (by omega)
      exact World.block_lt_of_cell? _ _ (hb 0 _ this)
    · have hjl : j < cs.length := by rw [hl]; exact (List.getElem?_eq_some_iff.1 hd).1
      have hu : cs[j]? = some cs[j] := List.getElem?_eq_getElem hjl
      exact ⟨_, hb j _ hu, hj j d _ hd hu⟩
theorem argRd_agg {w : World} {cs : List Value} {ds : List DT} (h : RdL w cs ds) : ArgRd (Lt w) w (.a ds) (.agg cs.toArray) := ⟨cs, rfl, h.1, h.2⟩
theorem argRd_one {w : World} {v : Value} {d : DT} (h : RdL w [v] [d]) : ArgRd (Lt w) w (.v d) v := h.2 0 d v rfl rfl
theorem argRd_at {w : World} {v : Value} : ArgRd (Lt w) w (.v (.at v)) v := rd_at _ _ _
theorem map_inj {α : Type} {e : α → List DT} (he : ∀ x y, e x = e y → x = y) : ∀ {a b : List α}, a.map e = b.map e → a = b
  | [], [], _ => rfl
  | [], y :: b, h => by simp at h
  | x :: a, [], h => by simp at h
  | x :: a, y :: b, h => by
    simp only [List.map_cons, List.cons.injEq] at h
    rw [he x y h.1, map_inj he h.2]
theorem eS_inj (x y : ByteArray) (h : eS x = eS y) : x = y := by simpa [eS] using h
/-! loops -/
theorem aloop_run {β ι : Type} {F : St → (Ex → St → Option β) → Option β} {lv : List Nat} {K : Ex → St → Option β} (st : ι → St) (res : ι → Option β) (μ : ι → Nat) (Pre : ι → Prop)
    (h : ∀ x, Pre x → ∀ R : St → Option β, (∀ y, Pre y → μ y < μ x → R (st y) = res y) → F (st x) (fun e σ' => match e with | .normal => R (canon lv σ') | .exit j => K (.exit j) σ' | .ret => K .ret σ') = res x) :
    ∀ n x σ, canon lv σ = st x → Pre x → μ x < n → aloop F lv n σ K = res x := by
  have A : ∀ n x, Pre x → μ x ≤ n → F (st x) (fun e σ' => match e with | .normal => aloop F lv n σ' K | e => K e σ') = res x := by
    intro n
    induction n with
    | zero =>
      intro x hx hn
      rw [← h x hx (fun _ => none) (fun y _ hlt => by omega)]
      congr 1
      funext e σ'
      cases e <;> rfl
    | succ n ih =>
      intro x hx hn
      rw [← h x hx (fun τ => F τ fun e σ' => match e with | .normal => aloop F lv n σ' K | e => K e σ') (fun y hy hlt => ih y hy (by omega))]
      congr 1
      funext e σ'
      cases e <;> rfl
  intro n x σ hσ hx hn
  cases n with
  | zero => omega
  | succ n =>
    unfold aloop
    rw [hσ]
    exact A n x hx (by omega)
end Go.Proofs.YtifkepnfaggkiaaDoor
