import Derived.Test.YtifkepnfaggkiaaGreatDoorEngShr
namespace Go.Proofs.YtifkepnfaggkiaaGreatDoor
open Go.RowKit
set_option linter.unusedVariables false
set_option linter.unusedSimpArgs false
set_option linter.unusedSectionVars false
def zeQ (E : Env) (c : Nat) : Prop := ∀ m, E.φ m ≠ none → m.1 < c
def FreshI (E : Env) (c i : Nat) : Prop := ∀ m, E.φ m ≠ none → m.1 < c ∨ (m.1 = c ∧ m.2.1 < i)
theorem FreshI.none {E : Env} {c i : Nat} (h : FreshI E c i) (j : Nat) : E.φ (c, i, j) = none := by
 cases hp : E.φ (c, i, j) with
 | none => rfl
 | some x =>
  rcases h (c, i, j) (by rw [hp]; exact fun h => by cases h) with h | ⟨_, h⟩
  ·exact absurd h (Nat.lt_irrefl _)
  ·exact absurd h (Nat.lt_irrefl _)
theorem FreshI.step {E E' : Env} {c i : Nat} (h : FreshI E c i) (hn : zgw E E' c i) : FreshI E' c (i + 1) := by
 intro m hm
 rcases hn m hm with h1 | ⟨h1, h2⟩
 ·rcases h m h1 with h | ⟨h3, h4⟩
  ·exact .inl h
  ·exact .inr ⟨h3, by omega⟩
 ·exact .inr ⟨h1, by omega⟩
theorem FreshI.up {E : Env} {c i : Nat} (h : FreshI E c i) : FreshI E c (i + 1) := fun m hm => (h m hm).imp id fun ⟨a, b⟩ => ⟨a, by omega⟩
theorem zgt {E : Env} {w0 : Bs} {σ : St} {a : Act} {w : World} (R : Rel E w0 σ a w) {ops : Array Oper} {j : Nat} {r : Option Bool} (h : zhZ σ ((ops[j]?).bind (·.dst)) = some r) : yielded ops a.tmps j = r := by
 unfold zhZ at h
 unfold yielded
 split at h
 ·rename_i hd
  injection h with h
  rw [hd, ← h]
  rfl
 ·rename_i t hd
  rw [hd]
  simp only [Option.bind_some]
  split at h
  ·rename_i b hb
   injection h with h
   have hv : a.tmps.getD t undef = .bool b := R.tmp t _ hb
   have hlt : t < a.tmps.size := by rw [R.siz]; exact (List.getElem?_eq_some_iff.1 hb).1
   have : a.tmps[t]? = some (.bool b) := by rw [← hv]; simp [Array.getD_eq_getD_getElem?, hlt]
   rw [this, ← h]
  ·rename_i v hb
   injection h with h
   have hv : a.tmps.getD t undef = .tuple v := R.tmp t _ hb
   have hlt : t < a.tmps.size := by rw [R.siz]; exact (List.getElem?_eq_some_iff.1 hb).1
   have : a.tmps[t]? = some (.tuple v) := by rw [← hv]; simp [Array.getD_eq_getD_getElem?, hlt]
   rw [this, ← h]
  ·cases h
theorem zpW {T : TT} {E : Env} {w0 : Bs} {σ : St} {a : Act} {w : World} (R : Rel E w0 σ a w) (o : Oper) : Rel E w0 (aput T σ o (.c (.at undef)) []) (a.put o.dst undef) w := zdD R.wf R.dfr R.siz R.tmp R.blk R.kp R.bs rfl
theorem zsk {P : Program} {T : TT} (hT : ∀ t ti, T t = some ti → ttOf P t = some ti) {E : Env} {w0 : Bs} {σ : St} {a : Act} {w : World} (R : Rel E w0 σ a w) {o : Oper} {l : List (List DT)} (h : zqc T σ o = some l) : ∃ b : Bool, (execOp a.eval o).run P w = .ok (.value (.bool b)) w ∧ (b = true → l.length = 0) := by
 unfold zqc at h
 split at h
 ·rename_i t x yt ho
  split at h
  ·rename_i e k by_ sz z ht
   split at h
   ·rename_i s e' k' l' hx
    injection h with h
    subst h
    have hv : CvC E w (.rd s e' k' l') (a.eval x) := zca (zD R) hx
    obtain ⟨n, hv⟩ := hv
    cases n with
    | zero => exact hv.elim
    | succ n =>
     obtain ⟨A, c, hv, _, _, hall⟩ := hv
     refine ⟨A.isNone, ?_, fun hb => ?_⟩
     ·have hu := (zaz (hT _ _ ht) rfl).1
      have hn := Lib.run_eql_slice_nil (P := P) w t e A l'.length c 0 0 hu
      have e2 : a.eval (.const (.slice none 0 0)) = .slice none 0 0 := rfl
      simp only [execOp, ho, hv, e2]
      simp [eqGuard, hn]
     ·cases hl : l'.length with
      | zero => rfl
      | succ m =>
       obtain ⟨_, b, off, hA, _⟩ := hall 0 (l'[0]'(by omega)) (List.getElem?_eq_getElem (by omega))
       rw [hA] at hb
       cases hb
   ·cases h
  ·cases h
 ·cases h
def env0 (w : World) : Env := ⟨fun _ => none, fun _ => none, mkB (fun b => b < w.heap.size) (fun b => b < w.heap.size) (fun b => b < w.heap.size)⟩
theorem zt8 (w : World) (b : Nat) : (env0 w).U b ↔ b < w.heap.size := zpb b
theorem zjO {w : World} {b : Nat} (h : b < w.heap.size) : (env0 w).T b := (zmo (fun _ h => h) b).2 h
theorem zrC (w : World) : BsOk (env0 w) (bs0 w) :=
 ⟨fun b => (zt8 w b).trans ⟨fun h => ⟨h, fun k => k⟩, fun h => h.1⟩, fun b => zmo (fun _ h => h) b, fun b => zo9 (fun _ h => h) b, fun b h => by cases h⟩
theorem zrO (w : World) : WfE (env0 w) w := ⟨(fun b x h => by cases h), (fun b x h => by cases h), fun b h => (zt8 w b).1 h⟩
theorem zw6 {w : World} {g : Nat} {cur : Array Value} {e : Nat} {fz : Nat × Nat} (h : w.heap[g]? = some (.cells cur e fz)) {n : Nat} {u : Value} (hu : cur[n]? = some u) : w.cell? ⟨g, n, none⟩ = some u := by
 simp [World.cell?, h, hu]
theorem zsx {w w' : World} (h : Ext w w') {v : Value} {d : DT} (hr : Rd (Lt w) w v d) : Rd (RS (env0 w') true) w' v d := Rd.mono hr (fun b hb => .inl (zjO (Nat.lt_of_lt_of_le hb h.size))) (fun b hb _ => h.block b hb)
theorem zmm {E : Env} {w0 : Bs} {σ : St} {a : Act} {w w' : World} (R : Rel E w0 σ a w) (hx : Ext w w') {x : Cell} {v : Value} (h : CvC E w x v) : CvC (env0 w') w' (rebC prims (look σ.hp) x) v := by
 unfold rebC
 split
 ·exact h
 ·exact h
 ·rename_i s e k l
  exact zsx hx (Rd.mono h (fun b hb => hb.lt R.wf) (fun _ _ _ => rfl))
 ·rename_i i e k off n
  split
  ·rename_i e' k' l hf
   exact zsx hx (zjZ R.wf R.blk h hf)
  ·exact trivial
 ·rename_i i k idx off
  split
  ·rename_i b hb
   split
   ·rename_i es he
    split
    ·rename_i ds hd
     obtain ⟨g, hφ, hv⟩ := h
     obtain ⟨hk, hel⟩ := zhs he
     rcases R.blk i b hb with ⟨hn, _⟩ | ⟨g', cur, fz, hφ2, hω, hh, hfz, hrow, hc⟩
     ·rw [hφ] at hn; injection hn with hn; cases hn
     ·rw [hφ] at hφ2
      injection hφ2 with hφ2
      injection hφ2 with hφ2
      subst hφ2
      obtain ⟨hlen, hcj⟩ := hc idx es hel
      have hg : g < w.heap.size := (Array.getElem?_eq_some_iff.1 hh).1
      have hh' : w'.heap[g]? = some (.cells cur b.e fz) := (hx.block g hg).trans hh
      refine ⟨g, idx * k, hv, .inl (zjO (Nat.lt_of_lt_of_le hg hx.size)), fun j d hj => ?_⟩
      obtain ⟨hl2, hm2⟩ := zh hd
      have hje : j < es.length := by rw [← hl2]; exact (List.getElem?_eq_some_iff.1 hj).1
      obtain ⟨u, hu, hB⟩ := hcj j es[j] (List.getElem?_eq_getElem hje)
      refine ⟨u, zw6 hh' (by rw [hk]; exact hu), zsx hx (Rd.mono (zkS R.wf hB ?_) (fun _ hb => hb.1) (fun _ _ _ => rfl))⟩
      obtain ⟨d', hd', hf'⟩ := hm2 j es[j] (List.getElem?_eq_getElem hje)
      rw [hj] at hd'
      injection hd' with hd'
      subst hd'
      exact hf'
    ·exact trivial
   ·exact trivial
  ·exact trivial
 ·exact trivial
theorem ztm {E : Env} {w0 : Bs} {σ : St} {a : Act} {w w' : World} (R : Rel E w0 σ a w) (hx : Ext w w') {p : PV} {v : Value} (h : CvP E w p v) : CvP (env0 w') w' (rebP prims (look σ.hp) p) v := by
 cases p with
 | c x => exact zmm R hx (x := x) h
 | agg l =>
  obtain ⟨cs, hv, hl, hj⟩ := h
  refine ⟨cs, hv, by rw [List.length_map]; exact hl, fun j x u hx' hu => ?_⟩
  rw [List.getElem?_map] at hx'
  cases hc : l[j]? with
  | none => rw [hc] at hx'; cases hx'
  | some c =>
   rw [hc] at hx'
   injection hx' with hx'
   subst hx'
   exact zmm R hx (hj j c u hc hu)
 | tup l => exact trivial
theorem zrb {P : Program} {T : TT} (hT : ∀ t ti, T t = some ti → ttOf P t = some ti) {F : Fns} {w0 : Bs} (hF : Sound P F w0) {E : Env} {σ : St} {a : Act} {w : World} (R : Rel E w0 σ a w) {o : Oper} {p : PV} (h : zsU prims T F σ o = some (some p)) {K : Act → World → Prop} {Q : Exit → Act → World → Prop} (hK : ∀ w' a', Ext w w' → w0.cur = none ∧ w0.m = false → Rel (env0 w') (bs0 w') (aput T (rebS prims σ) o p []) a' w' → K a' w') : o.wp P a w K Q := by
 unfold zsU at h
 simp only [zfx] at h
 split at h
 rotate_left
 ·cases h
 rename_i f as ts ho
 split at h
 rotate_left
 ·cases h
 rename_i g hgf
 split at h
 rotate_left
 ·cases h
 rename_i hsz
 split at h
 rotate_left
 ·injection h with h
  cases h
 rename_i xs hxs
 replace h := Option.some.inj h
 obtain ⟨vcs, hv, hvl, hvj⟩ := zca (zD R) hgf
 have hv0 : vcs = [] := by simpa using hvl
 subst hv0
 obtain ⟨hxl, hxj⟩ := zh hxs
 have hz : as.toList.length = ts.toList.length := by simpa using hsz.2.1
 have hargs : zdt w xs (as.toList.map a.eval) := by
  refine zh3 _ _ ?_ (fun j x v hx hv' => ?_)
  ·simp only [List.length_map, hxl, List.length_zip, hz, Nat.min_self]
  ·have hjl : j < xs.length := (List.getElem?_eq_some_iff.1 hx).1
   have hjz : j < (as.toList.zip ts.toList).length := by omega
   have hzj : (as.toList.zip ts.toList)[j]? = some ((as.toList.zip ts.toList)[j]) := List.getElem?_eq_getElem hjz
   obtain ⟨y, hy, hfy⟩ := hxj j _ hzj
   rw [hy] at hx
   injection hx with hx
   subst hx
   have hja : j < as.toList.length := by rw [List.length_zip] at hjz; omega
   rw [List.getElem?_map, List.getElem?_eq_getElem hja] at hv'
   simp only [Option.map_some, Option.some.injEq] at hv'
   subst hv'
   have := ziV R.wf R.blk (zld (T := T) (g := g) (t := ((as.toList.zip ts.toList)[j]).2) (zD R ((as.toList.zip ts.toList)[j]).1)) hfy
   rw [List.getElem_zip] at this
   exact this
 unfold zwo at h
 split at h
 rotate_left
 ·cases h
 rename_i e k l e2 k2 l2 hr
 injection h with h
 subst h
 obtain ⟨e', k', l', hys, hE, hmode, hcall⟩ : zuD P w0 g xs [.v (.sl e k l), .v (.sl e2 k2 l2)] := by rcases (hF _ _ _ hr).2 g rfl with ⟨_, _, h2, _⟩ | ⟨_, _, _, _, _, _, h2, _⟩ | h2 | ⟨_, _, _, _, _, h2, _⟩ | ⟨_, _, _, _, _, h2, _⟩ | ⟨_, h2, _⟩ | ⟨_, _, h2, _⟩ | ⟨_, _, _, _, _, _, _, h2, _⟩ | ⟨_, _, _, _, _, h2, _⟩ <;> first | exact h2 | (simp at h2; done)
 simp only [List.cons.injEq, Arg.v.injEq, DT.sl.injEq, and_true] at hys
 obtain ⟨⟨rfl, rfl, rfl⟩, _⟩ := hys
 unfold Oper.wp
 have hrun : (execOp a.eval o).run P w = .ok (.enter g (as.toList.map a.eval).toArray) w := by
  have e1 : as.map a.eval = (as.toList.map a.eval).toArray := by
   rw [← Array.toList_map]
  simp only [execOp, ho, resolve, hv, Deferred.ofValue, invoke, Sem.run_bind, Sem.run_pure, Result.andThen_ok, Array.empty_append, Array.append_empty, e1, hE _ w]
 rw [hrun]
 refine (hcall w _ R.kp hargs).mono ?_
 rintro e' w' ⟨v, rfl, hx, hrd⟩
 refine hK w' _ hx ⟨hmode.2.2, hmode.2.1⟩ (zdD (zrO w') R.dfr (by show a.tmps.size = (σ.tm.map _).length; rw [List.length_map]; exact R.siz) (fun t q hq => ?_) (fun i b hb => by cases hb) (Bs.Ext.refl (bs0 w')) (zrC w') (Rd.mono hrd (fun b hb => .inl (zjO hb)) (fun _ _ _ => rfl)))
 have hq' : (σ.tm.map (rebP prims (look σ.hp)))[t]? = some q := hq
 rw [List.getElem?_map] at hq'
 cases hc : σ.tm[t]? with
 | none => rw [hc] at hq'; cases hq'
 | some q0 =>
  rw [hc] at hq'
  injection hq' with hq'
  subst hq'
  exact ztm R hx (R.tmp t q0 hc)
theorem zqB {P : Program} {T : TT} (hT : ∀ t ti, T t = some ti → ttOf P t = some ti) {F : Fns} {w0 : Bs} (hF : Sound P F w0) {E : Env} {σ : St} {a : Act} {w : World} (R : Rel E w0 σ a w) {i : Nat} (hn : ∀ j, E.φ (σ.cnt, i, j) = none) (hsi : zg σ.hp) {o : Oper} {σ' : St} (h : zeG prims T F σ i o = some σ') {K : Act → World → Prop} {Q : Exit → Act → World → Prop} :
  ((∀ E' w1 a' w', Le w0 w1 → Rel E' w1 σ' a' w' → zgw E E' σ.cnt i → (∀ n, zbK n σ o = true → Kep E E' w w' n) → K a' w') → o.wp P a w K Q) ∧ σ'.cnt = σ.cnt ∧ zg σ'.hp := by
 unfold zeG at h
 split at h
 ·rename_i r hv
  subst h
  exact zlt hF R hn hsi hv
 ·exact ⟨fun hK => (zkc hT hF R hn h (fun E' a' w' R' hN hkp => hK E' w0 a' w' (Le.refl w0) R' hN hkp)).1, (zgC (K := fun _ _ => True) (Q := Q) hT hF R hn h (fun _ _ _ _ _ => trivial)).2, zhL h hsi⟩
theorem zc6 {P : Program} {T : TT} (hT : ∀ t ti, T t = some ti → ttOf P t = some ti) {F : Fns} {ops : Array Oper} {β : Type} {k : St → Option β} {y : β} {Q : Exit → Act → World → Prop} {c : Nat} :
  ∀ (l : List Oper) (w0 : Bs) (_ : Sound P F w0) (_ : ∀ w1, Le w0 w1 → ∀ E σ a w, Rel E w1 σ a w → zeQ E (c + 1) → zg σ.hp → σ.cnt = c → k σ = some y → Q .normal a w) (i : Nat) (E : Env) (σ : St) (a : Act) (w : World), Rel E w0 σ a w → FreshI E c i → zg σ.hp → σ.cnt = c → areg prims T F ops l i σ k = some y → wpList P ops Q l a w
 | [], w0, hF, hQ, i, E, σ, a, w, R, hf, hs, hc, h => hQ w0 (Le.refl w0) E σ a w R (fun m hm => by rcases hf m hm with h | ⟨h, _⟩ <;> omega) hs hc h
 | o :: l, w0, hF, hQ, i, E, σ, a, w, R, hf, hsi, hc, h => by
  subst hc
  unfold areg at h
  unfold wpList
  have hstep : ∀ σ', zeE prims T F σ i o = some σ' → areg prims T F ops l (i + 1) σ' k = some y → o.wp P a w (wpList P ops Q l) Q := by
   intro σ' hs hr
   have hcnt := (zgC (K := fun _ _ => True) (Q := Q) hT hF R hf.none hs (fun _ _ _ _ _ => trivial)).2
   exact (zgC hT hF R hf.none hs (fun E' a' w' R' hn => zc6 hT l w0 hF hQ (i + 1) E' σ' a' w' R' (hf.step hn) (zhL hs hsi) hcnt hr)).1
  have hvstep : ∀ σ', zeG prims T F σ i o = some σ' → areg prims T F ops l (i + 1) σ' k = some y → o.wp P a w (wpList P ops Q l) Q := by
   intro σ' hs hr
   unfold zeG at hs
   split at hs
   ·rename_i r hv
    subst hs
    obtain ⟨h1, h2, h3⟩ := zsi (K := fun a' w' => wpList P ops Q l a' w') (Q := Q) hF R hf.none hsi hv
    exact h1 fun E' w1 a' w' hx R' hn => zc6 hT l w1 (hF.ext hx) (fun w2 h => hQ w2 (hx.trans h)) (i + 1) E' σ' a' w' R' (hf.step hn) h3 h2 hr
   ·exact hstep σ' hs hr
  have hskip : areg prims T F ops l (i + 1) (aput T σ o (.c (.at undef)) []) k = some y → wpList P ops Q l (a.put o.dst undef) w := fun hr =>
   zc6 hT l w0 hF hQ (i + 1) E _ _ w (zpW R o) hf.up (by rw [zaZ]; exact hsi) (zbG _ _ _ _ _) hr
  split at h
  ·rename_i hg
   split at h
   ·rename_i l' hq
    rw [if_pos (by simp [Region.wanted, hg])]
    refine .inl ?_
    obtain ⟨b, hrun, h0⟩ := zsk hT R hq
    unfold Oper.wp
    rw [hrun]
    refine zc6 hT l w0 hF hQ (i + 1) E (aput T σ o (.c (.at (.bool b))) []) _ w (zdD R.wf R.dfr R.siz R.tmp R.blk R.kp R.bs rfl) hf.up (by rw [zaZ]; exact hsi) (zbG _ _ _ _ _) ?_
    have h' : zfP l'.length (areg prims T F ops l (i + 1) (aput T σ o (.c (.at (.bool false))) []) k) (areg prims T F ops l (i + 1) (aput T σ o (.c (.at (.bool true))) []) k) = some y := h
    cases b with
    | false => exact ziX h'
    | true => rw [h0 rfl] at h'; exact zik h'
   ·split at h
    ·rename_i p hp
     rw [if_pos (by simp [Region.wanted, hg])]
     refine .inl (zrb hT hF R hp fun w' a' hx hm R' => ?_)
     have hx0 : Le w0 (bs0 w') := ⟨R.kp.trans hx, fun _ _ _ h => h, hm.1.symm, hm.2.symm, fun k => by rw [hm.2] at k; cases k⟩
     exact zc6 hT l (bs0 w') (hF.ext hx0) (fun w1 h1 => hQ w1 (hx0.trans h1)) (i + 1) (env0 w') _ a' w' R' (fun m hm => absurd rfl hm) (by rw [zaZ]; exact fun n b hb => by cases hb) (zbG _ _ _ _ _) h
    ·cases h
    ·split at h
     ·rename_i σ' hs
      rw [if_pos (by simp [Region.wanted, hg])]
      exact .inl (hvstep σ' hs h)
     ·cases h
  ·rename_i j want hg
   split at h
   ·rename_i b hb
    have hy := zgt R hb
    split at h
    ·rename_i hbw
     subst hbw
     split at h
     ·rename_i σ' hs
      rw [if_pos (by simp [Region.wanted, hg, hy])]
      exact .inl (hstep σ' hs h)
     ·cases h
    ·rename_i hbw
     rw [if_neg (by simp [Region.wanted, hg, hy, hbw])]
     exact hskip h
   ·rename_i hb
    have hy := zgt R hb
    rw [if_neg (by simp [Region.wanted, hg, hy])]
    exact hskip h
   ·cases h
end Go.Proofs.YtifkepnfaggkiaaGreatDoor
