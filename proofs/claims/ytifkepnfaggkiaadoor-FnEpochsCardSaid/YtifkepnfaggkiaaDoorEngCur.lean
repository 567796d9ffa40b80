/- A call that writes into a box of ours. -/
import Derived.Test.YtifkepnfaggkiaaDoorEngCon
namespace Go.Proofs.YtifkepnfaggkiaaDoor
open Go.RowKit
set_option linter.unusedVariables false
set_option linter.unusedSimpArgs false
set_option linter.unusedSectionVars false
/-- an environment without block b -/
def without (E : Env) (b : Nat) : Env := { φ := E.φ, B := E.B, ω := fun x => if x = b then none else E.ω x }
theorem without_some {E : Env} {b x : Nat} {y : Nm × Option (Nat × Nat)} (h : (without E b).ω x = some y) : x ≠ b ∧ E.ω x = some y := by
  unfold without at h
  dsimp only at h
  split at h
  · cases h
  · rename_i hx; exact ⟨hx, h⟩
theorem without_wf {E : Env} {w : World} (hW : WfE E w) (b : Nat) : WfE (without E b) w :=
  ⟨fun x y h => hW.lt x y (without_some h).2, fun x y h => hW.nb x y (without_some h).2, hW.bl⟩
theorem without_turn {E : Env} {w : World} {b : Nat} {n : Nm} (hb : E.ω b = some (n, none)) : Turn E (without E b) w w (fun _ => False) (fun m => m = n) := by
  refine ⟨fun _ _ h => h, fun x m y hx hm => ?_, fun x m c hx => ?_, fun _ => Iff.rfl, Nat.le_refl _, fun _ _ _ => rfl, fun _ h => h.elim, fun _ h => h.elim⟩
  · show (if x = b then none else E.ω x) = _
    rw [if_neg (fun h => by subst h; rw [hb] at hx; injection hx with hx; injection hx with h1 h2; exact hm h1.symm)]
    exact hx
  · refine ⟨m, c, ?_⟩
    show (if x = b then none else E.ω x) = _
    rw [if_neg (fun h => by subst h; rw [hb] at hx; injection hx with hx; injection hx with h1 h2; cases h2)]
    exact hx
theorem without_in {E : Env} {w : World} (hW : WfE E w) {b : Nat} {n : Nm} (hb : E.ω b = some (n, none)) {x : Nat} (h : EIn (without E b) w x) : x < w.heap.size ∧ x ≠ b := by
  refine ⟨h.1, fun hx => ?_⟩
  subst hx
  rcases h.2 with h2 | h2
  · exact h2 (by simp [without])
  · exact hW.nb x _ hb (tv_u h2)
theorem frzP_in {E : Env} {w : World} (hW : WfE E w) {L : Nm → Option Bk} (hL : ∀ i b, L i = some b → BkOk E w i b) {p : PV} {v : Value} {a : Arg} (h : CvP E w p v) (hf : frzP prims L p = some a) : ArgRd (EIn E w) w a v := by
  unfold frzP at hf
  split at hf
  · rename_i x
    cases hd : frz prims L x with
    | none => simp [hd] at hf
    | some d => simp only [hd, Option.map_some, Option.some.injEq] at hf; subst hf; exact frz_in hW hL h hd
  · rename_i l
    cases hd : mapO (frz prims L) l with
    | none => simp [hd] at hf
    | some ds =>
      simp only [hd, Option.map_some, Option.some.injEq] at hf
      subst hf
      obtain ⟨cs, rfl, hl, hj⟩ := h
      obtain ⟨hlen, hj2⟩ := mapO_at hd
      refine ⟨cs, rfl, by omega, fun j d u hd' hu => ?_⟩
      have hjl : j < l.length := by rw [← hlen]; exact (List.getElem?_eq_some_iff.1 hd').1
      have hp : l[j]? = some l[j] := List.getElem?_eq_getElem hjl
      obtain ⟨d2, hd2, hf2⟩ := hj2 j _ hp
      rw [hd2] at hd'
      injection hd' with hd'
      subst hd'
      exact frz_in hW hL (hj j _ u hp hu) hf2
  · cases hf
theorem argsIn_mk {R : Nat → Prop} {w : World} : ∀ (xs : List Arg) (vs : List Value), xs.length = vs.length → (∀ (j : Nat) x v, xs[j]? = some x → vs[j]? = some v → ArgRd R w x v) → ArgsIn R w xs vs
  | [], [], _, _ => trivial
  | [], _ :: _, h, _ => by simp at h
  | _ :: _, [], h, _ => by simp at h
  | x :: xs, v :: vs, h, hj => ⟨hj 0 x v rfl rfl, argsIn_mk xs vs (by simpa using h) fun j x v hx hv => hj (j + 1) x v (by simpa using hx) (by simpa using hv)⟩
theorem ArgRd.up {R R' : Nat → Prop} {w : World} (h : ∀ b, R b → R' b) {a : Arg} {v : Value} (ha : ArgRd R w a v) : ArgRd R' w a v := by
  cases a with
  | v d => exact Rd.mono ha h (same_refl _ _)
  | a l =>
    obtain ⟨cs, hv, hl, hj⟩ := ha
    exact ⟨cs, hv, hl, fun j d u hd hu => Rd.mono (hj j d u hd hu) h (same_refl _ _)⟩
/-- a box's cells as data, and back -/
theorem boxD_rd {E : Env} {w : World} {i : Nm} {x j : Nat} {p : Cell} {u : Value} {d : DT} (h : CvB E w i x j p u) (hd : boxD p = some d) : Rd E.T w u d := by
  unfold boxD at hd
  split at hd
  · injection hd with hd; subst hd; have : u = _ := h; subst this; exact Rd.at _
  · injection hd with hd; subst hd
    refine Rd.mono h (fun b hb => ?_) (same_refl _ _)
    rcases hb with hb | ⟨hb, _⟩
    · exact hb
    · cases hb
  · cases hd
theorem boxC_cv {E : Env} {w : World} {i : Nm} {x j : Nat} {u : Value} {d : DT} (h : Rd E.T w u d) (hd : boxK d = true) : CvB E w i x j (boxC d) u := by
  cases d with
  | «at» v => obtain ⟨n, h⟩ := h; cases n <;> exact h
  | sl e k l => exact Rd.mono h (fun b hb => .inl hb) (same_refl _ _)
  | ptr l => cases hd
  | fn f c => cases hd
theorem openX_sound {w : World} {n : Nat → Nm} (hinj : ∀ a b, n a = n b → a = b) {S : Nat → Prop} {ω : Nat → Option Nat} (rs : List Arg) (us : List Value) (E : Env) (hW : WfE E w) (hn : ∀ j, E.φ (n j) = none) (hS : ∀ b, S b → b < w.heap.size ∧ ¬ E.U b) (hω : ∀ b, S b → E.ω b = none) (ho : ResOw w S ω 0 rs us) :
    ∃ E', Opened E w S E' (openX prims n rs).2 ∧ CvP E' w (openX prims n rs).1 (packV us) := by
  obtain ⟨E', O, hlen, hC⟩ := openR_sound opnOk hinj rs us E 0 hW (fun j _ => hn j) hS (fun b j hb _ _ => hω b hb) ho
  match rs with
  | [r] =>
    have hs : openR prims n 0 [r] = ([(openA prims n 0 r).1], (openA prims n 0 r).2 ++ []) := rfl
    rw [hs] at hC O hlen
    rw [List.append_nil] at O
    match us, hlen with
    | [v], _ => exact ⟨E', O, CvP.of_CvV (hC 0 _ v rfl rfl)⟩
  | [] =>
    refine ⟨E', O, ?_⟩
    have h0 : us.length = 0 := hlen
    rw [packV_two (by omega)]
    exact ⟨us, rfl, hlen, hC⟩
  | r :: r' :: l =>
    refine ⟨E', O, ?_⟩
    have h2 : us.length ≠ 1 := by
      have : (openR prims n 0 (r :: r' :: l)).1 = (openA prims n 0 r).1 :: (openA prims n (0 + r.width) r').1 :: (openR prims n (0 + r.width + r'.width) l).1 := rfl
      rw [hlen, this, List.length_cons, List.length_cons]
      omega
    rw [packV_two h2]
    exact ⟨us, rfl, hlen, hC⟩
theorem box_turn {E : Env} {w0 : Bs} {σ : St} {a : Act} {w w' : World} (R : Rel E w0 σ a w) {n : Nm} {b e k : Nat} {ds' : List DT} (hφ : E.φ n = some (some b)) (hω : E.ω b = some (n, none)) (hfar : w0.w.heap.size ≤ b ∨ w0.C b) (hx : (bsX w fun x => x = b).Ext w') (hb : BoxAt E.T w' b e ds') (hk : ds'.length = k) (hd : ds'.all boxK = true) : Rel E w0 ⟨σ.tm, upd σ.hp n ⟨false, true, e, k, [ds'.map boxC]⟩, σ.cnt⟩ a w' := by
  obtain ⟨cur', hh', hcell'⟩ := hb
  have G : Turn E E w w' (fun x => x = b) (fun _ => False) := ⟨fun _ _ h => h, fun _ _ _ h _ => h, fun _ _ _ h => ⟨_, _, h⟩, fun _ => Iff.rfl, hx.size, fun x hx' hne => hx.block x hx' hne, fun x hb => ⟨n, by rw [hb]; exact hω⟩, fun x hb cur e fz hh => hx.sz x cur e fz hh⟩
  have hW' : WfE E w' := ⟨fun b x hb => Nat.lt_of_lt_of_le (R.wf.lt b x hb) hx.size, R.wf.nb, fun b hb => Nat.lt_of_lt_of_le (R.wf.bl b hb) hx.size⟩
  have hkp : w0.Ext w' := by
    have hk0 := R.kp
    refine ⟨hx.os.trans hk0.os, hx.tape.trans hk0.tape, hx.output.trans hk0.output, Nat.le_trans hk0.size hx.size, fun x hxl hxc => ?_, fun x cur e fz hh => ?_⟩
    · exact (hx.block x (Nat.lt_of_lt_of_le hxl hk0.size) (fun hxb => by
        have hxb' : x = b := hxb
        subst hxb'
        exact hfar.elim (fun h => absurd hxl (Nat.not_lt.2 h)) hxc)).trans (hk0.block x hxl hxc)
    · obtain ⟨c1, h1, h2⟩ := hk0.sz x cur e fz hh
      obtain ⟨c2, h3, h4⟩ := hx.sz x c1 e fz h1
      exact ⟨c2, h3, h4.trans h2⟩
  refine ⟨hW', R.dfr, R.siz, fun t p hp => (R.tmp t p hp).turn R.wf G, fun m c hm => ?_, hkp, R.bs⟩
  rcases look_upd hm with ⟨rfl, rfl⟩ | ⟨hne, hl⟩
  · refine .inr ⟨b, cur', (0, 0), hφ, hω, hh', rfl, fun h => (by cases h), fun x es' hx' => ?_⟩
    cases x with
    | succ x => simp at hx'
    | zero =>
      simp only [List.getElem?_cons_zero, Option.some.injEq] at hx'
      subst hx'
      refine ⟨by rw [List.length_map]; exact hk, fun j p hp => ?_⟩
      rw [List.getElem?_map, Option.map_eq_some_iff] at hp
      obtain ⟨d, hd', rfl⟩ := hp
      obtain ⟨u, hu, hr⟩ := hcell' j d hd'
      exact ⟨u, by simpa using hu, boxC_cv hr (List.all_eq_true.1 hd d (List.mem_of_getElem? hd'))⟩
  · exact (R.blk m c hl).turn R.wf G (fun h => h) (fun x hxb hx2 => by
      have hxb' : x = b := hxb
      subst hxb'
      rw [hω] at hx2
      injection hx2 with hx2
      injection hx2 with hx2
      exact hne hx2.symm)
theorem acur_sound {P : Program} {T : TT} {F : Fns} {w0 : Bs} (hF : Sound P F w0) {E : Env} {σ : St} {a : Act} {w : World} (R : Rel E w0 σ a w) {i : Nat} (hn : ∀ j, E.φ (σ.cnt, i, j) = none) {o : Oper} {f : Operand} {as : Array Operand} {ts : Array TypeId} (ho : o.op = .call { callee := .value f, args := as, argTypes := ts }) {σ' : St}
    (h : acur prims T F σ i o (σ.get f) as.toList ts.toList = some σ') :
    ∃ g args, (execOp a.eval o).run P w = .ok (.enter g args) w ∧ Calls P g args w (fun e w' => ∃ v E', e = .returned v ∧ Rel E' w0 σ' (a.put o.dst v) w' ∧ ∀ m, E'.φ m ≠ none → E.φ m ≠ none ∨ (m.1 = σ.cnt ∧ m.2.1 = i)) ∧ σ'.cnt = σ.cnt := by
  have hg := get_sound R
  unfold acur at h
  split at h
  · rename_i g hgf
    split at h
    · rename_i hlen
      split at h
      · rename_i e n k ps he hps
        split at h
        · rename_i e' k' es hlk
          split at h
          · rename_i hek
            obtain ⟨rfl, rfl⟩ := hek
            split at h
            · rename_i ds xs hds hxs
              split at h
              · rename_i ds' rs hρ
                split at h
                · rename_i hk
                  split at h
                  · rename_i hok
                    injection h with h
                    obtain ⟨ds1, rest, ds1', rs1, hx1, hx2, hE, e1, he1, hcall⟩ : PtrOk P w0 g (.v (.ptr ds) :: xs) (.v (.ptr ds') :: rs) := by
                      rcases (hF _ _ _ hρ).2 g rfl with ⟨_, _, h2, _⟩ | ⟨_, _, _, _, _, _, h2, _⟩ | ⟨_, _, _, h2, _⟩ | h2 | ⟨_, _, _, _, _, h2, _⟩ | ⟨_, h2, _⟩ | ⟨_, _, h2, _⟩ | ⟨_, _, _, _, _, _, _, h2, _⟩ <;> first | exact h2 | (simp at h2; done)
                    simp only [List.cons.injEq, Arg.v.injEq, DT.ptr.injEq] at hx1 hx2
                    obtain ⟨rfl, rfl⟩ := hx1
                    obtain ⟨rfl, rfl⟩ := hx2
                    rw [he] at he1
                    injection he1 with he1
                    subst he1
                    obtain ⟨vs, hvs⟩ : ∃ vs, vs = as.toList.map a.eval := ⟨_, rfl⟩
                    have hpl : (PV.c (.ptr n k 0 0) :: ps).length = as.toList.length := by rw [← hps, List.length_map, List.length_zip, hlen, Nat.min_self]
                    have hcv : ∀ (j : Nat) p v, (PV.c (.ptr n k 0 0) :: ps)[j]? = some p → vs[j]? = some v → CvP E w p v := by
                      intro j p v hp hv
                      rw [← hps, List.getElem?_map, Option.map_eq_some_iff] at hp
                      obtain ⟨⟨x, t⟩, hz, rfl⟩ := hp
                      rw [List.getElem?_zip_eq_some] at hz
                      rw [hvs, List.getElem?_map, hz.1] at hv
                      simp only [Option.map_some, Option.some.injEq] at hv
                      subst hv
                      exact norm_sound (hg x)
                    have hvl : vs.length = ps.length + 1 := by rw [hvs, List.length_map, ← hpl]; rfl
                    match vs, hvl, hvs, hcv with
                    | v :: vs, hvl, hvs, hcv =>
                    obtain ⟨b, hφ, hv0⟩ : ∃ g, E.φ n = some (some g) ∧ v = .pointer (some ⟨g, 0 * k + 0, none⟩) := hcv 0 _ v rfl rfl
                    rw [show 0 * k + 0 = 0 by simp] at hv0
                    subst hv0
                    rcases R.blk n _ hlk with ⟨_, h1, _⟩ | ⟨b', cur, fz, hφ', hω, hh, hfz, _, hc⟩
                    · cases h1
                    rw [hφ] at hφ'
                    injection hφ' with hφ'
                    injection hφ' with hφ'
                    subst hφ'
                    have hfz' : fz = (0, 0) := hfz
                    subst hfz'
                    obtain ⟨hkl, hcell⟩ := hc 0 es rfl
                    obtain ⟨hdl, hdj⟩ := mapO_at hds
                    have hbox : BoxAt E.T w b e ds := ⟨cur, hh, fun j d hd => by
                      have hjl : j < es.length := by rw [← hdl]; exact (List.getElem?_eq_some_iff.1 hd).1
                      have hp : es[j]? = some es[j] := List.getElem?_eq_getElem hjl
                      obtain ⟨u, hu, hC⟩ := hcell j _ hp
                      obtain ⟨d2, hd2, hb2⟩ := hdj j _ hp
                      rw [hd2] at hd
                      injection hd with hd
                      subst hd
                      exact ⟨u, by simpa using hu, boxD_rd hC hb2⟩⟩
                    have hT : ∀ x, E.T x → x < w.heap.size ∧ x ≠ b := fun x hx => ⟨R.wf.bl x hx.1, fun h => by subst h; exact R.wf.nb x _ hω hx.1⟩
                    have hWo := without_wf R.wf b
                    have hTo := without_turn (w := w) hω
                    obtain ⟨hxl, hxj⟩ := mapO_at hxs
                    have hargs : ArgsIn (fun x => x < w.heap.size ∧ x ≠ b) w xs vs := argsIn_mk xs vs (by rw [hxl]; have h9 := hvl; rw [List.length_cons] at h9; omega) fun j x v hx hv => by
                      have hjl : j < ps.length := by rw [← hxl]; exact (List.getElem?_eq_some_iff.1 hx).1
                      have hp : ps[j]? = some ps[j] := List.getElem?_eq_getElem hjl
                      obtain ⟨x2, hx2, hf2⟩ := hxj j _ hp
                      rw [hx2] at hx
                      injection hx with hx
                      subst hx
                      have hC := (hcv (j + 1) ps[j] v (by rw [List.getElem?_cons_succ]; exact hp) (by rw [List.getElem?_cons_succ]; exact hv)).turn R.wf hTo
                      exact (frzP_in hWo (fun m c hm => by
                        obtain ⟨h1, h2⟩ := look_del hm
                        exact (R.blk m c h2).turn R.wf hTo h1 (fun _ h => h.elim)) hC hf2).up fun x hx => without_in R.wf hω hx
                    have hcf := c_val hg hgf
                    obtain ⟨cs, hfv, hcl, _⟩ := hcf
                    have hcs : cs = [] := by simpa using hcl
                    subst hcs
                    have hfar := R.far (R.wf.nb b _ hω)
                    refine ⟨g, (Value.pointer (some ⟨b, 0, none⟩) :: vs).toArray, ?_, (hcall w b E.T vs R.kp hfar hT hbox hargs).mono ?_, by rw [← h]; unfold aput; split <;> rfl⟩
                    · have e1 : as.map a.eval = (Value.pointer (some ⟨b, 0, none⟩) :: vs).toArray := by rw [hvs, ← Array.toList_map]
                      simp only [execOp, ho, resolve, hfv, Deferred.ofValue, invoke, Sem.run_bind, Sem.run_pure, Result.andThen_ok, Array.empty_append, e1, hE _ w]
                      simp
                    · rintro e' w' ⟨us, ω, rfl, hx, ⟨cur', hh', hcell'⟩, hres⟩
                      have hW' : WfE E w' := ⟨fun b x hb => Nat.lt_of_lt_of_le (R.wf.lt b x hb) hx.size, R.wf.nb, fun b hb => Nat.lt_of_lt_of_le (R.wf.bl b hb) hx.size⟩
                      have R1 : Rel E w0 ⟨σ.tm, upd σ.hp n ⟨false, true, e, k, [ds'.map boxC]⟩, σ.cnt⟩ a w' := box_turn R hφ hω hfar hx ⟨cur', hh', hcell'⟩ (by rw [hk.1, hdl]; exact hkl) hk.2
                      obtain ⟨E', O, hC⟩ := openX_sound (n := nmOf σ i) (fun a b hab => by rw [nmOf_eq] at hab; injection hab with _ hab; injection hab) rs us E hW' (fun j => by rw [nmOf_eq]; exact hn j) (fun x hx' => ⟨hx'.2, fun hU => absurd (R.wf.bl x hU) (Nat.not_lt.2 hx'.1)⟩) (fun x hx' => by
                        cases hx3 : E.ω x with
                        | none => rfl
                        | some y => exact absurd (R.wf.lt x y hx3) (Nat.not_lt.2 hx'.1)) hres
                      refine ⟨packV us, E', rfl, ?_, fun m hm => ?_⟩
                      · rw [← h]
                        exact rel_grow R1 O.g O.wf hC O.bk o
                      · rcases O.φ m hm with h1 | ⟨x, hx', rfl⟩
                        · exact .inl h1
                        · right
                          unfold okNm at hok
                          simpa using (List.all_eq_true.1 hok) x hx'
                  · cases h
                · cases h
              · cases h
            · cases h
          · cases h
        · cases h
      · cases h
    · cases h
  · cases h
end Go.Proofs.YtifkepnfaggkiaaDoor
