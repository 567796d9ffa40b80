/- A call that eats a row of ours and gives another: what it needs beside the row is lent, or eaten too. -/
import Derived.Test.YtifkepnfaggkiaaDoorEngMut
namespace Go.Proofs.YtifkepnfaggkiaaDoor
open Go.RowKit
set_option linter.unusedVariables false
set_option linter.unusedSimpArgs false
set_option linter.unusedSectionVars false
theorem rel_grow {T : TT} {E E' : Env} {w0 : Bs} {w w' : World} {σ : St} {a : Act} (R : Rel E w0 σ a w) (G : Grow E E' w w') (hW : WfE E' w') {p : PV} {v : Value} (hv : CvP E' w' p v) {nb : List (Nm × Bk)} (hb : ∀ x ∈ nb, BkOk E' w' x.1 x.2) (o : Oper) : Rel E' w0 (aput T σ o p nb) (a.put o.dst v) w' := by
  refine rel_put hW R.dfr R.siz (fun t q hq => (R.tmp t q hq).grow R.wf G) (fun j b hj => ?_) (R.kp.trans G.ext) (bs_turn G.B G.φ R.bs) hv
  rcases look_app hj with hj | hj
  · exact hb _ hj
  · exact (R.blk j b hj).grow R.wf G
theorem dels_look {i : Nm} {b : Bk} : ∀ (ns : List Nm) (hp : List (Nm × Bk)), look (dels hp ns) i = some b → i ∉ ns ∧ look hp i = some b
  | [], hp, h => ⟨by simp, h⟩
  | n :: l, hp, h => by
    obtain ⟨h1, h2⟩ := dels_look l (del hp n) h
    obtain ⟨h3, h4⟩ := look_del h2
    exact ⟨by simp [h1, h3], h4⟩
/-- without the names that are eaten -/
def gone (E : Env) (ns : List Nm) : Env := { φ := E.φ, B := E.B, ω := fun b => match E.ω b with | some (m, x) => if m ∈ ns then none else some (m, x) | none => none }
theorem gone_some {E : Env} {ns : List Nm} {b : Nat} {y : Nm × Option (Nat × Nat)} (h : (gone E ns).ω b = some y) : E.ω b = some y ∧ y.1 ∉ ns := by
  have h' : (match E.ω b with | some (m, x) => if m ∈ ns then none else some (m, x) | none => none) = some y := h
  split at h'
  · rename_i m x he
    split at h'
    · cases h'
    · rename_i hm
      injection h' with h'
      subst h'
      exact ⟨he, hm⟩
  · cases h'
theorem gone_keep {E : Env} {ns : List Nm} {b : Nat} {m : Nm} {x : Option (Nat × Nat)} (h : E.ω b = some (m, x)) (hm : m ∉ ns) : (gone E ns).ω b = some (m, x) := by
  show (match E.ω b with | some (m, x) => if m ∈ ns then none else some (m, x) | none => none) = some (m, x)
  rw [h]
  exact if_neg hm
theorem gone_none {E : Env} {ns : List Nm} {b : Nat} {m : Nm} {x : Option (Nat × Nat)} (h : E.ω b = some (m, x)) (hm : m ∈ ns) : (gone E ns).ω b = none := by
  show (match E.ω b with | some (m, x) => if m ∈ ns then none else some (m, x) | none => none) = none
  rw [h]
  exact if_pos hm
theorem nodupB_head {x : Nm} {l : List Nm} (h : nodupB (x :: l) = true) : x ∉ l ∧ nodupB l = true := by
  simp only [nodupB, Bool.and_eq_true, Bool.not_eq_true'] at h
  refine ⟨fun hm => ?_, h.2⟩
  have := List.contains_iff_mem.2 hm
  rw [h.1] at this
  cases this
/-- a block of another name, in the world that the call leaves -/
theorem blk_keep {E : Env} {w w' : World} {ns : List Nm} (hSh : Sh E (gone E ns) w w') {S : Nat → Prop} (O : ∀ b, b < w.heap.size → ¬ S b → w'.heap[b]? = w.heap[b]?) (hS : ∀ b m x, E.ω b = some (m, x) → m ∉ ns → ¬ S b) (hW : WfE E w) {m : Nm} {b : Bk} (hm : m ∉ ns) (hB : BkOk E w m b) (hc : calmB prims b = true) : BkOk (gone E ns) w' m b := by
  rcases hB with ⟨h1, h2⟩ | ⟨g0, cur, fz, h1, h2, h3, h4, h5, h6⟩
  · exact .inl ⟨h1, h2⟩
  · refine .inr ⟨g0, cur, fz, h1, gone_keep h2 hm, (O g0 (Array.getElem?_eq_some_iff.1 h3).1 (hS g0 m _ h2 hm)).trans h3, h4, h5, fun x es hx => ?_⟩
    obtain ⟨hk, hj⟩ := h6 x es hx
    refine ⟨hk, fun j p hp => ?_⟩
    obtain ⟨u, hu, hC⟩ := hj j p hp
    refine ⟨u, hu, ?_⟩
    cases p with
    | own e k l => exact Ow.mono hC (fun b hb => gone_keep hb hm) (fun b hb hb' => O b hb (hS b m _ hb' hm))
    | dead => exact trivial
    | _ =>
      have hcc := (calmB_cell hc hx hp).resolve_right (by simp [isOwn])
      exact CvC.sh hSh hcc hC
theorem gone_wf {E : Env} {w w' : World} {ns : List Nm} (hW : WfE E w) (hs : w.heap.size ≤ w'.heap.size) : WfE (gone E ns) w' := ⟨fun b x hb => Nat.lt_of_lt_of_le (hW.lt b x (gone_some hb).1) hs, fun b x hb => hW.nb b x (gone_some hb).1, fun b hb => Nat.lt_of_lt_of_le (hW.bl b hb) hs⟩
theorem conR_sound {E : Env} {w : World} {hp : List (Nm × Bk)} (hW : WfE E w) (hB : ∀ n b, look hp n = some b → BkOk E w n b) (hH : calmH prims hp = true) {i : Nm} {ps : List PV} {xs : List Arg} {ns : List Nm} (h : conR prims hp i ps = some (xs, ns)) {vs : List Value} (hl : vs.length = ps.length) (hc : ∀ (j : Nat) p v, ps[j]? = some p → vs[j]? = some v → CvP E w p v) :
    i ∉ ns ∧ RestOk w (fun b => ∃ m x, E.ω b = some (m, x) ∧ m ∈ ns) (EIn (gone E (i :: ns)) w) xs vs := by
  unfold conR at h
  split at h
  · rename_i f caps
    split at h
    · rename_i hcalm
      rw [Option.map_eq_some_iff] at h
      obtain ⟨d, hd, he⟩ := h
      simp only [Prod.mk.injEq] at he
      obtain ⟨rfl, rfl⟩ := he
      match vs, hl with
      | [v], _ =>
        refine ⟨by simp, ?_⟩
        have hSh : Sh E (gone E [i]) w w := ⟨fun _ => rfl, fun _ => Iff.rfl, Nat.le_refl _, fun _ _ _ => rfl, fun _ g cur e fz _ hh => ⟨cur, e, fz, hh, rfl⟩⟩
        have hC : CvC (gone E [i]) w (.fn f caps) v := CvC.sh hSh (x := .fn f caps) hcalm (hc 0 _ v rfl rfl)
        have hr := frz_in (gone_wf hW (Nat.le_refl _)) (L := look (del hp i)) (fun m b hb => by
          obtain ⟨h1, h2⟩ := look_del hb
          exact blk_keep (S := fun b => ∃ x, E.ω b = some (i, x)) hSh (fun _ _ _ => rfl) (fun b m x hm hn ⟨y, hy⟩ => by rw [hm] at hy; injection hy with hy; injection hy with hy; exact hn (by simp [hy])) hW (by simpa using h1) (hB m b h2) (calmH_mem hH h2)) hC hd
        unfold frz at hd
        simp only [Option.map_eq_some_iff] at hd
        obtain ⟨cs, _, rfl⟩ := hd
        exact hr
    · cases h
  · rename_i u j e k off n
    split at h
    · rename_i b hb
      split at h
      · rename_i es hlit hel
        split at h
        · rename_i hcond
          obtain ⟨rfl, rfl, rfl, hno, hnd⟩ := hcond
          rw [Option.map_eq_some_iff] at h
          obtain ⟨ds, hds, he⟩ := h
          simp only [Prod.mk.injEq] at he
          obtain ⟨rfl, rfl⟩ := he
          obtain ⟨hi1, hnd1⟩ := nodupB_head hnd
          obtain ⟨hj1, hnd2⟩ := nodupB_head hnd1
          have hij : i ≠ j := fun h => hi1 (by simp [h])
          have hin : i ∉ es.flatMap nameC := fun h => hi1 (by simp only [List.mem_cons]; exact .inr h)
          refine ⟨hin, ?_⟩
          match vs, hl with
          | [v1, v2], _ =>
            have h1 : v1 = u := hc 0 _ v1 rfl rfl
            have h2 : CvL E w (.row j e b.k 0 1) v2 := hc 1 _ v2 rfl rfl
            refine ⟨h1, ?_⟩
            obtain ⟨A, c, rfl, hn, hcm, h3⟩ := h2
            rcases hB j b hb with ⟨_, _, hnil⟩ | ⟨g, cur, fz, hφ, hω, hh, hfz, hrw, hcl⟩
            · rw [hel] at hnil; cases hnil
            · have hA : A = some ⟨g, 0 * b.k, none⟩ := by
                rcases h3 with ⟨_, _, hn0, _⟩ | ⟨g', hφ', hA, _⟩
                · cases hn0
                · rw [hφ] at hφ'; injection hφ' with hφ'; injection hφ' with hφ'; subst hφ'; exact hA Nat.zero_lt_one
              subst hA
              obtain ⟨hke, hcj⟩ := hcl 0 es (by rw [hel]; rfl)
              obtain ⟨hlen, hj⟩ := mapO_at hds
              have hjn : j ∉ i :: es.flatMap nameC := by
                simp only [List.mem_cons, not_or]
                exact ⟨fun h => hij h.symm, hj1⟩
              refine ⟨g, 0 * b.k, c, rfl, hn, ⟨(Array.getElem?_eq_some_iff.1 hh).1, .inl (by rw [gone_keep hω hjn]; simp)⟩, ⟨cur, b.e, by rw [hh]; exact congrArg (fun z => some (Obj.cells cur b.e z)) (show fz = (0, 0) from hfz)⟩, fun b' => match E.ω b' with | some (m, _) => (posN m es).map (fun q => (0, q)) | none => none, fun x ds' hx => ?_⟩
              cases x with
              | succ x => simp at hx
              | zero =>
                simp only [List.getElem?_cons_zero, Option.some.injEq] at hx
                subst hx
                refine ⟨by rw [hlen, hke], fun q d hd => ?_⟩
                have hql : q < es.length := by rw [← hlen]; exact (List.getElem?_eq_some_iff.1 hd).1
                have hp : es[q]? = some es[q] := List.getElem?_eq_getElem hql
                obtain ⟨u', hu', hC⟩ := hcj q _ hp
                obtain ⟨d', hd', hf⟩ := hj q _ hp
                rw [hd'] at hd
                injection hd with hd
                subst hd
                refine ⟨u', ?_, ?_⟩
                · rw [block_cell' hh, ← hu']
                  congr 1
                  omega
                · have hne : ∀ e k l, es[q] ≠ .own e k l := fun e k l h => by
                    have := List.all_eq_true.1 hno es[q] (List.getElem_mem hql)
                    rw [h] at this
                    simp [isOwn] at this
                  refine ownC_sound hB (hC.toC hne) hf (fun m hm b' y hb' => ?_)
                  have hmem : m ∈ es.flatMap nameC := List.mem_flatMap.2 ⟨es[q], List.getElem_mem hql, by rw [hm]; simp⟩
                  refine ⟨⟨m, y, hb', hmem⟩, ?_⟩
                  dsimp only
                  rw [hb']
                  show (posN m es).map (fun q => (0, q)) = _
                  rw [posN_at es q es[q] m hnd2 hp hm]
                  rfl
        · cases h
      · cases h
    · cases h
  · cases h
theorem acon_sound {P : Program} {T : TT} {F : Fns} {w0 : Bs} (hF : Sound P F w0) {E : Env} {σ : St} {a : Act} {w : World} (R : Rel E w0 σ a w) {n : Nm} (hn : E.φ n = none) {o : Oper} {f : Operand} {as : Array Operand} {ts : Array TypeId} (ho : o.op = .call { callee := .value f, args := as, argTypes := ts }) {σ' : St}
    (h : acon prims T F σ n o (σ.get f) as.toList ts.toList = some σ') :
    ∃ g args, (execOp a.eval o).run P w = .ok (.enter g args) w ∧ Calls P g args w (fun e w' => ∃ v E', e = .returned v ∧ Rel E' w0 σ' (a.put o.dst v) w' ∧ ∀ m, E'.φ m ≠ none → E.φ m ≠ none ∨ m = n) ∧ σ'.cnt = σ.cnt := by
  have hg := get_sound R
  unfold acon at h
  split at h
  · rename_i g hgf
    split at h
    · rename_i hlen
      split at h
      · rename_i i e0 k0 off0 m0 ps hps
        unfold acon1 at h
        split at h
        · rename_i d xs ns hd hr
          split at h
          · rename_i e k l hρ
            split at h
            · rename_i hcalm
              cases hch : calmH prims σ.hp with
              | false => rw [hch] at h; cases h
              | true =>
                rw [hch] at h
                simp only [cond_true] at h
                injection h with h
                obtain ⟨e1, k1, l1, rest, l2, hxs, hys, hE, hcall⟩ : ConOk P w0 g (.v d :: xs) [.v (.sl e k l)] := by rcases (hF _ _ _ hρ).2 g rfl with ⟨_, _, h2, _⟩ | h2 | ⟨_, _, _, h2, _⟩ | ⟨_, _, _, _, _, h2, _⟩ | ⟨_, _, _, _, _, h2, _⟩ | ⟨_, h2, _⟩ | ⟨_, _, h2, _⟩ | ⟨_, _, _, _, _, _, _, h2, _⟩ <;> first | exact h2 | (simp at h2; done)
                simp only [List.cons.injEq, Arg.v.injEq, DT.sl.injEq, and_true] at hxs hys
                obtain ⟨rfl, rfl⟩ := hxs
                obtain ⟨rfl, rfl, rfl⟩ := hys
                obtain ⟨vs, hvs⟩ : ∃ vs, vs = as.toList.map a.eval := ⟨_, rfl⟩
                have hpl : (PV.c (.row i e0 k0 off0 m0) :: ps).length = as.toList.length := by rw [← hps, List.length_map, List.length_zip, hlen, Nat.min_self]
                have hcv : ∀ (j : Nat) p v, (PV.c (.row i e0 k0 off0 m0) :: ps)[j]? = some p → vs[j]? = some v → CvP E w p v := by
                  intro j p v hp hv
                  rw [← hps, List.getElem?_map, Option.map_eq_some_iff] at hp
                  obtain ⟨⟨x, t⟩, hz, rfl⟩ := hp
                  rw [List.getElem?_zip_eq_some] at hz
                  rw [hvs, List.getElem?_map, hz.1] at hv
                  simp only [Option.map_some, Option.some.injEq] at hv
                  subst hv
                  exact norm_sound (hg x)
                have hvl : vs.length = ps.length + 1 := by rw [hvs, List.length_map, ← hpl]; rfl
                match vs, hvl, hvs, hcv with
                | v :: vs, hvl, hvs, hcv =>
                have hv0 : CvC E w (.row i e0 k0 off0 m0) v := hcv 0 _ v rfl rfl
                obtain ⟨hin, hrest⟩ := conR_sound R.wf R.blk hch hr (vs := vs) (by simpa using hvl) (fun j p v hp hv => hcv (j + 1) p v (by simpa using hp) (by simpa using hv))
                have hown := ownC_sound R.blk hv0 hd (S := fun b => ∃ x, E.ω b = some (i, x)) (fun m hm b y hb => by
                  simp only [nameC, List.cons.injEq, and_true] at hm
                  subst hm
                  exact ⟨y, hb⟩)
                have hcf := c_val hg hgf
                obtain ⟨cs, hfv, hcl, _⟩ := hcf
                have hcs : cs = [] := by simpa using hcl
                subst hcs
                have hS0 : ∀ b m x, E.ω b = some (m, x) → m ∉ i :: ns → ¬ (∃ x, E.ω b = some (i, x)) := fun b m x hb hm ⟨y, hy⟩ => by
                  rw [hb] at hy
                  injection hy with hy
                  injection hy with hy
                  exact hm (by simp [hy])
                refine ⟨g, (v :: vs).toArray, ?_, (hcall w v vs (fun b => ∃ x, E.ω b = some (i, x)) (fun b => ∃ m x, E.ω b = some (m, x) ∧ m ∈ ns) (EIn (gone E (i :: ns)) w) R.kp (fun b hb => ?_) (fun b hb => ?_) (fun b hb => ?_) hown hrest).mono ?_, by rw [← h, aput_cnt']⟩
                · have e1 : as.map a.eval = (v :: vs).toArray := by rw [hvs, ← Array.toList_map]
                  simp only [execOp, ho, resolve, hfv, Deferred.ofValue, invoke, Sem.run_bind, Sem.run_pure, Result.andThen_ok, Array.empty_append, e1, hE _ w]
                  simp
                · rcases hb with ⟨x, hb⟩ | ⟨m, x, hb, _⟩ | hb
                  · exact R.wf.lt b _ hb
                  · exact R.wf.lt b _ hb
                  · exact hb.1
                · obtain ⟨x, hb⟩ := hb
                  refine ⟨R.far (R.wf.nb b _ hb), fun ⟨m, y, hb', hm⟩ => ?_⟩
                  rw [hb] at hb'
                  injection hb' with hb'
                  injection hb' with hb'
                  exact hin (by rw [hb']; exact hm)
                · obtain ⟨_, hb⟩ := hb
                  have key : ∀ m x, E.ω b = some (m, x) → m ∈ i :: ns → False := fun m x hbm hm => by
                    rcases hb with hb | hb
                    · exact hb (gone_none hbm hm)
                    · exact R.wf.nb b _ hbm (tv_u (E := E) hb)
                  exact ⟨fun ⟨x, hx⟩ => key i x hx (by simp), fun ⟨m, x, hx, hm⟩ => key m x hx (by simp [hm])⟩
                · rintro e' w' ⟨v', rfl, O, hO⟩
                  have hSh : Sh E (gone E (i :: ns)) w w' := ⟨fun _ => rfl, fun _ => Iff.rfl, O.size, fun b hb hB => O.block b hb (fun ⟨x, hx⟩ => R.wf.nb b _ hx hB), fun j g0 cur e fz _ hh => by
                      obtain ⟨cur', h1, h2⟩ := O.sizes g0 cur e fz hh
                      exact ⟨cur', e, fz, h1, h2⟩⟩
                  have hWf : WfE (gone E (i :: ns)) w' := gone_wf R.wf O.size
                  have R2 : Rel (gone E (i :: ns)) w0 ⟨σ.tm, dels (del σ.hp i) ns, σ.cnt⟩ a w' := ⟨hWf, R.dfr, R.siz, fun t q hq => CvP.sh hSh (List.all_eq_true.1 hcalm q (List.mem_of_getElem? hq)) (R.tmp t q hq), fun m b hb => by
                      obtain ⟨h1, h2⟩ := dels_look ns _ hb
                      obtain ⟨h3, h4⟩ := look_del h2
                      exact blk_keep hSh O.block hS0 R.wf (by simp [h1, h3]) (R.blk m b h4) (calmH_mem hch h4), by
                      have hk := R.kp
                      refine ⟨O.os.trans hk.os, O.tape.trans hk.tape, O.output.trans hk.output, Nat.le_trans hk.size O.size, fun b hb hc => ?_, fun b cur e fz hb => by
                      obtain ⟨c1, h1, h2⟩ := hk.sz b cur e fz hb
                      obtain ⟨c2, h3, h4⟩ := O.sizes b c1 e fz h1
                      exact ⟨c2, h3, h4.trans h2⟩⟩
                      have hB := (R.bs.u b).2 ⟨hb, hc⟩
                      exact (hSh.same b (R.wf.bl b hB) hB).trans (hk.block b hb hc), bs_turn (E := E) (fun _ => Iff.rfl) (fun _ _ h => h) R.bs⟩
                  obtain ⟨E', G, hW', hBk, hCv, hφ', _⟩ := open_row hWf (m := n) hn (fun b hb => by
                    rcases hb with ⟨x, hb⟩ | ⟨m, x, hb, hm⟩ | ⟨hb1, hb2⟩
                    · exact ⟨Nat.lt_of_lt_of_le (R.wf.lt b _ hb) O.size, gone_none hb (by simp), R.wf.nb b _ hb⟩
                    · exact ⟨Nat.lt_of_lt_of_le (R.wf.lt b _ hb) O.size, gone_none hb (by simp [hm]), R.wf.nb b _ hb⟩
                    · refine ⟨hb2, ?_, fun hB => absurd (R.wf.bl b hB) (Nat.not_lt.2 hb1)⟩
                      cases hx : (gone E (i :: ns)).ω b with
                      | none => rfl
                      | some y => exact absurd (R.wf.lt b _ (gone_some hx).1) (Nat.not_lt.2 hb1)) hO
                  refine ⟨v', E', rfl, ?_, fun m hm => hφ' m hm⟩
                  rw [← h]
                  exact rel_grow R2 G hW' (show CvP E' w' (.c (.row n _ _ 0 (prims.len _))) v' from hCv) (fun x hx => by
                    simp only [List.mem_singleton] at hx
                    subst hx
                    exact hBk) o
            · cases h
          · cases h
        · cases h
      · cases h
    · cases h
  · cases h
end Go.Proofs.YtifkepnfaggkiaaDoor
