/- A layer of symbolic execution over the kit's weakest preconditions, part R1; no conditions. -/
import Derived.Test.YtecmmhngjjhieaaGreatDoorVD
import Derived.ChangeArms
import Derived.DataReads
import Derived.OpenShut
set_option linter.unusedSimpArgs false
set_option linter.unusedVariables false
set_option linter.unnecessarySimpa false
namespace Go.KV
variable {P : Program} {T : TEnv}
/-! From the form's reading of an argument to values of the layer. -/
def offs (T : TEnv) : List (Nat × TypeId) → Nat → Option Nat
  | [], n => some n
  | (o, t) :: l, n => bif Nat.beq o n then (match T t with
    | some d => offs T l (n + d.size)
    | none => none) else none
/-- Types of plain data, to a depth. -/
def chkT (T : TEnv) : Nat → TypeId → Bool
  | 0, _ => false
  | D + 1, t => match T t with
    | none => false
    | some d => match d.k with
      | .int _ | .bool | .str => Nat.beq d.size 1
      | .slice e => Nat.beq d.size 1 && chkT T D e
      | .strct fs => (match offs T fs 0 with | some n => Nat.beq n d.size | none => false) && fs.all fun f => chkT T D f.2
      | _ => false
/-- Cells of a type, as pure values. -/
def PT (T : TEnv) : Nat → TypeId → List PV → Prop
  | 0, _, _ => False
  | D + 1, t, ps => match T t with
    | none => False
    | some d => match d.k with
      | .int k => ∃ n, ps = [.int k n] ∧ (Lit.int k n).wf = true
      | .bool => ∃ b, ps = [.bool b]
      | .str => ∃ s, ps = [.str s] ∧ s.size ≤ maxLen
      | .slice e => ∃ sz es, ps = [.sl none sz es] ∧ (∃ de, T e = some de ∧ sz = de.size) ∧ es.length ≤ maxLen ∧ ∀ x ∈ es, PT T D e x
      | .strct fs => ∃ pss, ps = pss.flatten ∧ All2 (fun (f : Nat × TypeId) q => PT T D f.2 q) fs pss
      | _ => False
theorem cellsOf_is {t : TypeId} {d : TD} {i : TypeInfo} {u : TypeDesc} {z : Value} (h : d.Is P t i u z) : P.cellsOf t = d.size := by
  simp [Program.cellsOf, h.info, h.size]
theorem cellsOf_T (hT : TOk P T) {t : TypeId} {d : TD} (h : T t = some d) : P.cellsOf t = d.size := by
  obtain ⟨i, u, z, hI⟩ := tdOf_spec (hT _ _ h)
  exact cellsOf_is hI
def szT (T : TEnv) (f : Nat × TypeId) : Nat := ((T f.2).map TD.size).getD 0
theorem offs_spec : ∀ (l : List (Nat × TypeId)) (n m : Nat), offs T l n = some m →
    (∀ (i : Nat) (f : Nat × TypeId), l[i]? = some f → (∃ d, T f.2 = some d) ∧ f.1 = n + ((l.take i).map (szT T)).sum) ∧ m = n + (l.map (szT T)).sum
  | [], n, m, h => by
    simp only [offs, Option.some.injEq] at h
    exact ⟨fun i f h => by simp at h, by simp [h]⟩
  | (o, t) :: l, n, m, h => by
    simp only [offs] at h
    cases hb : Nat.beq o n with
    | false => rw [hb] at h; cases h
    | true =>
      rw [hb] at h
      simp only [cond_true] at h
      split at h
      · rename_i d hd
        have ho := Nat.eq_of_beq_eq_true hb
        obtain ⟨h1, h3⟩ := offs_spec l _ m h
        have hsz : szT T (o, t) = d.size := by simp [szT, hd]
        refine ⟨fun i f hi => ?_, ?_⟩
        · cases i with
          | zero => simp at hi; subst hi; exact ⟨⟨d, hd⟩, by simp [ho]⟩
          | succ i =>
            obtain ⟨g1, g2⟩ := h1 i f (by simpa using hi)
            refine ⟨g1, ?_⟩
            rw [List.take_succ_cons, List.map_cons, List.sum_cons, hsz, g2]
            omega
        · rw [List.map_cons, List.sum_cons, hsz]
          omega
      · cases h
/-- Pieces that follow one another. -/
theorem pieces {α : Type} {R : α → List PV → Prop} {S : Nat → PV → Prop} (off sz : α → Nat) : ∀ (l : List α) (n : Nat),
    (∀ (i : Nat) (x : α), l[i]? = some x → ∃ q : List PV, R x q ∧ q.length = sz x ∧ ∀ (j : Nat) (p : PV), q[j]? = some p → S (off x + j) p) →
    (∀ (i : Nat) (x : α), l[i]? = some x → off x = n + ((l.take i).map sz).sum) →
    ∃ pss : List (List PV), All2 R l pss ∧ pss.flatten.length = (l.map sz).sum ∧ ∀ (j : Nat) (p : PV), pss.flatten[j]? = some p → S (n + j) p
  | [], n, _, _ => ⟨[], .nil, rfl, fun j p h => by simp at h⟩
  | x :: l, n, h, ho => by
    obtain ⟨q, h1, h2, h3⟩ := h 0 x rfl
    have hx := ho 0 x rfl
    simp at hx
    obtain ⟨pss, g1, g2, g3⟩ := pieces (R := R) (S := S) off sz l (n + sz x) (fun i y hy => h (i + 1) y (by simpa using hy)) (fun i y hy => by
      have := ho (i + 1) y (by simpa using hy)
      rw [List.take_succ_cons, List.map_cons, List.sum_cons] at this
      omega)
    refine ⟨q :: pss, .cons h1 g1, by simp [h2] at g2 ⊢; omega, fun j p hj => ?_⟩
    rw [List.flatten_cons] at hj
    by_cases hlt : j < q.length
    · rw [List.getElem?_append_left hlt] at hj
      have := h3 j p hj
      rwa [hx] at this
    · rw [List.getElem?_append_right (by omega)] at hj
      have := g3 _ p hj
      rwa [show n + sz x + (j - q.length) = n + j by omega] at this
theorem getD_drop_take {cs : List Value} {o n j : Nat} (h : j < n) (hl : o + n ≤ cs.length) : ((cs.drop o).take n).getD j undef = cs.getD (o + j) undef := by
  simp only [List.getD_eq_getElem?_getD, List.getElem?_take, h, if_true, List.getElem?_drop]
theorem trod_reads (hT : TOk P T) {H : Type} (enc : TypeId × Value → H) (w : World) (spare : Nat → Bool) (held : Bool) :
    ∀ (D fuel : Nat) (t : TypeId) (cs : List Value) (x : DataW H × List MemPlace), chkT T D t = true → DataW.trod enc P w 0 spare held fuel t cs = some x →
      ∃ ps, PT T D t ps ∧ ps.length = cs.length ∧ (∃ td, T t = some td ∧ cs.length = td.size) ∧ ∀ (i : Nat) (q : PV), ps[i]? = some q → Reads w (fun _ => False) q (cs.getD i undef)
  | 0, _, _, _, _, h, _ => by cases h
  | D + 1, fuel, t, cs, x, hc, h => by
    simp only [chkT] at hc
    split at hc
    · cases hc
    rename_i td htd
    obtain ⟨ti, u, z, hI⟩ := tdOf_spec (hT _ _ htd)
    have hk := hI.k
    have hcell := cellsOf_is hI
    have hu := hI.under
    have one : ∀ (q : PV) (v : Value), cs = [v] → td.size = 1 → Reads w (fun _ => False) q v → PT T (D + 1) t [q] →
        ∃ ps, PT T (D + 1) t ps ∧ ps.length = cs.length ∧ (∃ td, T t = some td ∧ cs.length = td.size) ∧ ∀ (i : Nat) (q : PV), ps[i]? = some q → Reads w (fun _ => False) q (cs.getD i undef) := by
      intro q v hcs hsz hr hp
      refine ⟨[q], hp, by simp [hcs], ⟨td, htd, by simp [hcs, hsz]⟩, fun i q' hi => ?_⟩
      cases i with
      | zero => simp at hi; subst hi; simpa [hcs] using hr
      | succ i => simp at hi
    split at hc
    · -- a number
      rename_i k hkk
      rw [hkk] at hk
      cases u <;> simp only [tkOf, reduceCtorEq, TK.int.injEq] at hk
      subst hk
      obtain ⟨n, rfl, rfl, hw⟩ := DataW.trod_int hu h
      exact one (.int _ n) _ rfl (Nat.eq_of_beq_eq_true hc) (.int _ _) (by simp only [PT, htd, hkk]; exact ⟨n, rfl, hw⟩)
    · rename_i hkk
      rw [hkk] at hk
      cases u <;> simp only [tkOf, reduceCtorEq] at hk
      obtain ⟨b, rfl, rfl⟩ := DataW.trod_bool hu h
      exact one (.bool b) _ rfl (Nat.eq_of_beq_eq_true hc) (.bool _) (by simp only [PT, htd, hkk]; exact ⟨b, rfl⟩)
    · rename_i hkk
      rw [hkk] at hk
      cases u <;> simp only [tkOf, reduceCtorEq] at hk
      obtain ⟨s, rfl, rfl, hs⟩ := DataW.trod_string hu h
      exact one (.str s) _ rfl (Nat.eq_of_beq_eq_true hc) (.str _) (by simp only [PT, htd, hkk]; exact ⟨s, rfl, hs⟩)
    · -- a slice
      rename_i e hkk
      rw [Bool.and_eq_true] at hc
      obtain ⟨hsz, hce⟩ := hc
      rw [hkk] at hk
      cases u <;> simp only [tkOf, reduceCtorEq, TK.slice.injEq] at hk
      rw [hk] at hu
      obtain ⟨de, hde⟩ : ∃ de, T e = some de := by
        cases D with
        | zero => cases hce
        | succ D =>
          simp only [chkT] at hce
          split at hce
          · cases hce
          · rename_i de hde; exact ⟨de, hde⟩
      have hce' := cellsOf_T hT hde
      rcases DataW.trod_slice hu h with ⟨rfl, rfl⟩ | ⟨a, len, cap, elems, rest, n, rfl, rfl, rfl, h1, h2, h3, h4, h5, _⟩
      · exact one (.sl none de.size []) _ rfl (Nat.eq_of_beq_eq_true hsz) (.nils (by simp)) (by simp only [PT, htd, hkk]; exact ⟨_, [], rfl, ⟨de, hde, rfl⟩, by simp, by simp⟩)
      · have hel : ∀ i, i < len → ∃ q : List PV, PT T D e q ∧ q.length = de.size ∧ ∀ (j : Nat) (p : PV), q[j]? = some p → ∃ v, w.cell? (a.add (i * de.size + j)) = some v ∧ Reads w (fun _ => False) p v := by
          intro i hi
          have h6 := h5 i hi
          rw [List.getElem?_eq_getElem (by omega), Option.bind_eq_some_iff] at h6
          obtain ⟨row, h7, h8⟩ := h6
          obtain ⟨_, g1, g2⟩ := World.cells?_some h7
          obtain ⟨q, k1, k2, ⟨td', k3, k4⟩, k5⟩ := trod_reads hT enc w spare held D n e row _ hce h8
          rw [hde] at k3
          cases k3
          refine ⟨q, k1, by omega, fun j p hj => ?_⟩
          have hjl : j < de.size := by have := (List.getElem?_eq_some_iff.1 hj).1; omega
          have h9 := g2 j (by omega)
          rw [add_add, hce'] at h9
          refine ⟨row.getD j undef, ?_, k5 j p hj⟩
          rw [h9, List.getD_eq_getElem?_getD, List.getElem?_eq_getElem (by omega)]
          rfl
        obtain ⟨es, e1, e2⟩ : ∃ es : List (List PV), es.length = len ∧ ∀ (i : Nat) (q : List PV), es[i]? = some q → PT T D e q ∧ q.length = de.size ∧ ∀ (j : Nat) (p : PV), q[j]? = some p → ∃ v, w.cell? (a.add (i * de.size + j)) = some v ∧ Reads w (fun _ => False) p v := by
          refine ⟨(List.range len).map fun i => if hi : i < len then (hel i hi).choose else [], by simp, fun i q hq => ?_⟩
          rw [List.getElem?_map, Option.map_eq_some_iff] at hq
          obtain ⟨i', hi', rfl⟩ := hq
          obtain ⟨hlt, rfl⟩ := List.getElem?_eq_some_iff.1 hi'
          simp only [List.length_range] at hlt
          simp only [List.getElem_range, hlt, dif_pos]
          exact (hel i hlt).choose_spec
        refine one (.sl none de.size es) _ rfl (Nat.eq_of_beq_eq_true hsz) ?_ ?_
        · have hrow := @Reads.row w (fun _ => False) none es a cap de.size (fun i j => (w.cell? (a.add (i * de.size + j))).getD undef) (by simp) (by omega)
            (fun q hq => by obtain ⟨i, hi, rfl⟩ := List.mem_iff_getElem.1 hq; exact (e2 i _ (List.getElem?_eq_getElem hi)).2.1)
            (fun i q hi j p hj => by
              obtain ⟨v, v1, v2⟩ := (e2 i q hi).2.2 j p hj
              exact ⟨by rw [v1]; rfl, fun h => h⟩)
            (fun i q hi j p hj => by
              obtain ⟨v, v1, v2⟩ := (e2 i q hi).2.2 j p hj
              rw [v1]; exact v2)
          rw [e1] at hrow
          exact hrow
        · simp only [PT, htd, hkk]
          exact ⟨_, es, rfl, ⟨de, hde, rfl⟩, by omega, fun q hq => by obtain ⟨i, hi, rfl⟩ := List.mem_iff_getElem.1 hq; exact (e2 i _ (List.getElem?_eq_getElem hi)).1⟩
    · -- a struct
      rename_i fs hkk
      rw [Bool.and_eq_true] at hc
      obtain ⟨ho, hall⟩ := hc
      rw [hkk] at hk
      cases u <;> simp only [tkOf, reduceCtorEq, TK.strct.injEq] at hk
      rename_i fs'
      obtain ⟨xs, n, rfl, rfl, hl, h1, h2⟩ := DataW.trod_struct hu h
      obtain ⟨m, hm, hmt⟩ : ∃ m, offs T fs 0 = some m ∧ m = td.size := by
        split at ho
        · rename_i m hm; exact ⟨m, hm, Nat.eq_of_beq_eq_true ho⟩
        · cases ho
      obtain ⟨o1, o2⟩ := offs_spec fs 0 m hm
      have hfld : ∀ (i : Nat) (f : Nat × TypeId), fs[i]? = some f → ∃ q : List PV, PT T D f.2 q ∧ q.length = szT T f ∧ ∀ (j : Nat) (p : PV), q[j]? = some p → Reads w (fun _ => False) p (cs.getD (f.1 + j) undef) := by
        intro i f hf
        obtain ⟨⟨df, hdf⟩, hoff⟩ := o1 i f hf
        rw [← hk, List.getElem?_map, Option.map_eq_some_iff] at hf
        obtain ⟨fd, hfd, rfl⟩ := hf
        have hfd' : fs'[i]? = some fd := by simpa using hfd
        have h3 := h2 i fd hfd'
        have hil : i < xs.length := by
          have := (Array.getElem?_eq_some_iff.1 hfd').1
          omega
        rw [List.getElem?_eq_getElem hil] at h3
        have hcf : chkT T D fd.type = true := by
          rw [List.all_eq_true] at hall
          exact hall (fd.offset, fd.type) (by rw [← hk]; exact List.mem_map.2 ⟨fd, List.mem_of_getElem? hfd, rfl⟩)
        obtain ⟨q, k1, k2, ⟨td', k3, k4⟩, k5⟩ := trod_reads hT enc w spare held D n fd.type _ _ hcf h3
        have hsf : P.cellsOf fd.type = td'.size := cellsOf_T hT k3
        have hszf : szT T (fd.offset, fd.type) = td'.size := by simp [szT, k3]
        refine ⟨q, k1, by rw [hszf, k2, k4], fun j p hj => ?_⟩
        have hjl : j < td'.size := by have := (List.getElem?_eq_some_iff.1 hj).1; omega
        have := k5 j p hj
        have hlen : fd.offset + td'.size ≤ cs.length := by
          rw [← k4]
          simp only [List.length_take, List.length_drop, hsf] at k4 ⊢
          omega
        rw [getD_drop_take (by omega) (by omega)] at this
        exact this
      obtain ⟨pss, g1, g2, g3⟩ := pieces (R := fun (f : Nat × TypeId) q => PT T D f.2 q) (S := fun i p => Reads w (fun _ => False) p (cs.getD i undef)) (fun f => f.1) (szT T) fs 0 hfld (fun i f hf => (o1 i f hf).2)
      refine ⟨pss.flatten, by simp only [PT, htd, hkk]; exact ⟨pss, rfl, g1⟩, by omega, ⟨td, htd, by omega⟩, fun i q hq => by simpa using g3 i q hq⟩
    · cases hc
end Go.KV
