/- A layer of symbolic execution over the kit's weakest preconditions, part VD; no conditions. -/
import Derived.Test.YtecmmhngjjhieaaGreatDoorVC
import Derived.ChangeKeysEq
import Derived.Laws.StructEq
import Derived.MapKept
import Derived.Laws.Cover3
import Derived.Laws.Pointers
import Derived.Laws.MakeOwn
import Derived.Laws.AppendOwn
import Derived.Maps.RangeRun
import Derived.Recover
import Derived.RecoverIn
set_option linter.unusedSimpArgs false
set_option linter.unusedVariables false
set_option linter.unnecessarySimpa false
namespace Go.KV
variable {P : Program} {T : TEnv} {N : Nat} {E : Env}
/-! Equality of scalars and of flat aggregates. -/
theorem nil_slice {w : World} {A : Nat → Prop} {n : Nat} {v : Value} (h : Reads w A (.sl (some true) n []) v) : v = .slice none 0 0 := by
  cases h with
  | nils => rfl
  | row es a cap sz us h => exact absurd rfl h
def ceq : CT → PV → PV → Option Bool
  | .int _, .int k a, .int j b => bif kindEq k j then some (a == b) else none
  | .bool, .bool a, .bool b => some (a == b)
  | .str, .str a, .str b => some (a.toList == b.toList)
  | _, _, _ => none
def rowEq : List CT → List PV → List PV → Option Bool
  | [], [], [] => some true
  | c :: cs, p :: ps, q :: qs => (ceq c p q).bind fun b => (rowEq cs ps qs).bind fun r => some (b && r)
  | _, _, _ => none
/-- A scalar type. -/
def scalOf (P : Program) (t : TypeId) : Option CT :=
  match P.underlying t with
  | some (.int k) => some (.int k)
  | some .bool => some .bool
  | some .string => some .str
  | _ => none
def fieldsFlat (P : Program) : List Field → Nat → Option (List CT)
  | [], _ => some []
  | f :: fs, j => bif Nat.beq f.offset j && !(f.name == "_") then (match scalOf P f.type with
    | some c => match fieldsFlat P fs (j + 1) with
      | some cs => some (c :: cs)
      | none => none
    | none => none) else none
/-- A type of scalars, laid out one after the other: its cells' kinds, and whether it is an aggregate. -/
def flatEq (P : Program) (t : TypeId) : Option (Bool × List CT) :=
  match P.underlying t with
  | some (.struct fs) => bif P.stoodInHeld t || P.eqGuardType P.depth t then none else match fieldsFlat P fs.toList 0 with
    | some cs => some (true, cs)
    | none => none
  | some (.array n e) => bif P.eqGuardType P.depth t then none else match scalOf P e, P.info? e with
    | some c, some i => bif Nat.beq i.size 1 && Nat.blt n 1000 then some (true, List.replicate n c) else none
    | _, _ => none
  | _ => match scalOf P t with
    | some c => some (false, [c])
    | none => none
theorem scalOf_agg {w : World} {t : TypeId} {c : CT} (h : scalOf P t = some c) : (isAgg t).run P w = .ok false w := by
  unfold scalOf at h
  split at h <;> first | cases h | skip
  all_goals
    rename_i hu
    simp [isAgg, run_underlying hu]
theorem ceq_run {w : World} {A : Nat → Prop} {t : TypeId} {c : CT} (h : scalOf P t = some c) {p q : PV} {x y : Value} {b : Bool} (hb : ceq c p q = some b) (hx : Reads w A p x) (hy : Reads w A q y) (d : Nat) :
    (Op.equalIn (d + 1) t x y).run P w = .ok b w := by
  unfold scalOf at h
  split at h <;> first | cases h | skip
  · rename_i k hu
    cases p <;> cases q <;> simp only [ceq, reduceCtorEq] at hb
    rename_i k a j b'
    cases hk : kindEq k j with
    | false => rw [hk] at hb; cases hb
    | true =>
      rw [hk] at hb
      cases hb
      cases hx; cases hy
      rw [kindEq_eq hk]
      exact run_equalIn_int w d t _ _ _ _ hu
  · rename_i hu
    cases p <;> cases q <;> simp only [ceq, reduceCtorEq] at hb
    cases hb
    cases hx; cases hy
    exact run_equalIn_bool' w d t _ _ hu
  · rename_i hu
    cases p <;> cases q <;> simp only [ceq, reduceCtorEq] at hb
    cases hb
    cases hx; cases hy
    exact run_equalIn_string w d t _ _ hu
theorem part_scal {w : World} {t : TypeId} {c : CT} (h : scalOf P t = some c) {xs : Array Value} {j : Nat} (hj : j < xs.size) : (part t xs j).run P w = .ok (xs.getD j undef) w := by
  simp only [part, Sem.run_bind, scalOf_agg h, Result.andThen_ok, Bool.false_eq_true, if_false]
  simp [Array.getD_eq_getD_getElem?, hj]
theorem eqFields_flat {w : World} {A : Nat → Prop} (d : Nat) (xs ys : Array Value) : ∀ (fs : List Field) (j : Nat) (cs : List CT) (ps qs : List PV) (b : Bool), fieldsFlat P fs j = some cs → rowEq cs ps qs = some b →
    (∀ i p, ps[i]? = some p → j + i < xs.size ∧ Reads w A p (xs.getD (j + i) undef)) → (∀ i p, qs[i]? = some p → j + i < ys.size ∧ Reads w A p (ys.getD (j + i) undef)) →
    (Op.eqFields (d + 1) xs ys fs).run P w = .ok b w
  | [], j, cs, ps, qs, b, hf, hb, hx, hy => by
    simp only [fieldsFlat] at hf
    cases hf
    cases ps <;> cases qs <;> simp only [rowEq, reduceCtorEq] at hb
    cases hb
    simp [Op.eqFields]
  | f :: fs, j, cs, ps, qs, b, hf, hb, hx, hy => by
    simp only [fieldsFlat] at hf
    cases hc : (Nat.beq f.offset j && !(f.name == "_")) with
    | false => rw [hc] at hf; cases hf
    | true =>
      rw [hc] at hf
      simp only [cond_true] at hf
      rw [Bool.and_eq_true, Bool.not_eq_true'] at hc
      have h1 := Nat.eq_of_beq_eq_true hc.1
      have h2 : f.name ≠ "_" := by simpa using hc.2
      split at hf
      · rename_i c hs
        split at hf
        · rename_i cs' hr
          cases hf
          cases ps with
          | nil => simp only [rowEq] at hb; cases hb
          | cons p ps =>
            cases qs with
            | nil => simp only [rowEq] at hb; cases hb
            | cons q qs =>
              simp only [rowEq, Option.bind_eq_some_iff] at hb
              obtain ⟨b1, e1, b2, e2, e3⟩ := hb
              cases e3
              obtain ⟨hx1, hx2⟩ := hx 0 p rfl
              obtain ⟨hy1, hy2⟩ := hy 0 q rfl
              simp only [Nat.add_zero] at hx1 hx2 hy1 hy2
              have r1 := ceq_run hs e1 hx2 hy2 d
              have ih := eqFields_flat d xs ys fs (j + 1) cs' ps qs b2 hr e2 (fun i p' hi => by
                have := hx (i + 1) p' (by simpa using hi)
                rwa [show j + (i + 1) = j + 1 + i by omega] at this) (fun i p' hi => by
                have := hy (i + 1) p' (by simpa using hi)
                rwa [show j + (i + 1) = j + 1 + i by omega] at this)
              simp only [Op.eqFields, ne_eq, h2, not_false_eq_true, if_true, Sem.run_bind, h1, part_scal hs hx1, part_scal hs hy1, Result.andThen_ok, r1]
              cases b1
              · simp
              · simpa using ih
        · cases hf
      · cases hf
theorem eqItems_flat {w : World} {A : Nat → Prop} (d : Nat) {e : TypeId} {c : CT} (hs : scalOf P e = some c) (xs ys : Array Value) : ∀ (n j : Nat) (ps qs : List PV) (b : Bool), rowEq (List.replicate n c) ps qs = some b →
    (∀ i p, ps[i]? = some p → j + i < xs.size ∧ Reads w A p (xs.getD (j + i) undef)) → (∀ i p, qs[i]? = some p → j + i < ys.size ∧ Reads w A p (ys.getD (j + i) undef)) →
    (Op.eqItems (d + 1) e 1 xs ys (List.range' j n)).run P w = .ok b w
  | 0, j, ps, qs, b, hb, hx, hy => by
    cases ps <;> cases qs <;> simp only [List.replicate_zero, rowEq, reduceCtorEq] at hb
    cases hb
    simp [Op.eqItems]
  | n + 1, j, ps, qs, b, hb, hx, hy => by
    cases ps with
    | nil => simp only [List.replicate_succ, rowEq] at hb; cases hb
    | cons p ps =>
      cases qs with
      | nil => simp only [List.replicate_succ, rowEq] at hb; cases hb
      | cons q qs =>
        simp only [List.replicate_succ, rowEq, Option.bind_eq_some_iff] at hb
        obtain ⟨b1, e1, b2, e2, e3⟩ := hb
        cases e3
        obtain ⟨hx1, hx2⟩ := hx 0 p rfl
        obtain ⟨hy1, hy2⟩ := hy 0 q rfl
        simp only [Nat.add_zero] at hx1 hx2 hy1 hy2
        have r1 := ceq_run hs e1 hx2 hy2 d
        have ih := eqItems_flat d hs xs ys n (j + 1) ps qs b2 e2 (fun i p' hi => by
          have := hx (i + 1) p' (by simpa using hi)
          rwa [show j + (i + 1) = j + 1 + i by omega] at this) (fun i p' hi => by
          have := hy (i + 1) p' (by simpa using hi)
          rwa [show j + (i + 1) = j + 1 + i by omega] at this)
        rw [List.range'_succ]
        simp only [Op.eqItems, Nat.mul_one, Sem.run_bind, part_scal hs hx1, part_scal hs hy1, Result.andThen_ok, r1]
        cases b1
        · simp
        · simpa using ih
/-- The cells of a value of a flat type. -/
def CellsAre (w : World) (A : Nat → Prop) (ag : Bool) (ps : List PV) (x : Value) : Prop :=
  if ag = true then ∃ cs : Array Value, x = .agg cs ∧ cs.size = ps.length ∧ ∀ i p, ps[i]? = some p → Reads w A p (cs.getD i undef)
  else ∃ p, ps = [p] ∧ Reads w A p x
theorem equal_flat {w : World} {A : Nat → Prop} {t : TypeId} {ag : Bool} {cs : List CT} (h : flatEq P t = some (ag, cs)) {ps qs : List PV} {b : Bool} (hb : rowEq cs ps qs = some b) {x y : Value}
    (hx : CellsAre w A ag ps x) (hy : CellsAre w A ag qs y) : (Op.equal t x y).run P w = .ok b w := by
  unfold Op.equal Op.maxDepth
  unfold flatEq at h
  split at h
  · rename_i fs hu
    cases hg : (P.stoodInHeld t || P.eqGuardType P.depth t) with
    | true => rw [hg] at h; cases h
    | false =>
      rw [hg] at h
      simp only [cond_false] at h
      rw [Bool.or_eq_false_iff] at hg
      split at h
      · rename_i cs' hf
        cases h
        simp only [CellsAre, if_true] at hx hy
        obtain ⟨xs, rfl, sx, rx⟩ := hx
        obtain ⟨ys, rfl, sy, ry⟩ := hy
        have hfo : P.fieldsOf t = fs := by unfold Program.fieldsOf; rw [hu]
        rw [show (10000 : Nat) = 9999 + 1 from rfl, run_equalIn_struct w 9999 t xs ys (by rw [hfo]; exact hu) hg.1, hfo]
        exact eqFields_flat 9998 xs ys fs.toList 0 cs ps qs b hf hb (fun i p hi => by
          have := (List.getElem?_eq_some_iff.1 hi).1
          rw [Nat.zero_add]; exact ⟨by omega, rx i p hi⟩) (fun i p hi => by
          have := (List.getElem?_eq_some_iff.1 hi).1
          rw [Nat.zero_add]; exact ⟨by omega, ry i p hi⟩)
      · cases h
  · rename_i n e hu
    cases hg : P.eqGuardType P.depth t with
    | true => rw [hg] at h; cases h
    | false =>
      rw [hg] at h
      simp only [cond_false] at h
      split at h
      · rename_i c i hs hi
        cases hc : (Nat.beq i.size 1 && Nat.blt n 1000) with
        | false => rw [hc] at h; cases h
        | true =>
          rw [hc] at h
          cases h
          rw [Bool.and_eq_true] at hc
          have h1 := Nat.eq_of_beq_eq_true hc.1
          simp only [CellsAre, if_true] at hx hy
          obtain ⟨xs, rfl, sx, rx⟩ := hx
          obtain ⟨ys, rfl, sy, ry⟩ := hy
          have hce : P.cellsOf e = 1 := by unfold Program.cellsOf; rw [hi]; simpa using h1
          rw [show (10000 : Nat) = 9999 + 1 from rfl, run_equalIn_array w 9999 xs ys hu hi, hce, List.range_eq_range']
          exact eqItems_flat 9998 hs xs ys n 0 ps qs b hb (fun i p hi => by
            have := (List.getElem?_eq_some_iff.1 hi).1
            rw [Nat.zero_add]; exact ⟨by omega, rx i p hi⟩) (fun i p hi => by
            have := (List.getElem?_eq_some_iff.1 hi).1
            rw [Nat.zero_add]; exact ⟨by omega, ry i p hi⟩)
      · cases h
  · split at h
    · rename_i c hs
      cases h
      simp only [CellsAre, Bool.false_eq_true, if_false] at hx hy
      obtain ⟨p, rfl, rx⟩ := hx
      obtain ⟨q, rfl, ry⟩ := hy
      simp only [rowEq, Option.bind_eq_some_iff, Option.bind_some] at hb
      obtain ⟨b1, e1, e2⟩ := hb
      cases e2
      simpa using ceq_run hs e1 rx ry 9999
    · cases h
end Go.KV
namespace Go.KV
variable {P : Program} {T : TEnv} {N : Nat} {E : Env}
/-! Maps. -/
def mfind (kcs : List CT) (key : List PV) : List (List PV) → Option (Option (List PV))
  | [] => some none
  | e :: es => match rowEq kcs key (e.take kcs.length) with
    | some true => some (some e)
    | some false => mfind kcs key es
    | none => none
def mset (kcs : List CT) (key val : List PV) : List (List PV) → Option (List (List PV))
  | [] => some [key ++ val]
  | e :: es => match rowEq kcs key (e.take kcs.length) with
    | some true => some ((key ++ val) :: es)
    | some false => match mset kcs key val es with
      | some l => some (e :: l)
      | none => none
    | none => none
theorem mvOf_cells {w : World} {A : Nat → Prop} {ag : Bool} {n : Option Nat} {ps : List PV} {x : Value} (hn : n.isSome = ag) (h : ReadsM w A (mvOf n ps) x) (hl : ps.length = cellsOf n) : CellsAre w A ag ps x := by
  cases n with
  | none =>
    simp at hn
    subst hn
    match ps, hl with
    | [p], _ =>
      simp only [mvOf, ReadsM] at h
      exact ⟨p, rfl, h.1⟩
  | some n =>
    simp at hn
    subst hn
    simp only [mvOf, ReadsM] at h
    exact h
theorem checkKey_scal {w : World} {t : TypeId} {c : CT} (h : scalOf P t = some c) (em : Bool) (d : Nat) (v : Value) : (Instr.checkKey em (d + 1) t v).run P w = .ok () w := by
  unfold scalOf at h
  split at h <;> first | cases h | skip
  all_goals
    rename_i hu
    simp [Instr.checkKey, run_underlying hu]
theorem flds_scal {fs : List Field} : ∀ {j : Nat} {cs : List CT}, fieldsFlat P fs j = some cs → ∀ f ∈ fs, ∃ c, scalOf P f.type = some c := by
  induction fs with
  | nil => intro j cs _ f hf; simp at hf
  | cons f fs ih =>
    intro j cs h g hg
    simp only [fieldsFlat] at h
    cases hb : (Nat.beq f.offset j && !(f.name == "_")) with
    | false => rw [hb] at h; cases h
    | true =>
      rw [hb] at h
      simp only [cond_true] at h
      split at h
      · rename_i c hs
        split at h
        · rename_i cs' hr
          rcases List.mem_cons.1 hg with rfl | hg
          · exact ⟨c, hs⟩
          · exact ih hr g hg
        · cases h
      · cases h
theorem flds_len {fs : List Field} : ∀ {j : Nat} {cs : List CT}, fieldsFlat P fs j = some cs → cs.length = fs.length := by
  induction fs with
  | nil => intro j cs h; simp only [fieldsFlat] at h; cases h; rfl
  | cons f fs ih =>
    intro j cs h
    simp only [fieldsFlat] at h
    cases hb : (Nat.beq f.offset j && !(f.name == "_")) with
    | false => rw [hb] at h; cases h
    | true =>
      rw [hb] at h
      simp only [cond_true] at h
      split at h
      · split at h
        · rename_i cs' hr
          cases h
          simp [ih hr]
        · cases h
      · cases h
theorem checkKey_flat {w : World} {A : Nat → Prop} {t : TypeId} {ag : Bool} {cs : List CT} (h : flatEq P t = some (ag, cs)) {ps : List PV} {x : Value} (hl : ps.length = cs.length) (hx : CellsAre w A ag ps x) (em : Bool) :
    (Instr.checkKey em 10000 t x).run P w = .ok () w := by
  unfold flatEq at h
  split at h
  · rename_i fs hu
    cases hg : (P.stoodInHeld t || P.eqGuardType P.depth t) with
    | true => rw [hg] at h; cases h
    | false =>
      rw [hg] at h
      simp only [cond_false] at h
      split at h
      · rename_i cs' hf
        cases h
        simp only [CellsAre, if_true] at hx
        obtain ⟨xs, rfl, sx, rx⟩ := hx
        rw [show (10000 : Nat) = 9999 + 1 from rfl, Instr.checkKey]
        simp only [Sem.run_bind, run_underlying hu, Result.andThen_ok]
        rw [← Array.forIn_toList]
        have hl0 : 0 + cs.length ≤ xs.size := by omega
        clear rx hl
        generalize fs.toList = L at hf
        generalize 0 = j at hf hl0
        induction L generalizing j cs with
        | nil => simp
        | cons f L ih =>
          simp only [fieldsFlat] at hf
          cases hb : (Nat.beq f.offset j && !(f.name == "_")) with
          | false => rw [hb] at hf; cases hf
          | true =>
            rw [hb] at hf
            simp only [cond_true] at hf
            rw [Bool.and_eq_true, Bool.not_eq_true'] at hb
            have h1 := Nat.eq_of_beq_eq_true hb.1
            have h2 : f.name ≠ "_" := by simpa using hb.2
            split at hf
            · rename_i c hs
              split at hf
              · rename_i cs' hr
                cases hf
                simp only [List.length_cons] at hl0
                have hp := part_scal (w := w) hs (xs := xs) (j := j) (by omega)
                have hck := fun v => checkKey_scal (w := w) hs em 9998 v
                simp only [List.forIn_cons, Sem.run_bind, h2, ne_eq, not_false_eq_true, if_true, h1, hp, Result.andThen_ok, hck, Sem.run_pure]
                exact ih (j := j + 1) hr (by omega)
              · cases hf
            · cases hf
      · cases h
  · rename_i n e hu
    cases hg : P.eqGuardType P.depth t with
    | true => rw [hg] at h; cases h
    | false =>
      rw [hg] at h
      simp only [cond_false] at h
      split at h
      · rename_i c i hs hi
        cases hc : (Nat.beq i.size 1 && Nat.blt n 1000) with
        | false => rw [hc] at h; cases h
        | true =>
          rw [hc] at h
          cases h
          rw [Bool.and_eq_true] at hc
          have h1 := Nat.eq_of_beq_eq_true hc.1
          simp only [CellsAre, if_true] at hx
          obtain ⟨xs, rfl, sx, rx⟩ := hx
          simp only [List.length_replicate] at hl
          rw [show (10000 : Nat) = 9999 + 1 from rfl, Instr.checkKey]
          simp only [Sem.run_bind, run_underlying hu, Result.andThen_ok]
          simp only [Std.Legacy.Range.forIn_eq_forIn_range', Std.Legacy.Range.size, Nat.sub_zero, Nat.add_one_sub_one, Nat.div_one]
          have hce : P.cellsOf e = 1 := by unfold Program.cellsOf; rw [hi]; simpa using h1
          have hj : ∀ j ∈ List.range' 0 n, j < n := fun j hj => by simp [List.mem_range'] at hj; omega
          generalize List.range' 0 n = is at hj
          induction is with
          | nil => simp
          | cons j is ih =>
            have hp := part_scal (w := w) hs (xs := xs) (j := j) (by have := hj j (by simp); omega)
            have hck := fun v => checkKey_scal (w := w) hs em 9998 v
            simp only [List.forIn_cons, Sem.run_bind, run_sizeOf w hi, hce, Nat.mul_one, hp, hck, Result.andThen_ok, Sem.run_pure]
            exact ih fun k hk => hj k (by simp [hk])
      · cases h
  · split at h
    · rename_i c hs
      cases h
      exact checkKey_scal hs em 9999 x
    · cases h
theorem rowEq_len : ∀ {cs : List CT} {ps qs : List PV} {b : Bool}, rowEq cs ps qs = some b → ps.length = cs.length ∧ qs.length = cs.length
  | [], [], [], b, h => ⟨rfl, rfl⟩
  | c :: cs, p :: ps, q :: qs, b, h => by
    simp only [rowEq, Option.bind_eq_some_iff] at h
    obtain ⟨_, _, _, h2, _⟩ := h
    have := rowEq_len h2
    simp [this.1, this.2]
  | [], _ :: _, _, _, h => by simp [rowEq] at h
  | [], [], _ :: _, _, h => by simp [rowEq] at h
  | _ :: _, [], _, _, h => by simp [rowEq] at h
  | _ :: _, _ :: _, [], _, h => by simp [rowEq] at h
/-- The entries of a map, as rows. -/
structure EntsAre (w : World) (A : Nat → Prop) (kn vn : Option Nat) (es : List (List PV)) (ents : List MapEntry) : Prop where
  size : ents.length = es.length
  each : ∀ (i : Nat) (e : List PV), es[i]? = some e → e.length = cellsOf kn + cellsOf vn ∧ ∃ ent : MapEntry, ents[i]? = some ent ∧ ReadsM w A (mvOf kn (e.take (cellsOf kn))) ent.key ∧ ReadsM w A (mvOf vn (e.drop (cellsOf kn))) ent.val
theorem EntsAre.tail {w : World} {A : Nat → Prop} {kn vn : Option Nat} {e : List PV} {es : List (List PV)} {x : MapEntry} {ents : List MapEntry} (h : EntsAre w A kn vn (e :: es) (x :: ents)) : EntsAre w A kn vn es ents :=
  ⟨by simpa using h.size, fun i e' hi => by simpa using h.each (i + 1) e' (by simpa using hi)⟩
/-- Where the key is found, as the machine asks. -/
def Found (w : World) (P : Program) (kt : TypeId) (k : Value) (ents : List MapEntry) (r : Option (Nat × Value)) : Prop := (Instr.findKey kt k ents).run P w = .ok r w
theorem asking_run {w : World} {A : Nat → Prop} {kt : TypeId} {ag : Bool} {kcs : List CT} (hk : flatEq P kt = some (ag, kcs)) {kn vn : Option Nat} (hn : kn.isSome = ag) (hc : cellsOf kn = kcs.length) {key : List PV} {x : Value} (hx : CellsAre w A ag key x) :
    ∀ (es : List (List PV)) (ents : List MapEntry) (i : Nat) (r : Option (List PV)), EntsAre w A kn vn es ents → mfind kcs key es = some r →
      (r = none ∧ (Instr.findAsking kt x ents i).run P w = .ok none w) ∨
      ∃ j ent e, r = some e ∧ es[j]? = some e ∧ ents[j]? = some ent ∧ (Instr.findAsking kt x ents i).run P w = .ok (some (i + j, ent.val)) w ∧ rowEq kcs key (e.take kcs.length) = some true ∧ ∀ j' < j, ∀ e', es[j']? = some e' → rowEq kcs key (e'.take kcs.length) = some false
  | [], ents, i, r, hE, h => by
    have := hE.size
    simp at this
    subst this
    simp only [mfind] at h
    cases h
    exact .inl ⟨rfl, by simp [Instr.findAsking]⟩
  | e :: es, [], i, r, hE, h => by have := hE.size; simp at this
  | e :: es, ent :: ents, i, r, hE, h => by
    obtain ⟨hl, ent', he, h1, h2⟩ := hE.each 0 e rfl
    simp at he
    subst he
    have hy : CellsAre w A ag (e.take kcs.length) ent.key := by
      rw [← hc]
      exact mvOf_cells hn h1 (by simp; omega)
    simp only [mfind] at h
    split at h
    · rename_i hr
      cases h
      have := equal_flat hk hr hx hy
      exact .inr ⟨0, ent, e, rfl, rfl, rfl, by simp [Instr.findAsking, this], hr, fun j' hj => by omega⟩
    · rename_i hr
      have he := equal_flat hk hr hx hy
      rcases asking_run hk hn hc hx es ents (i + 1) r hE.tail h with ⟨h3, h4⟩ | ⟨j, ent', e', h3, h4, h5, h6, h7, h8⟩
      · exact .inl ⟨h3, by simp [Instr.findAsking, he, h4]⟩
      · refine .inr ⟨j + 1, ent', e', h3, by simpa using h4, by simpa using h5, by simp [Instr.findAsking, he, h6]; omega, h7, fun j' hj e'' hj' => ?_⟩
        cases j' with
        | zero => simp at hj'; subst hj'; exact hr
        | succ j' => exact h8 j' (by omega) e'' (by simpa using hj')
    · cases h
end Go.KV
namespace Go.KV
variable {P : Program} {T : TEnv} {N : Nat} {E : Env}
theorem sameNow_run {w : World} {kt : TypeId} {u : TypeDesc} (hu : P.underlying kt = some u) {x y : Value} {b : Bool} (h : Instr.sameNow u x y = some b) : (Op.equal kt x y).run P w = .ok b w := by
  unfold Op.equal Op.maxDepth
  unfold Instr.sameNow at h
  split at h
  · split at h
    · rename_i hk
      cases h
      subst hk
      exact run_equalIn_int w 9999 kt _ _ _ _ hu
    · cases h
  · cases h
    rw [beq_toListBytes]
    exact run_equalIn_string w 9999 kt _ _ hu
  · cases h
    exact run_equalIn_bool' w 9999 kt _ _ hu
  · cases h
theorem findNow_asking {w : World} {kt : TypeId} {u : TypeDesc} (hu : P.underlying kt = some u) {x : Value} : ∀ (ents : List MapEntry) (i : Nat) (r : Option (Nat × Value)), Instr.findNow u x ents i = some r → (Instr.findAsking kt x ents i).run P w = .ok r w
  | [], i, r, h => by
    simp only [Instr.findNow] at h
    cases h
    simp [Instr.findAsking]
  | e :: es, i, r, h => by
    simp only [Instr.findNow] at h
    split at h
    · rename_i hs
      cases h
      simp [Instr.findAsking, sameNow_run hu hs]
    · rename_i hs
      have := findNow_asking (w := w) hu es (i + 1) r h
      simp [Instr.findAsking, sameNow_run hu hs, this]
    · cases h
theorem findKey_run {w : World} {A : Nat → Prop} {kt : TypeId} {ag : Bool} {kcs : List CT} (hk : flatEq P kt = some (ag, kcs)) {kn vn : Option Nat} (hn : kn.isSome = ag) (hc : cellsOf kn = kcs.length) {key : List PV} {x : Value} (hx : CellsAre w A ag key x)
    {es : List (List PV)} {ents : List MapEntry} {r : Option (List PV)} (hE : EntsAre w A kn vn es ents) (h : mfind kcs key es = some r) :
    (r = none ∧ (Instr.findKey kt x ents).run P w = .ok none w) ∨
      ∃ j ent e, r = some e ∧ es[j]? = some e ∧ ents[j]? = some ent ∧ (Instr.findKey kt x ents).run P w = .ok (some (j, ent.val)) w ∧ rowEq kcs key (e.take kcs.length) = some true ∧ ∀ j' < j, ∀ e', es[j']? = some e' → rowEq kcs key (e'.take kcs.length) = some false := by
  have hu : ∃ u, P.underlying kt = some u := by
    unfold flatEq at hk
    cases hu : P.underlying kt with
    | some u => exact ⟨u, rfl⟩
    | none => rw [hu] at hk; simp [scalOf, hu] at hk
  obtain ⟨u, hu⟩ := hu
  have conv : ∀ q, (Instr.findAsking kt x ents 0).run P w = .ok q w → (Instr.findKey kt x ents).run P w = .ok q w := by
    intro q hq
    simp only [Instr.findKey, Sem.run_bind, run_underlying hu, Result.andThen_ok]
    split
    · rename_i q' hf
      have := findNow_asking (w := w) hu ents 0 q' hf
      rw [hq] at this
      injection this with this
      simp [this]
    · exact hq
  rcases asking_run hk hn hc hx es ents 0 r hE h with ⟨h3, h4⟩ | ⟨j, ent', e', h3, h4, h5, h6, h7, h8⟩
  · exact .inl ⟨h3, conv _ h4⟩
  · exact .inr ⟨j, ent', e', h3, h4, h5, conv _ (by simpa using h6), h7, h8⟩
def aggV : VV → Bool
  | .agg _ => true
  | _ => false
def fstV : List PV → VV
  | p :: _ => .pv p
  | [] => .any
/-- The value that cells make. -/
def vsOf (ag : Bool) (ps : List PV) : VV := bif ag then .agg (ps.map .pv) else (match ps with | p :: _ => .pv p | [] => .any)
theorem vsOf_rel {w : World} {A : Nat → Prop} {L : Lay} {n : Option Nat} {ps qs : List PV} {x : Value} (h : ReadsM w A (mvOf n ps) x) (hl : ps.length = cellsOf n) (hle : All2 PLe ps qs) : RelV w A L (vsOf n.isSome qs) x := by
  cases n with
  | none =>
    match ps, qs, hl, hle with
    | [p], [q], _, .cons hpq .nil =>
      simp only [mvOf, ReadsM] at h
      simp only [vsOf, Option.isSome_none, cond_false]
      exact .pv (hpq _ _ _ h.1)
  | some n =>
    simp only [mvOf, ReadsM] at h
    obtain ⟨cs, rfl, h1, h2⟩ := h
    simp only [vsOf, Option.isSome_some, cond_true]
    refine .agg cs (by simp [h1, hle.length]) fun i y hi => ?_
    rw [List.getElem?_map, Option.map_eq_some_iff] at hi
    obtain ⟨q, hq, rfl⟩ := hi
    obtain ⟨p, hp, hpq⟩ := hle.get i q hq
    exact .pv (hpq _ _ _ (h2 i p hp))
def lookR (kcs vcs : List CT) (zero key : List PV) (es : List (List PV)) : Option (Ds (vcs ++ [.bool])) :=
  match mfind kcs key es with
  | some (some e) => decs (vcs ++ [.bool]) (e.drop kcs.length ++ [.bool true])
  | some none => decs (vcs ++ [.bool]) (zero ++ [.bool false])
  | none => none
abbrev EqT := TypeId → Option (Bool × List CT)
def EqOk (P : Program) (Q : EqT) : Prop := ∀ t x, Q t = some x → flatEq P t = some x
/-- A map's types: its key's cells, its element. -/
def mapOf (T : TEnv) (Q : EqT) (t : TypeId) : Option (TypeId × Bool × List CT × TypeId × TD) :=
  match T t with
  | some ⟨.map kt et, _, _, _⟩ => match Q kt, T et with
    | some (ag, kcs), some de => some (kt, ag, kcs, et, de)
    | _, _ => none
  | _ => none
theorem mapOf_spec {Q : EqT} {t kt et : TypeId} {ag : Bool} {kcs : List CT} {de : TD} (h : mapOf T Q t = some (kt, ag, kcs, et, de)) : ∃ td, T t = some td ∧ td.k = .map kt et ∧ Q kt = some (ag, kcs) ∧ T et = some de := by
  unfold mapOf at h
  split at h
  · rename_i kt' et' _ _ _ ht
    split at h
    · rename_i ag' kcs' de' h1 h2
      cases h
      exact ⟨_, ht, rfl, h1, h2⟩
    · cases h
  · cases h
def lookS (E : Env) (Q : EqT) (st : St) (o : Oper) (d : Nat) (vals : List VV) (rs : List (Nat × VV)) : Stp :=
  match o.op, vals with
  | .lookup t _ _ ok, [m, k] => match mapOf E.T Q t, mapO unpv (cellsV k) with
    | some (kt, ag, kcs, et, de), some key =>
      let vcs := E.ct et
      let fin := fun (y : Ds (vcs ++ [.bool])) => let ps := encs _ y; let v := vsOf de.k.agg (ps.take vcs.length); bif ok then VV.tup [v, fstV (ps.drop vcs.length)] else v
      bif Nat.beq vcs.length (cellsOf de.unit) && Nat.beq de.zero.length vcs.length && !isAny k && Nat.beq key.length kcs.length && (eqb ag (aggV k)) then match m with
      | .mapr id => match st.obj id with
        | some (.mp kn vn es) => bif eqb kn.isSome ag && Nat.beq (cellsOf kn) kcs.length && onat vn de.unit then
            .val rs [(id, .mp kn vn es)] d (slNone st d) (vcs ++ [.bool]) (lookR kcs vcs de.zero key es) fin
          else .no
        | _ => .no
      | .pv .nilm => .val rs [] d (slNone st d) (vcs ++ [.bool]) (lookR kcs vcs de.zero key []) fin
      | _ => .no
      else .no
    | _, _ => .no
  | _, _ => .no
/-- A key's value has its cells. -/
theorem key_cells {w : World} {A : Nat → Prop} {L : Lay} {k : VV} {v : Value} (h : RelV w A L k v) (hn : isAny k = false) {key : List PV} (hk : mapO unpv (cellsV k) = some key) : CellsAre w A (aggV k) key v := by
  obtain ⟨h1, h2⟩ := cellsV_rel h hn
  obtain ⟨h3, h4⟩ := mapO_spec hk
  cases k <;> simp only [cellsV] at h3 h4 hk
  case agg vs =>
    cases h with
    | agg cs hs hr =>
      simp only [CellsAre, if_true]
      refine ⟨cs, rfl, by rw [hs, h3], fun i p hi => ?_⟩
      obtain ⟨x, e1, e2⟩ := h4 i p hi
      cases x <;> simp only [unpv, reduceCtorEq] at e2
      cases e2
      have := hr i _ e1
      cases this with
      | pv h => exact h
  case pv p =>
    simp only [CellsAre, Bool.false_eq_true, if_false]
    simp [mapO, unpv] at hk
    subst hk
    cases h with
    | pv h => exact ⟨p, rfl, h⟩
  all_goals simp [mapO, unpv] at hk
theorem lookup_fin {w : World} {A : Nat → Prop} {L : Lay} {n : Option Nat} {vcs : List CT} {ps : List PV} {b : Bool} {y : Ds (vcs ++ [.bool])} (hd : decs (vcs ++ [.bool]) (ps ++ [.bool b]) = some y) (hl : ps.length = cellsOf n) (hv : vcs.length = cellsOf n) {x : Value} (h : ReadsM w A (mvOf n ps) x) (ok : Bool) :
    RelV w A L (bif ok then VV.tup [vsOf n.isSome ((encs _ y).take vcs.length), fstV ((encs _ y).drop vcs.length)] else vsOf n.isSome ((encs _ y).take vcs.length)) (if ok then .tuple #[x, .bool b] else x) := by
  have h1 := decs_le hd
  obtain ⟨q1, q2, e, h2, h3⟩ := h1.split
  have hq1 : q1.length = vcs.length := by rw [← h2.length, hl, hv]
  have ht : (encs (vcs ++ [.bool]) y).take vcs.length = q1 := by rw [e, List.take_append_of_le_length (by omega), List.take_of_length_le (by omega)]
  have hdr : (encs (vcs ++ [.bool]) y).drop vcs.length = q2 := by rw [e, List.drop_append_of_le_length (by omega), List.drop_of_length_le (by omega), List.nil_append]
  have hr := vsOf_rel (L := L) h hl (h2.mono fun _ _ => Dq.le)
  cases ok
  · simpa [ht] using hr
  · simp only [cond_true, if_true, ht, hdr]
    cases h3 with
    | cons hb hnil =>
      cases hnil
      rename_i q
      refine .tup _ (by simp) fun i z hi => ?_
      match i, hi with
      | 0, hi => simp at hi; subst hi; simpa [Array.getD] using hr
      | 1, hi =>
        simp at hi; subst hi
        simp [Array.getD]
        exact .pv (hb.le _ _ _ (.bool b))
theorem flat_len {t : TypeId} {ag : Bool} {cs : List CT} (h : flatEq P t = some (ag, cs)) : cs.length = cellsOf (bif ag then some cs.length else none) := by
  unfold flatEq at h
  split at h
  · rename_i fs hu
    cases hg : (P.stoodInHeld t || P.eqGuardType P.depth t) with
    | true => rw [hg] at h; cases h
    | false =>
      rw [hg] at h
      simp only [cond_false] at h
      split at h
      · cases h; rfl
      · cases h
  · rename_i n e hu
    cases hg : P.eqGuardType P.depth t with
    | true => rw [hg] at h; cases h
    | false =>
      rw [hg] at h
      simp only [cond_false] at h
      split at h
      · rename_i c i hs hi
        cases hc : (Nat.beq i.size 1 && Nat.blt n 1000) with
        | false => rw [hc] at h; cases h
        | true => rw [hc] at h; cases h; rfl
      · cases h
  · split at h
    · cases h; rfl
    · cases h
/-- A key of a flat type is asked for without ado, if it has its cells. -/
theorem checkKey_any {w : World} {A : Nat → Prop} {t : TypeId} {ag : Bool} {cs : List CT} (h : flatEq P t = some (ag, cs)) {ps : List PV} {x : Value} (hl : ps.length = cs.length) (hx : CellsAre w A ag ps x) (em : Bool) :
    (Instr.checkKey em 10000 t x).run P w = .ok () w := checkKey_flat h hl hx em
theorem lookS_ok (hT : TOk P E.T) {Q : EqT} (hQ : EqOk P Q) {st : St} {o : Oper} {d : Nat} {vals : List VV} {rs : List (Nat × VV)} (hk : Know st o d vals rs N) {r : Rec} (h : (lookS E Q st o d vals rs).Has r) : r.pre st ∧ RecOk P N o r := by
  unfold lookS at h
  split at h
  · rename_i t X Y ok m k hop
    split at h
    · rename_i kt ag kcs et de key hm hkey
      obtain ⟨td, m1, m2, m3, m4⟩ := mapOf_spec hm
      have hfl := hQ _ _ m3
      simp only [] at h
      cases hb : (Nat.beq (E.ct et).length (cellsOf de.unit) && Nat.beq de.zero.length (E.ct et).length && !isAny k && Nat.beq key.length kcs.length && (eqb ag (aggV k))) with
      | false => rw [hb] at h; exact h.elim
      | true =>
        rw [hb] at h
        simp only [cond_true] at h
        simp only [Bool.and_eq_true, Bool.not_eq_true'] at hb
        obtain ⟨⟨⟨⟨b1, b2⟩, b3⟩, b5⟩, b4⟩ := hb
        have b5 := Nat.eq_of_beq_eq_true b5
        have b1 := Nat.eq_of_beq_eq_true b1
        have b2 := Nat.eq_of_beq_eq_true b2
        have b4 := eqb_eq b4
        obtain ⟨i0, u0, z0, hI0⟩ := tdOf_spec (hT _ _ m1)
        have hu0 := hI0.k
        rw [m2] at hu0
        obtain ⟨i1, u1, z1, hI1⟩ := tdOf_spec (hT _ _ m4)
        have hun : P.underlying t = some (.map kt et) := by
          have h5 := hI0.under
          cases u0 <;> simp [tkOf] at hu0
          obtain ⟨rfl, rfl⟩ := hu0
          exact h5
        have hue : de.unit.isSome = de.k.agg := by unfold TD.unit; cases de.k.agg <;> rfl
        have hzero : ∀ (w : World) (A : Nat → Prop), ReadsM w A (mvOf de.unit de.zero) z1 := by
          intro w A
          have hzs := hI1.zsize
          have hzr := hI1.zreads
          have hza := hI1.zagg
          have hcell : de.zero.length = cellsOf de.unit := by rw [b2, b1]
          unfold TD.unit at hcell ⊢
          cases hag : de.k.agg with
          | true =>
            rw [hag] at hcell hza
            simp only [cond_true, mvOf, ReadsM]
            cases z1 <;> simp [isAggV] at hza
            rename_i cs
            exact ⟨cs, rfl, hzs, fun i p hi => hzr i p hi w A⟩
          | false =>
            rw [hag] at hcell hza
            simp only [cond_false, cellsOf] at hcell ⊢
            match hz : de.zero, hcell with
            | [p], _ =>
              simp only [mvOf, ReadsM]
              have hc : z1.cells = #[z1] := by cases z1 <;> simp [isAggV] at hza <;> rfl
              have := hzr 0 p (by rw [hz]; rfl) w A
              rw [hc] at this
              simp [Array.getD] at this
              refine ⟨this, ?_⟩
              cases this <;> rfl
        have hzl : de.zero.length = cellsOf de.unit := by rw [b2, b1]
        have main : ∀ (id? : Option Nat) (kn vn : Option Nat) (es : List (List PV)) (ro : List (Nat × VO)) (y : Ds (E.ct et ++ [.bool])), lookR kcs (E.ct et) de.zero key es = some y → kn.isSome = ag → cellsOf kn = kcs.length → vn = de.unit →
            ∀ (st' : St) (c : Ctx) (L : Lay) (a : Act) (w : World), HoldsL c st' L a w → RelV w (st'.mut c L) L k (a.eval Y) →
            (∀ ents, ((∃ r clock, a.eval X = .map (some r) ∧ w.heap[r]? = some (.map ents clock)) ∨ (a.eval X = .map none ∧ ents = #[])) → EntsAre w (st'.mut c L) kn vn es ents.toList →
            ∃ v, (execOp a.eval o).run P w = .ok (.value v) w ∧ RelV w (st'.mut c L) L (let ps := encs _ y; let v := vsOf de.k.agg (ps.take (E.ct et).length); bif ok then VV.tup [v, fstV (ps.drop (E.ct et).length)] else v) v) := by
          intro _ kn vn es ro y hy hkn hkc hvn st' c L a w hL hrk ents hX hE
          subst hvn
          have hcell := key_cells hrk b3 hkey
          rw [← b4] at hcell
          have hlook : ∀ r, mfind kcs key es = some r → ∃ z, (Instr.lookup t (a.eval X) (a.eval Y) ok).run P w = .ok z w ∧
              ((r = none ∧ z = if ok then .tuple #[z1, .bool false] else z1) ∨ ∃ (j : Nat) (ent : MapEntry) (e : List PV), r = some e ∧ es[j]? = some e ∧ ents.toList[j]? = some ent ∧ z = if ok then .tuple #[ent.val, .bool true] else ent.val) := by
            intro r hr
            have hck : ∀ em, em = ents.isEmpty → (Instr.checkKey em 10000 kt (a.eval Y)).run P w = .ok () w := by
              intro em hem
              exact checkKey_any hfl b5 hcell em
            rcases findKey_run (w := w) hfl hkn hkc hcell hE hr with ⟨h3, h4⟩ | ⟨j, ent, e, h3, h4, h5, h6, h7, h8⟩
            · refine ⟨_, ?_, .inl ⟨h3, rfl⟩⟩
              rcases hX with ⟨r0, clock, hx1, hx2⟩ | ⟨hx1, hx2⟩
              · simp [Instr.lookup, run_underlying hun, hx1, MapKept.run_getObj_map hx2, hck _ rfl, h4, hI1.run_zero]
              · subst hx2
                have hck' := hck true rfl
                simp at h4
                simp [Instr.lookup, run_underlying hun, hx1, hck', h4, hI1.run_zero]
            · refine ⟨_, ?_, .inr ⟨j, ent, e, h3, h4, h5, rfl⟩⟩
              rcases hX with ⟨r0, clock, hx1, hx2⟩ | ⟨hx1, hx2⟩
              · simp [Instr.lookup, run_underlying hun, hx1, MapKept.run_getObj_map hx2, hck _ rfl, h6, hI1.run_zero]
              · subst hx2
                simp at h5
          unfold lookR at hy
          split at hy
          · rename_i e hf
            obtain ⟨z, g1, g2⟩ := hlook _ hf
            rcases g2 with ⟨g2, _⟩ | ⟨j, ent, e', g2, g3, g4, g5⟩
            · cases g2
            · cases g2
              obtain ⟨k1, ent', k2, k3, k4⟩ := hE.each j e g3
              rw [g4] at k2
              cases k2
              refine ⟨z, by simp only [execOp, hop, Sem.run_bind, g1, Result.andThen_ok, Sem.run_pure], ?_⟩
              rw [g5, ← hue]
              rw [← hkc] at hy
              exact lookup_fin hy (by simp [k1]) b1 k4 ok
          · rename_i hf
            obtain ⟨z, g1, g2⟩ := hlook _ hf
            rcases g2 with ⟨_, g5⟩ | ⟨j, ent, e', g2, _⟩
            · refine ⟨z, by simp only [execOp, hop, Sem.run_bind, g1, Result.andThen_ok, Sem.run_pure], ?_⟩
              rw [g5, ← hue]
              exact lookup_fin hy hzl b1 (hzero w _) ok
            · cases g2
          · cases hy
        split at h
        · rename_i id
          split at h
          · rename_i kn vn es ho
            cases hc : (eqb kn.isSome ag && Nat.beq (cellsOf kn) kcs.length && onat vn de.unit) with
            | false => rw [hc] at h; exact h.elim
            | true =>
              rw [hc] at h
              simp only [Bool.and_eq_true] at hc
              obtain ⟨⟨c1, c2⟩, c3⟩ := hc
              refine StpVal_ok hk.hd hk.hN hk.get (by simpa using ho) (fun y hy st' c L a w hrs hro hL => ?_) h
              have hrel := evs_rel hL (hk.evs' hrs)
              rw [hop] at hrel
              obtain ⟨v, u, ee, g1, g2⟩ := RelL.two hrel
              simp [Op.operands] at ee
              obtain ⟨rfl, rfl⟩ := ee
              have ho' := hL.rel id _ (hro (id, .mp kn vn es) (by simp))
              obtain ⟨ents, clock, n1, n2, n3, n4, n5⟩ := ho'
              have e1 : a.eval X = .map (some (L id).φ) := by
                generalize a.eval X = v at g1
                cases g1
                rfl
              exact main none kn vn es [] y hy (eqb_eq c1) (Nat.eq_of_beq_eq_true c2) (onat_eq c3) st' c L a w hL g2 ents (.inl ⟨_, clock, e1, n1⟩) ⟨by simpa using n2, fun i e hi => by
                obtain ⟨p1, ent, p2, p3, p4⟩ := n3 i e hi
                exact ⟨p1, ent, by simpa using p2, p3, p4⟩⟩
          · exact h.elim
        · refine StpVal_ok hk.hd hk.hN hk.get (by simp) (fun y hy st' c L a w hrs hro hL => ?_) h
          have hrel := evs_rel hL (hk.evs' hrs)
          rw [hop] at hrel
          obtain ⟨v, u, ee, g1, g2⟩ := RelL.two hrel
          simp [Op.operands] at ee
          obtain ⟨rfl, rfl⟩ := ee
          have e1 : a.eval X = .map none := by
            generalize a.eval X = v at g1
            cases g1 with
            | pv h => cases h; rfl
          have hlen : kcs.length = cellsOf (bif ag then some kcs.length else none) := flat_len hfl
          exact main none (bif ag then some kcs.length else none) de.unit [] [] y hy (by cases ag <;> rfl) hlen.symm rfl st' c L a w hL g2 #[] (.inr ⟨e1, rfl⟩) ⟨rfl, fun i e hi => by simp at hi⟩
        · exact h.elim
    · exact h.elim
  · exact h.elim
end Go.KV
namespace Go.KV
variable {P : Program} {T : TEnv} {N : Nat} {E : Env}
/-! Maps written. -/
theorem mset_find (kcs : List CT) (key val : List PV) : ∀ {es es' : List (List PV)}, mset kcs key val es = some es' → ∃ r, mfind kcs key es = some r
  | [], es', h => ⟨none, rfl⟩
  | e :: es, es', h => by
    simp only [mset] at h
    simp only [mfind]
    split at h
    · rename_i hr
      exact ⟨_, rfl⟩
    · rename_i hr
      split at h
      · rename_i l hl
        exact mset_find kcs key val hl
      · cases h
    · cases h
theorem mset_new (kcs : List CT) (key val : List PV) : ∀ {es es' : List (List PV)}, mset kcs key val es = some es' → mfind kcs key es = some none → es' = es ++ [key ++ val]
  | [], es', h, _ => by simp only [mset] at h; cases h; rfl
  | e :: es, es', h, hf => by
    simp only [mset] at h
    simp only [mfind] at hf
    split at h
    · rename_i hr
      rw [hr] at hf; cases hf
    · rename_i hr
      rw [hr] at hf
      split at h
      · rename_i l hl
        cases h
        rw [mset_new kcs key val hl hf]; rfl
      · cases h
    · cases h
theorem mset_at (kcs : List CT) (key val : List PV) : ∀ {es es' : List (List PV)} {j : Nat} {e : List PV}, mset kcs key val es = some es' → es[j]? = some e → rowEq kcs key (e.take kcs.length) = some true →
    (∀ j' < j, ∀ e', es[j']? = some e' → rowEq kcs key (e'.take kcs.length) = some false) → es' = es.set j (key ++ val)
  | [], es', j, e, h, he, _, _ => by simp at he
  | e0 :: es, es', j, e, h, he, hr, hl => by
    simp only [mset] at h
    cases j with
    | zero =>
      simp at he
      subst he
      rw [hr] at h
      cases h
      rfl
    | succ j =>
      rw [hl 0 (by omega) e0 rfl] at h
      simp only [] at h
      split at h
      · rename_i l hm
        cases h
        rw [mset_at kcs key val hm (by simpa using he) hr fun j' hj' e' he' => hl (j' + 1) (by omega) e' (by simpa using he')]
        rfl
      · cases h
theorem ceq_same {w : World} {A : Nat → Prop} {c : CT} {p q : PV} (h : ceq c p q = some true) {x y : Value} (hx : Reads w A p x) (hy : Reads w A q y) (n : Nat) : Instr.sameBits n y x = true := by
  cases c <;> cases p <;> cases q <;> simp only [ceq, reduceCtorEq] at h
  · rename_i k0 k a j b
    cases hk : kindEq k j with
    | false => rw [hk] at h; cases h
    | true =>
      rw [hk] at h
      simp at h
      cases hx; cases hy
      rw [kindEq_eq hk, h]
      cases n <;> simp [Instr.sameBits]
  · simp at h
    cases hx; cases hy
    rw [h]
    cases n <;> simp [Instr.sameBits]
  · simp at h
    cases hx; cases hy
    have hb : ∀ (s t : ByteArray), s.toList = t.toList → (t == s) = true := fun s t h => by rw [beq_toListBytes, h]; simp
    cases n <;> simp [Instr.sameBits, hb _ _ h]
theorem rowEq_each : ∀ {cs : List CT} {ps qs : List PV}, rowEq cs ps qs = some true → ∀ (i : Nat) (p q : PV), ps[i]? = some p → qs[i]? = some q → ∃ c, ceq c p q = some true
  | [], [], [], _, i, p, q, hp, _ => by simp at hp
  | c :: cs, p0 :: ps, q0 :: qs, h, i, p, q, hp, hq => by
    simp only [rowEq, Option.bind_eq_some_iff, Option.some.injEq, Bool.and_eq_true] at h
    obtain ⟨b, h1, b', h2, rfl, rfl⟩ := h
    cases i with
    | zero => simp at hp hq; subst hp; subst hq; exact ⟨c, h1⟩
    | succ i => exact rowEq_each h2 i p q (by simpa using hp) (by simpa using hq)
  | [], _ :: _, _, h, _, _, _, _, _ => by simp [rowEq] at h
  | [], [], _ :: _, h, _, _, _, _, _ => by simp [rowEq] at h
  | _ :: _, [], _, h, _, _, _, _, _ => by simp [rowEq] at h
  | _ :: _, _ :: _, [], h, _, _, _, _, _ => by simp [rowEq] at h
theorem key_same {w : World} {A : Nat → Prop} {ag : Bool} {cs : List CT} {ps qs : List PV} (h : rowEq cs ps qs = some true) {x y : Value} (hx : CellsAre w A ag ps x) (hy : CellsAre w A ag qs y) : Instr.sameBits 10000 y x = true := by
  have hl := rowEq_len h
  unfold CellsAre at hx hy
  cases ag with
  | true =>
    simp only [if_true] at hx hy
    obtain ⟨xs, rfl, sx, rx⟩ := hx
    obtain ⟨ys, rfl, sy, ry⟩ := hy
    rw [show (10000 : Nat) = 9999 + 1 from rfl, Instr.sameBits]
    simp only [Bool.and_eq_true, beq_iff_eq, List.all_eq_true]
    refine ⟨by omega, fun z hz => ?_⟩
    obtain ⟨i, hi, e⟩ := List.mem_iff_getElem.1 hz
    simp at hi
    simp at e
    have hp : i < ps.length := by omega
    have hq : i < qs.length := by omega
    obtain ⟨c, hc⟩ := rowEq_each h i _ _ (List.getElem?_eq_getElem hp) (List.getElem?_eq_getElem hq)
    have r1 := rx i _ (List.getElem?_eq_getElem hp)
    have r2 := ry i _ (List.getElem?_eq_getElem hq)
    have e1 : xs.getD i undef = xs[i]'(by omega) := by simp [Array.getD_eq_getD_getElem?, show i < xs.size by omega]
    have e2 : ys.getD i undef = ys[i]'(by omega) := by simp [Array.getD_eq_getD_getElem?, show i < ys.size by omega]
    rw [e1] at r1
    rw [e2] at r2
    rw [← e]
    exact ceq_same hc r1 r2 9999
  | false =>
    simp only [Bool.false_eq_true, if_false] at hx hy
    obtain ⟨p, rfl, rx⟩ := hx
    obtain ⟨q, rfl, ry⟩ := hy
    obtain ⟨c, hc⟩ := rowEq_each h 0 p q rfl rfl
    exact ceq_same hc rx ry 10000
theorem readsM_of {w : World} {A : Nat → Prop} {n : Option Nat} {ps : List PV} {x : Value} (hl : ps.length = cellsOf n) (h : CellsAre w A n.isSome ps x) : ReadsM w A (mvOf n ps) x := by
  cases n with
  | none =>
    simp only [CellsAre, Option.isSome_none, Bool.false_eq_true, if_false] at h
    obtain ⟨p, rfl, h⟩ := h
    refine ⟨h, ?_⟩
    cases h <;> rfl
  | some n =>
    simp only [CellsAre, Option.isSome_some, if_true] at h
    exact h
def updD (E : Env) (Q : EqT) (st : St) (t : TypeId) (vals : List VV) (rs : List (Nat × VV)) : Stp :=
  match vals with
  | [.mapr id, k, v] => match mapOf E.T Q t, mapO unpv (cellsV k), mapO unpv (cellsV v), st.obj id with
    | some (kt, ag, kcs, et, de), some key, some val, some (.mp kn vn es) =>
      bif !isAny k && !isAny v && Nat.beq key.length kcs.length && Nat.beq val.length (cellsOf vn) && eqb kn.isSome ag && Nat.beq (cellsOf kn) kcs.length && eqb ag (aggV k) && eqb vn.isSome (aggV v) then
        .bnd [.sl (cellsOf kn + cellsOf vn)] (mset kcs key val es) fun es' => { rs, ro := [(id, .mp kn vn es)], wo := [(id, .mp kn vn es')] }
      else .no
    | _, _, _, _ => .no
  | _ => .no
def updS (E : Env) (Q : EqT) (st : St) (o : Oper) (vals : List VV) (rs : List (Nat × VV)) : Stp :=
  match o.op with
  | .mapUpdate t _ _ _ => updD E Q st t vals rs
  | .insert t _ _ _ => updD E Q st t vals rs
  | _ => .no
theorem updD_run (hT : TOk P E.T) {Q : EqT} (hQ : EqOk P Q) {st : St} {t : TypeId} {vals : List VV} {rs : List (Nat × VV)} {r : Rec} (hrs : ∀ p ∈ rs, st.get p.1 = some p.2) (h : (updD E Q st t vals rs).Has r) :
    r.pre st ∧ r.ws = [] ∧ r.rs = rs ∧ ∀ (st' : St) (c : Ctx) (L : Lay) (a : Act) (w : World) (m k v : Value), r.bare.pre st' → HoldsL c st' L a w → RelL w (st'.mut c L) L vals [m, k, v] →
      ∃ w', (Instr.mapUpdate t m k v).run P w = .ok () w' ∧ HoldsL c (r.app st') L a w' := by
  unfold updD at h
  split at h
  · rename_i id k v
    split at h
    · rename_i kt ag kcs et de key val kn vn es hm hkey hval ho
      obtain ⟨td, m1, m2, m3, m4⟩ := mapOf_spec hm
      have hfl := hQ _ _ m3
      cases hb : (!isAny k && !isAny v && Nat.beq key.length kcs.length && Nat.beq val.length (cellsOf vn) && eqb kn.isSome ag && Nat.beq (cellsOf kn) kcs.length && eqb ag (aggV k) && eqb vn.isSome (aggV v)) with
      | false => rw [hb] at h; exact h.elim
      | true =>
        rw [hb] at h
        simp only [Bool.and_eq_true, Bool.not_eq_true'] at hb
        obtain ⟨⟨⟨⟨⟨⟨⟨b1, b2⟩, b3⟩, b4⟩, b5⟩, b6⟩, b7⟩, b8⟩ := hb
        have b3 := Nat.eq_of_beq_eq_true b3
        have b4 := Nat.eq_of_beq_eq_true b4
        have b5 := eqb_eq b5
        have b6 := Nat.eq_of_beq_eq_true b6
        have b7 := eqb_eq b7
        have b8 := eqb_eq b8
        obtain ⟨es', hes, rfl⟩ := h
        refine ⟨⟨hrs, by simpa using ho, by simp, by simp, by simp, by simp, by simp⟩, rfl, rfl, ?_⟩
        intro st' c L a w mv kv vv hp hL hrel
        obtain ⟨v1, v2, v3, ee, g1, g2, g3⟩ := hrel.three
        cases ee
        have hobj := hp.ro (id, .mp kn vn es) (by simp [Rec.bare])
        have ho' := hL.rel id _ hobj
        obtain ⟨ents, clock, n1, n2, n3, n4, n5⟩ := ho'
        obtain ⟨i0, u0, z0, hI0⟩ := tdOf_spec (hT _ _ m1)
        have hu0 := hI0.k
        rw [m2] at hu0
        have hun : P.underlying t = some (.map kt et) := by
          have h5 := hI0.under
          cases u0 <;> simp [tkOf] at hu0
          obtain ⟨rfl, rfl⟩ := hu0
          exact h5
        have ck := key_cells g2 b1 hkey
        rw [← b7] at ck
        have cv := key_cells g3 b2 hval
        rw [← b8] at cv
        have hE : EntsAre w (st'.mut c L) kn vn es ents.toList := ⟨by simpa using n2, fun i e hi => by
          obtain ⟨p1, ent, p2, p3, p4⟩ := n3 i e hi
          exact ⟨p1, ent, by simpa using p2, p3, p4⟩⟩
        obtain ⟨fr, hfr⟩ := mset_find kcs key val hes
        have hck := checkKey_any (w := w) hfl b3 ck false
        have hmr : mv = .map (some (L id).φ) := by cases g1; rfl
        subst hmr
        have rowLen : (key ++ val).length = cellsOf kn + cellsOf vn := by simp [b3, b4, b6]
        have newRow : ∀ (w' : World) (A' : Nat → Prop), (∀ p u, Reads w (st'.mut c L) p u → Reads w' A' p u) → ReadsM w' A' (mvOf kn ((key ++ val).take (cellsOf kn))) kv ∧ ReadsM w' A' (mvOf vn ((key ++ val).drop (cellsOf kn))) vv := by
          intro w' A' hrd
          rw [b6, ← b3, List.take_left, List.drop_left]
          have mono : ∀ ag ps x, CellsAre w (st'.mut c L) ag ps x → CellsAre w' A' ag ps x := by
            intro ag ps x hx
            unfold CellsAre at hx ⊢
            cases ag with
            | true =>
              simp only [if_true] at hx ⊢
              obtain ⟨cs, q1, q2, q3⟩ := hx
              exact ⟨cs, q1, q2, fun i p hi => hrd _ _ (q3 i p hi)⟩
            | false =>
              simp only [Bool.false_eq_true, if_false] at hx ⊢
              obtain ⟨p, q1, q2⟩ := hx
              exact ⟨p, q1, hrd _ _ q2⟩
          exact ⟨readsM_of (by rw [b3, b6]) (by rw [b5]; exact mono _ _ _ ck), readsM_of b4 (mono _ _ _ cv)⟩
        have oldM : ∀ (w' : World) (A' : Nat → Prop), (∀ p u, Reads w (st'.mut c L) p u → Reads w' A' p u) → ∀ m u, ReadsM w (st'.mut c L) m u → ReadsM w' A' m u := by
          intro w' A' hrd m u hm
          cases m with
          | one p => exact ⟨hrd _ _ hm.1, hm.2⟩
          | many ps => obtain ⟨cs, q1, q2, q3⟩ := hm; exact ⟨cs, q1, q2, fun i p hi => hrd _ _ (q3 i p hi)⟩
        have hlt : (L id).φ < w.heap.size := (Array.getElem?_eq_some_iff.1 n1).1
        rcases findKey_run (w := w) hfl b5 b6 ck hE hfr with ⟨h3, h4⟩ | ⟨j, ent, e, h3, h4, h5, h6, h7, h8⟩
        · subst h3
          have hnew := mset_new kcs key val hes hfr
          subst hnew
          refine ⟨{ w with heap := w.heap.setIfInBounds (L id).φ (.map (ents.push { key := kv, val := vv, born := clock }) (clock + 1)) }, by simp [Instr.mapUpdate, run_underlying hun, MapKept.run_getObj_map n1, hck, h4, MapKept.run_setObj_map _ n1], ?_⟩
          refine hL.change (o' := .mp kn vn (es ++ [key ++ val])) hobj rfl rfl rfl rfl (by simp) (fun b hb => by simp [Array.getElem?_setIfInBounds_ne (Ne.symm hb)]) (fun A' hr hrd => ?_)
          refine ⟨_, _, by simp [hlt]; exact ⟨rfl, rfl⟩, by simp [n2], ?_, ?_, ?_⟩
          · intro i e hi
            by_cases hie : i < es.length
            · rw [List.getElem?_append_left hie] at hi
              obtain ⟨p1, ent, p2, p3, p4⟩ := n3 i e hi
              refine ⟨p1, ent, by rw [Array.getElem?_push, if_neg (by omega)]; exact p2, oldM _ _ hrd _ _ p3, oldM _ _ hrd _ _ p4⟩
            · rw [List.getElem?_append_right (by omega)] at hi
              have : i = es.length := by
                rcases Nat.lt_or_ge (i - es.length) 1 with h9 | h9
                · omega
                · rw [List.getElem?_eq_none (by simpa using h9)] at hi; cases hi
              subst this
              simp at hi
              subst hi
              refine ⟨rowLen, _, by rw [Array.getElem?_push, if_pos (by omega)], (newRow _ _ hrd).1, (newRow _ _ hrd).2⟩
          · intro i ent hi
            rw [Array.getElem?_push] at hi
            split at hi
            · cases hi; simp
            · have := n4 i ent hi; omega
          · intro i k e f hik he hf
            rw [Array.getElem?_push] at he hf
            split at hf
            · cases hf
              split at he
              · omega
              · exact n4 i e he
            · split at he
              · have := (Array.getElem?_eq_some_iff.1 hf).1; omega
              · exact n5 i k e f hik he hf
        · subst h3
          have hset := mset_at kcs key val hes h4 h7 h8
          subst hset
          obtain ⟨p1, ent', p2, p3, p4⟩ := n3 j e h4
          have h5' : ents[j]? = some ent := by simpa using h5
          rw [h5'] at p2
          cases p2
          have hold : CellsAre w (st'.mut c L) ag (e.take kcs.length) ent.key := by
            rw [← b6]
            exact mvOf_cells b5 p3 (by simp; omega)
          have hsame := key_same h7 ck hold
          have hkts : (Instr.keyThatStays ent.key kv).run P w = .ok kv w := by simp [Instr.keyThatStays, hsame]
          have hjl : j < ents.size := (Array.getElem?_eq_some_iff.1 h5').1
          refine ⟨{ w with heap := w.heap.setIfInBounds (L id).φ (.map (ents.modify j fun e => { e with key := kv, val := vv }) clock) }, by simp [Instr.mapUpdate, run_underlying hun, MapKept.run_getObj_map n1, hck, h6, h5', hkts, MapKept.run_setObj_map _ n1], ?_⟩
          refine hL.change (o' := .mp kn vn (es.set j (key ++ val))) hobj rfl rfl rfl rfl (by simp) (fun b hb => by simp [Array.getElem?_setIfInBounds_ne (Ne.symm hb)]) (fun A' hr hrd => ?_)
          have hmod : ∀ i, (ents.modify j fun e => { e with key := kv, val := vv })[i]? = if j = i then (ents[i]?).map (fun e => { e with key := kv, val := vv }) else ents[i]? := by
            intro i
            rw [Array.getElem?_modify]
          refine ⟨_, _, by simp [hlt]; exact ⟨rfl, rfl⟩, by simp [n2], ?_, ?_, ?_⟩
          · intro i e' hi
            rw [List.getElem?_set] at hi
            rw [hmod]
            by_cases hji : j = i
            · subst hji
              rw [if_pos rfl] at hi
              split at hi
              · cases hi
                exact ⟨rowLen, _, by rw [if_pos rfl, h5']; rfl, (newRow _ _ hrd).1, (newRow _ _ hrd).2⟩
              · cases hi
            · rw [if_neg hji] at hi ⊢
              obtain ⟨p1, ent', p2, p3, p4⟩ := n3 i e' hi
              exact ⟨p1, ent', p2, oldM _ _ hrd _ _ p3, oldM _ _ hrd _ _ p4⟩
          · intro i ent' hi
            rw [hmod] at hi
            split at hi
            · rw [Option.map_eq_some_iff] at hi
              obtain ⟨x, hx, rfl⟩ := hi
              exact n4 i x hx
            · exact n4 i ent' hi
          · have born : ∀ (i : Nat) (x : MapEntry), (ents.modify j fun e => { e with key := kv, val := vv })[i]? = some x → ∃ y : MapEntry, ents[i]? = some y ∧ y.born = x.born := by
              intro i x hi
              rw [hmod] at hi
              split at hi
              · rw [Option.map_eq_some_iff] at hi
                obtain ⟨y, hy, rfl⟩ := hi
                exact ⟨y, hy, rfl⟩
              · exact ⟨x, hi, rfl⟩
            intro i k e f hik he hf
            obtain ⟨y, hy, ey⟩ := born i e he
            obtain ⟨z, hz, ez⟩ := born k f hf
            rw [← ey, ← ez]
            exact n5 i k y z hik hy hz
    · exact h.elim
  · exact h.elim
theorem updS_ok (hT : TOk P E.T) {Q : EqT} (hQ : EqOk P Q) {st : St} {o : Oper} {vals : List VV} {rs : List (Nat × VV)} (hd : o.dst = none) (hev : evs st o.op.operands.toList = some vals)
    (hrs : rsOf st (tmpsOf o.op.operands.toList) = some rs) {r : Rec} (h : (updS E Q st o vals rs).Has r) : r.pre st ∧ RecOk P N o r := by
  obtain ⟨hr1, hr2⟩ := rsOf_spec hrs
  have go : ∀ (t : TypeId) (m k v : Operand), o.op.operands.toList = [m, k, v] → (∀ (ρ : Operand → Value) (w w' : World), (Instr.mapUpdate t (ρ m) (ρ k) (ρ v)).run P w = .ok () w' → (execOp ρ o).run P w = .ok .skip w') → (updD E Q st t vals rs).Has r → r.pre st ∧ RecOk P N o r := by
    intro t m k v hops hex h
    obtain ⟨q1, q2, q3, q4⟩ := updD_run hT hQ hr1 h
    refine ⟨q1, ?_⟩
    intro st' c a w K Q' hp hcN ⟨L, hL⟩ hK
    have hrel := evs_rel hL (by rw [evs_local (hr2 st' (by rw [← q3]; exact hp.rs))]; exact hev)
    rw [hops] at hrel
    obtain ⟨w', e1, e2⟩ := q4 st' c L a w (a.eval m) (a.eval k) (a.eval v) hp hL hrel
    unfold Oper.wp
    rw [hex _ _ _ e1, Oper.upon_skip, hd]
    exact hK _ _ ⟨L, e2⟩
  unfold updS at h
  split at h
  · rename_i t m k v hop
    exact go t m k v (by rw [hop]; rfl) (fun ρ w w' hw => by simp only [execOp, hop, Sem.run_bind, hw, Result.andThen_ok, Sem.run_pure]) h
  · rename_i t m k v hop
    exact go t m k v (by rw [hop]; rfl) (fun ρ w w' hw => by simp only [execOp, hop, Sem.run_bind, hw, Result.andThen_ok, Sem.run_pure]) h
  · exact h.elim
/-! Equality of aggregates and bools; comparison with nil. -/
def nilR : Option Bool → List (List PV) → Option Bool
  | _, _ :: _ => some false
  | some b, [] => some b
  | none, [] => none
def eqD (Q : EqT) (t : TypeId) (x y : VV) : Option Bool :=
  match x, y with
  | .agg vs, .agg us => match Q t, mapO unpv vs, mapO unpv us with
    | some (true, cs), some ps, some qs => rowEq cs ps qs
    | _, _, _ => none
  | .pv (.bool a), .pv (.bool b) => match Q t with
    | some (false, [.bool]) => some (a == b)
    | _ => none
  | _, _ => none
def eqS (E : Env) (Q : EqT) (st : St) (o : Oper) (d : Nat) (vals : List VV) (rs : List (Nat × VV)) : Stp :=
  match o.op, vals with
  | .binOp .eql t _ _ _, [x, y] => match eqD Q t x y with
    | some b => .does { rs, ro := [], ws := [(d, .pv (.bool b))], ab := slNone st d }
    | none => .no
  | .binOp .neq t _ _ _, [x, y] => match eqD Q t x y with
    | some b => .does { rs, ro := [], ws := [(d, .pv (.bool !b))], ab := slNone st d }
    | none => .no
  | _, _ => .no
end Go.KV
namespace Go.KV
variable {P : Program} {T : TEnv} {N : Nat} {E : Env}
theorem agg_cells {w : World} {A : Nat → Prop} {L : Lay} {vs : List VV} {ps : List PV} {x : Value} (h : RelV w A L (.agg vs) x) (hp : mapO unpv vs = some ps) : ∃ cs, x = .agg cs ∧ CellsAre w A true ps x := by
  have := key_cells h rfl hp
  simp only [CellsAre, if_true] at this ⊢
  obtain ⟨cs, h1, h2, h3⟩ := this
  exact ⟨cs, h1, cs, h1, h2, h3⟩
theorem flat_guard {t : TypeId} {cs : List CT} (h : flatEq P t = some (true, cs)) : P.eqGuardType P.depth t = false := by
  unfold flatEq at h
  split at h
  · cases hg : (P.stoodInHeld t || P.eqGuardType P.depth t) with
    | true => rw [hg] at h; cases h
    | false => rw [Bool.or_eq_false_iff] at hg; exact hg.2
  · cases hg : P.eqGuardType P.depth t with
    | true => rw [hg] at h; cases h
    | false => rfl
  · split at h <;> cases h
theorem eqD_run {Q : EqT} (hQ : EqOk P Q) {t : TypeId} {x y : VV} {b : Bool} (h : eqD Q t x y = some b) {w : World} {A : Nat → Prop} {L : Lay} {u v : Value} (hx : RelV w A L x u) (hy : RelV w A L y v) (op : BinOp) (hop : op = .eql ∨ op = .neq) (X Y : Operand) :
    (do eqGuard op t X Y u v; binOp op t u v : Sem Value).run P w = .ok (.bool (if op = .eql then b else !b)) w := by
  unfold eqD at h
  split at h
  · rename_i vs us
    split at h
    · rename_i cs ps qs h1 h2 h3
      have hf := hQ _ _ h1
      obtain ⟨xs, rfl, cx⟩ := agg_cells hx h2
      obtain ⟨ys, rfl, cy⟩ := agg_cells hy h3
      have he := equal_flat (w := w) hf h cx cy
      have hg := run_eqGuard_agg w op t X Y xs ys (flat_guard hf)
      rcases hop with rfl | rfl
      · simp only [Sem.run_bind, hg, Result.andThen_ok]
        simp only [binOp]
        simp [he]
      · simp only [Sem.run_bind, hg, Result.andThen_ok]
        simp only [binOp]
        simp [he]
    · cases h
  · rename_i a b'
    split at h
    · rename_i hq
      cases h
      have hf := hQ _ _ hq
      have hu : P.underlying t = some .bool := by
        unfold flatEq at hf
        split at hf
        · cases hg : (P.stoodInHeld t || P.eqGuardType P.depth t) with
          | true => rw [hg] at hf; cases hf
          | false =>
            rw [hg] at hf
            simp only [cond_false] at hf
            split at hf <;> cases hf
        · cases hg : P.eqGuardType P.depth t with
          | true => rw [hg] at hf; cases hf
          | false =>
            rw [hg] at hf
            simp only [cond_false] at hf
            split at hf
            · rename_i c i hs hi
              cases hc : (Nat.beq i.size 1 && Nat.blt _ 1000) with
              | false => rw [hc] at hf; cases hf
              | true => rw [hc] at hf; cases hf
            · cases hf
        · split at hf
          · rename_i c hs
            unfold scalOf at hs
            split at hs <;> simp_all
          · cases hf
      have e1 := hx.bool
      have e2 := hy.bool
      subst e1; subst e2
      have hg := eqGuard_scalar (P := P) (w := w) (op := op) (t := t) (x := X) (y := Y) (a := .bool a) (b := .bool b') (by simp) (by simp)
      have he := run_equal_bool (P := P) w t a b' hu
      rcases hop with rfl | rfl
      · simp only [Sem.run_bind, hg, Result.andThen_ok]
        simp only [binOp]
        simp [he]
      · simp only [Sem.run_bind, hg, Result.andThen_ok]
        simp only [binOp]
        simp [he]
    · cases h
  · cases h
theorem StpDoes_ok {st : St} {o : Oper} {d : Nat} {rs : List (Nat × VV)} {x : VV} (hd : o.dst = some d) (hN : d < N)
    (hrs : ∀ p ∈ rs, st.get p.1 = some p.2)
    (h : ∀ st' c L a w, (∀ p ∈ rs, st'.get p.1 = some p.2) → HoldsL c st' L a w → ∃ v, (execOp a.eval o).run P w = .ok (.value v) w ∧ RelV w (st'.mut c L) L x v)
    {r : Rec} (hr : (Stp.does { rs, ro := [], ws := [(d, x)], ab := slNone st d }).Has r) : r.pre st ∧ RecOk P N o r := by
  cases hr
  exact ⟨⟨hrs, by simp, by simp, by simp, fun hab p hp => by simp at hp; subst hp; exact slNone_spec hab, by simp, by simp⟩,
    recOk_val hd hN fun st' c L a w hp hL => h st' c L a w hp.rs hL⟩
theorem eqS_ok {Q : EqT} (hQ : EqOk P Q) {st : St} {o : Oper} {d : Nat} {vals : List VV} {rs : List (Nat × VV)} (hk : Know st o d vals rs N) {r : Rec} (h : (eqS E Q st o d vals rs).Has r) : r.pre st ∧ RecOk P N o r := by
  unfold eqS at h
  split at h
  · rename_i t X Y yt x y hop
    split at h
    · rename_i b he
      refine StpDoes_ok hk.hd hk.hN hk.get (fun st' c L a w hrs hL => ?_) h
      have hrel := evs_rel hL (hk.evs' hrs)
      rw [hop] at hrel
      obtain ⟨v, u, ee, g1, g2⟩ := RelL.two hrel
      simp [Op.operands] at ee
      obtain ⟨rfl, rfl⟩ := ee
      have hr := eqD_run (P := P) hQ he g1 g2 .eql (.inl rfl) X Y
      refine ⟨.bool b, ?_, .pv (.bool b)⟩
      simp only [Sem.run_bind] at hr
      simp only [execOp, hop, Sem.run_bind, hr, Result.andThen_ok, Sem.run_pure, if_true]
    · exact h.elim
  · rename_i t X Y yt x y hop
    split at h
    · rename_i b he
      refine StpDoes_ok hk.hd hk.hN hk.get (fun st' c L a w hrs hL => ?_) h
      have hrel := evs_rel hL (hk.evs' hrs)
      rw [hop] at hrel
      obtain ⟨v, u, ee, g1, g2⟩ := RelL.two hrel
      simp [Op.operands] at ee
      obtain ⟨rfl, rfl⟩ := ee
      have hr := eqD_run (P := P) hQ he g1 g2 .neq (.inr rfl) X Y
      refine ⟨.bool !b, ?_, .pv (.bool _)⟩
      simp only [Sem.run_bind] at hr
      simp only [execOp, hop, Sem.run_bind, hr, Result.andThen_ok, Sem.run_pure]
      rfl
    · exact h.elim
  · exact h.elim
/-! Comparison with nil. -/
def isNilK (k : TK) (y : VV) : Bool :=
  match k with
  | .slice _ => (match y with | .pv (.sl (some true) _ []) => true | _ => false)
  | .ptr _ => (match y with | .pv .nilp => true | _ => false)
  | .map _ _ => (match y with | .pv .nilm => true | _ => false)
  | .fn => (match y with | .pv .nilf => true | _ => false)
  | _ => false
def nilSl (x : VV) (ob : Option VO) : Option (Option Bool) :=
  match x with
  | .pv (.sl nl _ es) => some (match nl with | some b => some b | none => nilR none es)
  | .own _ => (match ob with
    | some (.arr _ _ es) => some (nilR none es)
    | _ => none)
  | _ => none
def nilPt : VV → Option Bool
  | .pv .nilp => some true
  | .ptr _ _ | .ptrE _ _ _ _ | .prow _ => some false
  | _ => none
def nilMp : VV → Option Bool
  | .pv .nilm => some true
  | .mapr _ => some false
  | _ => none
def nilFn : VV → Option Bool
  | .pv .nilf => some true
  | .pv (.fn _) | .fnc _ _ => some false
  | _ => none
def nilV (k : TK) (x : VV) (ob : Option VO) : Option (Option Bool) :=
  match k with
  | .slice _ => nilSl x ob
  | .ptr _ => (nilPt x).map some
  | .map _ _ => (nilMp x).map some
  | .fn => (nilFn x).map some
  | _ => none
theorem nilSl_run {w : World} {A : Nat → Prop} {L : Lay} {x : VV} {ob : Option VO} {b : Bool} (h : nilSl x ob = some (some b)) {p : Value} (hp : RelV w A L x p) (ho : ∀ id o, tgt [x] = some id → ob = some o → ObjRel w A L id o) :
    ∃ a n c, p = .slice a n c ∧ a.isNone = b := by
  unfold nilSl at h
  split at h
  · rename_i nl sz es
    simp only [Option.some.injEq] at h
    cases hp with
    | pv hp =>
    cases nl with
    | some b' =>
      simp only [Option.some.injEq] at h
      subst h
      cases hp with
      | nils hn => exact ⟨none, 0, 0, rfl, by cases b' <;> simp at hn ⊢⟩
      | row es a cap _ us hn hcap hsz hc hr => exact ⟨some a, _, _, rfl, by cases b' <;> simp at hn ⊢⟩
    | none =>
      cases es with
      | nil => cases h
      | cons e es =>
        simp only [nilR, Option.some.injEq] at h
        subst h
        cases hp with
        | row es a cap _ us hn hcap hsz hc hr => exact ⟨some a, _, _, rfl, rfl⟩
  · rename_i id
    split at h
    · rename_i es
      cases hp
      obtain ⟨o1, o2, o3⟩ := ho id _ rfl rfl
      cases es with
      | nil => simp [nilR] at h
      | cons e0 es0 =>
        simp only [nilR, Option.some.injEq] at h
        subst h
        unfold LE.slice
        cases hν : (L id).ν with
        | true => have := o2 hν; cases this
        | false => exact ⟨_, _, _, rfl, rfl⟩
    · cases h
  · cases h
theorem nilPt_run {w : World} {A : Nat → Prop} {L : Lay} {x : VV} {b : Bool} (h : nilPt x = some b) {p : Value} (hp : RelV w A L x p) : ∃ a, p = .pointer a ∧ a.isNone = b := by
  cases hp <;> simp only [nilPt, reduceCtorEq, Option.some.injEq] at h
  case pv hp => cases hp <;> simp only [nilPt, reduceCtorEq, Option.some.injEq] at h; exact ⟨none, rfl, by simpa using h⟩
  all_goals exact ⟨_, rfl, by simpa using h⟩
theorem nilMp_run {w : World} {A : Nat → Prop} {L : Lay} {x : VV} {b : Bool} (h : nilMp x = some b) {p : Value} (hp : RelV w A L x p) : ∃ a, p = .map a ∧ a.isNone = b := by
  cases hp <;> simp only [nilMp, reduceCtorEq, Option.some.injEq] at h
  case pv hp => cases hp <;> simp only [nilMp, reduceCtorEq, Option.some.injEq] at h; exact ⟨none, rfl, by simpa using h⟩
  all_goals exact ⟨_, rfl, by simpa using h⟩
theorem nilFn_run {w : World} {A : Nat → Prop} {L : Lay} {x : VV} {b : Bool} (h : nilFn x = some b) {p : Value} (hp : RelV w A L x p) : (p = .nilFunc ∧ b = true) ∨ (∃ f a c, p = .func f a c ∧ b = false) := by
  cases hp <;> simp only [nilFn, reduceCtorEq, Option.some.injEq] at h
  case pv hp =>
    cases hp <;> simp only [nilFn, reduceCtorEq, Option.some.injEq] at h
    · exact .inl ⟨rfl, h.symm⟩
    · exact .inr ⟨_, _, _, rfl, h.symm⟩
  all_goals exact .inr ⟨_, _, _, rfl, h.symm⟩
def boolR (o : Option Bool) : Option (Ds [.bool]) := o
def nilS (E : Env) (st : St) (o : Oper) (d : Nat) (vals : List VV) (rs : List (Nat × VV)) : Stp :=
  match o.op, vals with
  | .binOp op t _ _ _, [x, y] => match E.T t with
    | some td => bif isNilK td.k y then (match nilV td.k x (obOf st [x]) with
      | some ob => match op with
        | .eql => .val rs (roOf st [x]) d (slNone st d) [.bool] (boolR ob) fun b => .pv (.bool b)
        | .neq => .val rs (roOf st [x]) d (slNone st d) [.bool] (boolR ob) fun b => .pv (.bool !b)
        | _ => .no
      | none => .no) else .no
    | none => .no
  | _, _ => .no
/-- What a value held against nil gives. -/
theorem nil_run {w : World} {A : Nat → Prop} {L : Lay} {t : TypeId} {td : TD} {i : TypeInfo} {u : TypeDesc} {z : Value} (hI : td.Is P t i u z) {x y : VV} {ob : Option VO} {b : Bool}
    (hy : isNilK td.k y = true) (h : nilV td.k x ob = some (some b)) {p q : Value} (hp : RelV w A L x p) (hq : RelV w A L y q) (ho : ∀ id o, tgt [x] = some id → ob = some o → ObjRel w A L id o)
    (op : BinOp) (hop : op = .eql ∨ op = .neq) (X Y : Operand) : (do eqGuard op t X Y p q; binOp op t p q : Sem Value).run P w = .ok (.bool (if op = .eql then b else !b)) w := by
  have hu := hI.under
  have hk := hI.k
  have fin : ∀ (p q : Value), (¬ (p = .nilIface ∧ q = .nilIface)) → (∀ cs, p ≠ .agg cs) → (Op.equal t p q).run P w = .ok b w → (∀ o, o = .eql → binOp o t p q = (do let r ← Op.equal t p q; pure (.bool r))) → (∀ o, o = .neq → binOp o t p q = (do let r ← Op.equal t p q; pure (.bool !r))) →
      (do eqGuard op t X Y p q; binOp op t p q : Sem Value).run P w = .ok (.bool (if op = .eql then b else !b)) w := by
    intro p q h1 h2 h3 h4 h5
    have hg := eqGuard_scalar (P := P) (w := w) (op := op) (t := t) (x := X) (y := Y) h1 h2
    rcases hop with rfl | rfl
    · simp only [Sem.run_bind, hg, Result.andThen_ok, h4 _ rfl, h3, Sem.run_pure, if_true]
    · simp only [Sem.run_bind, hg, Result.andThen_ok, h5 _ rfl, h3, Sem.run_pure]
      rfl
  generalize td.k = k at hk hy h
  cases k <;> simp only [isNilK, Bool.false_eq_true] at hy <;> simp only [nilV] at h
  case slice e =>
    cases u <;> simp [tkOf] at hk
    subst hk
    have eq : q = .slice none 0 0 := by
      split at hy
      · cases hq with
        | pv hq => exact nil_slice hq
      · cases hy
    subst eq
    obtain ⟨a, n, c, rfl, rfl⟩ := nilSl_run h hp ho
    exact fin _ _ (by simp) (by simp) (run_equal_slice_nil w t _ a n c hu) (fun o ho => by subst ho; rfl) (fun o ho => by subst ho; rfl)
  case ptr e =>
    cases u <;> simp [tkOf] at hk
    subst hk
    have eq : q = .pointer none := by
      split at hy
      · cases hq with
        | pv hq => cases hq; rfl
      · cases hy
    subst eq
    rw [Option.map_eq_some_iff] at h
    obtain ⟨b', h, e1⟩ := h
    cases e1
    obtain ⟨a, rfl, rfl⟩ := nilPt_run h hp
    refine fin _ _ (by simp) (by simp) ?_ (fun o ho => by subst ho; rfl) (fun o ho => by subst ho; rfl)
    unfold Op.equal Op.maxDepth
    rw [show (10000 : Nat) = 9999 + 1 from rfl]
    generalize 9999 = d
    cases a <;> simp [Op.equalIn, run_underlying hu]
  case map k e =>
    cases u <;> simp [tkOf] at hk
    obtain ⟨rfl, rfl⟩ := hk
    have eq : q = .map none := by
      split at hy
      · cases hq with
        | pv hq => cases hq; rfl
      · cases hy
    subst eq
    rw [Option.map_eq_some_iff] at h
    obtain ⟨b', h, e1⟩ := h
    cases e1
    obtain ⟨a, rfl, rfl⟩ := nilMp_run h hp
    exact fin _ _ (by simp) (by simp) (run_equal_map_nil w t _ _ a hu) (fun o ho => by subst ho; rfl) (fun o ho => by subst ho; rfl)
  case fn =>
    cases u <;> simp [tkOf] at hk
    have eq : q = .nilFunc := by
      split at hy
      · cases hq with
        | pv hq => cases hq; rfl
      · cases hy
    subst eq
    rw [Option.map_eq_some_iff] at h
    obtain ⟨b', h, e1⟩ := h
    cases e1
    rcases nilFn_run h hp with ⟨rfl, rfl⟩ | ⟨f, a, c, rfl, rfl⟩
    · refine fin _ _ (by simp) (by simp) ?_ (fun o ho => by subst ho; rfl) (fun o ho => by subst ho; rfl)
      unfold Op.equal Op.maxDepth
      rw [show (10000 : Nat) = 9999 + 1 from rfl]
      generalize 9999 = d
      simp [Op.equalIn, run_underlying hu]
    · refine fin _ _ (by simp) (by simp) ?_ (fun o ho => by subst ho; rfl) (fun o ho => by subst ho; rfl)
      unfold Op.equal Op.maxDepth
      rw [show (10000 : Nat) = 9999 + 1 from rfl]
      generalize 9999 = d
      simp [Op.equalIn, run_underlying hu]
theorem roOf_obj {st : St} {vals : List VV} : ∀ p ∈ roOf st vals, st.obj p.1 = some p.2 := by
  intro p hp
  unfold roOf at hp
  split at hp
  · split at hp
    · rename_i id _ o ho
      simp at hp
      subst hp
      exact ho
    · simp at hp
  · simp at hp
theorem obOf_same {st st' : St} {vals : List VV} (h : ∀ p ∈ roOf st vals, st'.obj p.1 = some p.2) {id : Nat} {o : VO} (ht : tgt vals = some id) (ho : obOf st vals = some o) : st'.obj id = some o := by
  unfold obOf at ho
  rw [ht] at ho
  simp only [] at ho
  have := h (id, o) (by unfold roOf; rw [ht]; simp [ho])
  exact this
theorem nilS_ok (hT : TOk P E.T) {st : St} {o : Oper} {d : Nat} {vals : List VV} {rs : List (Nat × VV)} (hk : Know st o d vals rs N) {r : Rec} (h : (nilS E st o d vals rs).Has r) : r.pre st ∧ RecOk P N o r := by
  unfold nilS at h
  split at h
  · rename_i op t X Y yt x y hop
    split at h
    · rename_i td ht
      cases hy : isNilK td.k y with
      | false => rw [hy] at h; exact h.elim
      | true =>
        rw [hy] at h
        simp only [cond_true] at h
        obtain ⟨i, u, z, hI⟩ := tdOf_spec (hT _ _ ht)
        split at h
        · rename_i ob hn
          have main : ∀ (f : Bool → Bool), (∀ b, f b = (if op = .eql then b else !b)) → (op = .eql ∨ op = .neq) → (Stp.val rs (roOf st [x]) d (slNone st d) [.bool] (boolR ob) fun b => .pv (.bool (f b))).Has r → r.pre st ∧ RecOk P N o r := by
            intro f hf hop2 h
            refine StpVal_ok hk.hd hk.hN hk.get roOf_obj (fun b hb st' c L a w hrs hro hL => ?_) h
            have hrel := evs_rel hL (hk.evs' hrs)
            rw [hop] at hrel
            obtain ⟨v, q, ee, g1, g2⟩ := RelL.two hrel
            simp [Op.operands] at ee
            obtain ⟨rfl, rfl⟩ := ee
            unfold boolR at hb
            subst hb
            have r1 := nil_run (P := P) (w := w) hI hy hn g1 g2 (fun id o' h1 h2 => hL.rel id o' (obOf_same hro h1 h2)) op hop2 X Y
            refine ⟨.bool (f b), ?_, .pv (.bool _)⟩
            have hfb := hf b
            revert hfb
            generalize f b = fb
            rintro rfl
            simp only [Sem.run_bind] at r1
            simp only [execOp, hop, Sem.run_bind]
            simp only [r1, Result.andThen_ok, Sem.run_pure]
          split at h
          · exact main id (fun b => by simp) (.inl rfl) h
          · exact main (!·) (fun b => by simp) (.inr rfl) h
          · exact h.elim
        · exact h.elim
    · exact h.elim
  · exact h.elim
end Go.KV
namespace Go.KV
variable {P : Program} {T : TEnv} {N : Nat} {E : Env}
/-! New slices of zeros. -/
def zrows (z : List PV) : Nat → List (List PV)
  | 0 => []
  | n + 1 => z :: zrows z n
theorem zrows_length (z : List PV) : ∀ n, (zrows z n).length = n
  | 0 => rfl
  | n + 1 => by simp [zrows, zrows_length z n]
theorem zrows_get (z : List PV) : ∀ (n i : Nat) (e : List PV), (zrows z n)[i]? = some e → i < n ∧ e = z
  | 0, i, e, h => by simp [zrows] at h
  | n + 1, 0, e, h => by simp [zrows] at h; exact ⟨by omega, h.symm⟩
  | n + 1, i + 1, e, h => by
    have := zrows_get z n i e (by simpa [zrows] using h)
    exact ⟨by omega, this.2⟩
/-- Zero elements: so many, with room for more. -/
def makR (bytes : Nat) (z : List PV) (n c : Int) : Option (List (List PV)) :=
  bif decide (0 ≤ n) && decide (n ≤ c) && decide (c * bytes ≤ 281474976710656) then some (zrows z n.toNat) else none
theorem alloc_size' (w : World) (o : Obj) : (w.alloc o).heap.size = w.heap.size + 1 := by show (w.heap.push o).size = _; simp
theorem alloc_old (w : World) (o : Obj) (b : Nat) (h : b < w.heap.size) : (w.alloc o).heap[b]? = w.heap[b]? := by
  show (w.heap.push o)[b]? = _
  rw [Array.getElem?_push, if_neg (by omega)]
theorem alloc_new (w : World) (o : Obj) : (w.alloc o).heap[w.heap.size]? = some o := by
  show (w.heap.push o)[w.heap.size]? = _
  rw [Array.getElem?_push, if_pos rfl]
theorem makeSlice_run (hT : TOk P T) {w : World} {A : Nat → Prop} {t e : TypeId} {td tt : TD} (ht : T t = some tt) (hk : tt.k = .slice e) (he : T e = some td) (hz0 : 0 < td.size) (hzl : td.zero.length = td.size) (hb : 0 < td.bytes)
    {n c : Int} {k j : IntKind} {es : List (List PV)} (h : makR td.bytes td.zero n c = some es) :
    ∃ ds : Array Value, (Instr.makeSlice t (.int k n) (.int j c)).run P w = .ok (.slice (some ⟨w.heap.size, 0, none⟩) n.toNat c.toNat) (w.alloc (.cells ds e)) ∧ ds.size = c.toNat * td.size ∧ es.length = n.toNat ∧ n.toNat ≤ c.toNat ∧ c.toNat ≤ 9223372036854775807 ∧ (∀ x ∈ es, x.length = td.size) ∧
      ∀ (i : Nat) (x : List PV), es[i]? = some x → ∀ (j : Nat) (p : PV), x[j]? = some p → Reads w A p (ds.getD (i * td.size + j) undef) := by
  unfold makR at h
  cases hc : (decide (0 ≤ n) && decide (n ≤ c) && decide (c * td.bytes ≤ 281474976710656)) with
  | false => rw [hc] at h; cases h
  | true =>
    rw [hc] at h
    cases h
    simp only [Bool.and_eq_true, decide_eq_true_eq] at hc
    obtain ⟨⟨h1, h2⟩, h3⟩ := hc
    obtain ⟨_, u, z, hI⟩ := tdOf_spec (hT _ _ ht)
    obtain ⟨i1, u', z', hI'⟩ := tdOf_spec (hT _ _ he)
    have hku := hI.k
    rw [hk] at hku
    cases u <;> simp [tkOf] at hku
    subst hku
    have hcb : c ≤ 281474976710656 := by
      have h4 : (1 : Int) ≤ (td.bytes : Int) := by omega
      have h5 : c * 1 ≤ c * (td.bytes : Int) := Int.mul_le_mul_of_nonneg_left h4 (by omega)
      omega
    have hbytes : i1.bytes = td.bytes := hI'.bytes
    have hlarge : (i1.bytes : Int) * c ≤ 281474976710656 := by rw [hbytes, Int.mul_comm]; exact h3
    have hrun := run_make (P := P) w t _ i1 z' hI.under hI'.info hI'.zero k j n c h1 h2 hlarge (by omega)
    rw [hI'.size] at hrun
    refine ⟨(Array.range (c.toNat * td.size)).map (z'.cells[· % z'.cells.size]!), ?_, by simp, zrows_length _ _, by omega, by omega, ?_, ?_⟩
    · exact hrun
    · intro x hx
      obtain ⟨i, hi, rfl⟩ := List.mem_iff_getElem.1 hx
      have := (zrows_get _ _ _ _ (List.getElem?_eq_getElem hi)).2
      rw [this, hzl]
    · intro i x hi j p hj
      obtain ⟨g1, rfl⟩ := zrows_get _ _ _ _ hi
      have hjl : j < td.size := by
        have := (List.getElem?_eq_some_iff.1 hj).1
        omega
      have hsz : z'.cells.size = td.size := by rw [hI'.zsize, hzl]
      have hlt : i * td.size + j < c.toNat * td.size := by
        have : (i + 1) * td.size ≤ c.toNat * td.size := Nat.mul_le_mul_right _ (by omega)
        rw [Nat.add_mul] at this
        omega
      have : ((Array.range (c.toNat * td.size)).map (z'.cells[· % z'.cells.size]!)).getD (i * td.size + j) undef = z'.cells.getD j undef := by
        simp only [Array.getD_eq_getD_getElem?, Array.getElem?_map]
        rw [Array.getElem?_eq_getElem (by simpa using hlt)]
        simp only [Array.getElem_range, Option.map_some, Option.getD_some]
        rw [hsz, show (i * td.size + j) % td.size = j by rw [Nat.add_comm, Nat.mul_comm, Nat.add_mul_mod_self_left, Nat.mod_eq_of_lt hjl]]
        rw [getElem!_pos z'.cells j (by omega), Array.getElem?_eq_getElem (by omega)]
        rfl
      rw [this]
      exact hI'.zreads j p hj w A
def makS (E : Env) (st : St) (o : Oper) (d : Nat) (vals : List VV) (rs : List (Nat × VV)) : Stp :=
  match o.op, vals with
  | .makeSlice t _ _, [.pv (.int _ n), .pv (.int _ c)] => match elemOf E.T t with
    | some (e, td) =>
      bif Nat.blt 0 td.size && Nat.beq td.zero.length td.size && Nat.blt 0 td.bytes && objNone st d && st.soleB d [] [] && Nat.blt d impBase then
        (bif E.pu.any (Nat.beq d) then .bnd [.sl td.size] (makR td.bytes td.zero n c) fun es => { rs, ro := [], no := [d], ws := [(d, .pv (.sl none td.size es))], ab := slNone st d }
        else .bnd [.sl td.size] (makR td.bytes td.zero n c) fun es => { rs, ro := [], no := [d], ws := [(d, .own d)], wo := [(d, .arr td.size e es)], ab := slNone st d })
      else .no
    | none => .no
  | _, _ => .no
theorem makS_ok (hT : TOk P E.T) {st : St} {o : Oper} {d : Nat} {vals : List VV} {rs : List (Nat × VV)} (hk : Know st o d vals rs N) {r : Rec} (h : (makS E st o d vals rs).Has r) : r.pre st ∧ RecOk P N o r := by
  unfold makS at h
  split at h
  · rename_i t X Y k n j c hop
    split at h
    · rename_i e td he
      obtain ⟨tt, h1, h2, h3⟩ := elemOf_spec he
      cases hb : (Nat.blt 0 td.size && Nat.beq td.zero.length td.size && Nat.blt 0 td.bytes && objNone st d && st.soleB d [] [] && Nat.blt d impBase) with
      | false => rw [hb] at h; exact h.elim
      | true =>
        rw [hb] at h
        simp only [cond_true] at h
        simp only [Bool.and_eq_true] at hb
        obtain ⟨⟨⟨⟨⟨b1, b2⟩, b3⟩, b4⟩, b5⟩, b6⟩ := hb
        have b1 : 0 < td.size := Nat.le_of_ble_eq_true b1
        have b2 := Nat.eq_of_beq_eq_true b2
        have b3 : 0 < td.bytes := Nat.le_of_ble_eq_true b3
        have b4 := objNone_spec b4
        have b5 := St.soleB_spec b5
        have b6 : d < impBase := Nat.le_of_ble_eq_true b6
        cases hpu : E.pu.any (Nat.beq d) with
        | true =>
          rw [hpu] at h
          obtain ⟨es, hes, rfl⟩ := h
          refine ⟨⟨hk.get, by simp, fun i hi => by simp at hi; subst hi; exact ⟨b4, b5⟩, by simp, fun hab p hp => by simp at hp; subst hp; exact slNone_spec hab, by simp, by simp⟩, ?_⟩
          intro st' c' a w K Q hpre hcN ⟨L, hL⟩ hK
          have hrel := evs_rel hL (hk.evs' hpre.rs)
          rw [hop] at hrel
          obtain ⟨v, u, ee, g1, g2⟩ := RelL.two hrel
          simp [Op.operands] at ee
          obtain ⟨rfl, rfl⟩ := ee
          have e1 := g1.int
          have e2 := g2.int
          obtain ⟨ds, r1, r2, r3, r4, r5, r6, r7⟩ := makeSlice_run (P := P) (w := w) (A := st'.mut c' L) hT h1 h2 h3 b1 b2 b3 (k := k) (j := j) hes
          unfold Oper.wp
          have hex : (execOp a.eval o).run P w = .ok (.value (.slice (some ⟨w.heap.size, 0, none⟩) n.toNat c.toNat)) (w.alloc (.cells ds e)) := by
            simp only [execOp, hop, e1, e2, Sem.run_bind, r1, Result.andThen_ok, Sem.run_pure]
          rw [hex, Oper.upon_value, hk.hd]
          refine hK _ _ ⟨L, ?_⟩
          have hgrow := hL.grow (w' := w.alloc (.cells ds e)) rfl rfl rfl (by rw [alloc_size']; omega) (fun b hb => alloc_old _ _ b hb)
          refine hgrow.put ?_ (by rw [hcN.1]; exact hk.hN)
          have hfr : ¬ st'.mut c' L w.heap.size := by
            rintro (hS | ⟨id, o', q1, q2, q3⟩)
            · have := hL.old _ hS
              have := hL.size
              omega
            · have := (hL.rel id o' q1).lt q2
              omega
          refine .pv ?_
          rw [← r3]
          have hst : Stands (st'.mut c' L) (st'.mut c' L) w (w.alloc (.cells ds e)) := ⟨by rw [alloc_size']; omega, fun b hb _ => alloc_old _ _ b hb, fun _ _ h => h⟩
          refine .row es ⟨w.heap.size, 0, none⟩ c.toNat td.size (fun i j => ds.getD (i * td.size + j) undef) (by simp) (by omega) r6 (fun i x hi j p hj => ⟨?_, hfr⟩) (fun i x hi j p hj => (r7 i x hi j p hj).mono hst)
          rw [plain_add]
          have hx := r6 x (List.mem_of_getElem? hi)
          have hjl := (List.getElem?_eq_some_iff.1 hj).1
          have hil := (List.getElem?_eq_some_iff.1 hi).1
          have : (i + 1) * td.size ≤ c.toNat * td.size := Nat.mul_le_mul_right _ (by omega)
          rw [Nat.add_mul] at this
          rw [Nat.zero_add]
          exact cell_at (e := e) (fr := (0, 0)) (alloc_new _ _) _ (by omega)
        | false =>
          rw [hpu] at h
          obtain ⟨es, hes, rfl⟩ := h
          refine ⟨⟨hk.get, by simp, fun i hi => by simp at hi; subst hi; exact ⟨b4, b5⟩, by simp, fun hab p hp => by simp at hp; subst hp; exact slNone_spec hab, by simp, by simp⟩, ?_⟩
          intro st' c' a w K Q hpre hcN ⟨L, hL⟩ hK
          have hrel := evs_rel hL (hk.evs' hpre.rs)
          rw [hop] at hrel
          obtain ⟨v, u, ee, g1, g2⟩ := RelL.two hrel
          simp [Op.operands] at ee
          obtain ⟨rfl, rfl⟩ := ee
          have e1 := g1.int
          have e2 := g2.int
          obtain ⟨hn, hs⟩ := hpre.no d (by simp [Rec.bare])
          obtain ⟨ds, r1, r2, r3, r4, r5, r6, r7⟩ := makeSlice_run (P := P) (w := w) (A := st'.mut c' L) hT h1 h2 h3 b1 b2 b3 (k := k) (j := j) hes
          have hnew := HoldsL.new (id := d) (O := .cells ds e) (o := .arr td.size e es) (ℓ := { φ := w.heap.size, κ := c.toNat, len := n.toNat }) hL b6 hn (fun k x hk => hs.1 k x hk (by simp)) (fun i o ho => hs.2 i o ho (by simp)) rfl
            (fun A' L' hr hrd hφ hh => ⟨by rw [hφ]; exact r3.symm, by rw [hφ]; simp, fun _ => ⟨ds, by rw [hφ]; exact hh, by rw [hφ]; exact r2, by rw [hφ]; show es.length ≤ c.toNat; omega, by rw [hφ]; exact r5, r6, fun i x hi j p hj => hrd p _ (r7 i x hi j p hj)⟩⟩)
          unfold Oper.wp
          have hex : (execOp a.eval o).run P w = .ok (.value (.slice (some ⟨w.heap.size, 0, none⟩) n.toNat c.toNat)) (w.alloc (.cells ds e)) := by
            simp only [execOp, hop, e1, e2, Sem.run_bind, r1, Result.andThen_ok, Sem.run_pure]
          rw [hex, Oper.upon_value, hk.hd]
          refine hK _ _ ⟨_, hnew.put ?_ (by rw [hcN.1]; exact hk.hN)⟩
          have := @RelV.own (w.alloc (.cells ds e)) ((st'.setObj d (.arr td.size e es)).mut c' (L.set d { φ := w.heap.size, κ := c.toNat, len := n.toNat })) (L.set d { φ := w.heap.size, κ := c.toNat, len := n.toNat }) d
          rw [Lay.set_eq] at this
          simpa [LE.slice] using this
    · exact h.elim
  · exact h.elim
end Go.KV
namespace Go.KV
variable {P : Program} {T : TEnv} {N : Nat} {E : Env}
/-! An owned slice takes a new value. -/
def ownB (st : St) (d i : Nat) : Bool := st.soleB i (d :: speak st d [i]) (speakO st i) && !(speakO st i).any (Nat.beq i) && (Nat.blt i impBase || Nat.ble (2 * impBase) i)
theorem ownUpd_ok {st : St} {o : Oper} {d : Nat} {vals : List VV} {rs : List (Nat × VV)} (hk : Know st o d vals rs N) {i sz : Nat} {e : TypeId} {es es' : List (List PV)} (ho : st.obj i = some (.arr sz e es)) (hb : ownB st d i = true)
    (hrun : ∀ st' c L a w, HoldsL c st' L a w → (∀ p ∈ rs, st'.get p.1 = some p.2) → st'.obj i = some (.arr sz e es) → ∃ v' w' ℓ, (execOp a.eval o).run P w = .ok (.value v') w' ∧ v' = LE.slice ℓ ∧ w.grownBy w' (L i).slice.ownBlock ∧
      (ℓ.ν = false → ((L i).ν = false ∧ ℓ.φ = (L i).φ) ∨ ℓ.φ = w.heap.size) ∧ ∀ A', (∀ p u, Reads w (st'.mut c L) p u → Reads w' A' p u) → ObjRel w' A' (L.set i ℓ) i (.arr sz e es')) :
    (appR st d rs i sz e es (speak st d [i]) (speakO st i) es').pre st ∧ RecOk P N o (appR st d rs i sz e es (speak st d [i]) (speakO st i) es') := by
  generalize hX : speak st d [i] = X
  generalize hY : speakO st i = Y
  unfold ownB at hb
  rw [hX, hY] at hb
  simp only [Bool.and_eq_true, Bool.or_eq_true, Bool.not_eq_true'] at hb
  obtain ⟨⟨b9, b10⟩, b11⟩ := hb
  have hsole := St.soleB_spec b9
  have him : i < impBase ∨ 2 * impBase ≤ i := b11.imp Nat.le_of_ble_eq_true Nat.le_of_ble_eq_true
  have hiY : i ∉ Y := fun hm => by
    have : Y.any (Nat.beq i) = true := by rw [List.any_eq_true]; exact ⟨i, hm, by simp⟩
    rw [this] at b10; cases b10
  have hdX : d ∉ X := by
    rw [← hX]
    unfold speak
    rw [List.mem_map]
    rintro ⟨p, hp', rfl⟩
    rw [List.mem_filter] at hp'
    simp at hp'
  have hYo : ∀ k ∈ Y, ∃ p, st.obj k = some p := by
    intro k hk
    rw [← hY] at hk
    unfold speakO at hk
    rw [List.mem_map] at hk
    obtain ⟨q, hq, rfl⟩ := hk
    exact look_of_key (mem_keys.2 ⟨q.2, (List.mem_filter.1 hq).1⟩)
  refine ⟨⟨hk.get, fun p hp => ?_, by simp [appR], fun p hp => by simp [appR] at hp; subst hp; exact hsole, fun hab p hp => ?_, by simp [appR], by simp [appR]⟩, ?_⟩
  · rcases List.mem_cons.1 hp with rfl | hp
    · exact ho
    · exact roCall_obj hp
  · simp only [appR] at hab hp
    cases hx : empty X with
    | false => rw [hx] at hab; cases hab
    | true =>
      rw [hx] at hab
      rw [empty_eq hx] at hp
      simp [anys] at hp
      subst hp
      exact slNone_spec hab
  · intro st' c a w K Q hpre hcN ⟨L, hL⟩ hK
    have hobj : st'.obj i = some (.arr sz e es) := hpre.ro (i, .arr sz e es) (by simp [Rec.bare, appR])
    obtain ⟨v', w', ℓ, hex, r2, r3, r4, r5⟩ := hrun st' c L a w hL hpre.rs hobj
    unfold Oper.wp
    rw [hex, Oper.upon_value, hk.hd]
    refine hK _ _ ⟨L.set i ℓ, ?_⟩
    have hsole' := hpre.uq (i, d :: X, Y) (by simp [Rec.bare, appR])
    have hro' : ∀ k p, (k, p) ∈ roCall st Y → st'.obj k = some p := fun k p hkp => hpre.ro (k, p) (by
      simp only [Rec.bare, appR]
      exact List.mem_cons_of_mem _ hkp)
    refine own_main hL hobj him r2 r3 r4 r5 (by rw [hcN.1]; exact hk.hN) (fun k p hkp => ?_) (fun k x hkx => ?_)
    · by_cases hw : ∃ x, (k, x) ∈ (appR st d rs i sz e es X Y es').wo
      · obtain ⟨x, m1, m2⟩ := (app_obj_mem (appR st d rs i sz e es X Y es') st' st' k hw).2
        rw [hkp] at m1
        cases m1
        rcases List.mem_cons.1 m2 with m2 | m2
        · cases m2; exact .inl ⟨rfl, rfl⟩
        · obtain ⟨q, q1, rfl⟩ := killL_mem.1 m2
          have hkY : k ∈ Y := by
            have key : ∀ (l : List Nat), (k, q) ∈ roCall st l → k ∈ l := by
              intro l
              induction l with
              | nil => intro h; cases h
              | cons j l ih =>
                intro h
                simp only [roCall] at h
                split at h
                · rcases List.mem_cons.1 h with h | h
                  · cases h; exact List.mem_cons_self
                  · exact List.mem_cons_of_mem _ (ih h)
                · exact List.mem_cons_of_mem _ (ih h)
            exact key Y q1
          exact .inr ⟨fun e => hiY (by rw [← e]; exact hkY), q, hro' k q q1, killO_le i q, killO_has i q⟩
      · rw [app_obj _ _ _ fun x hx => hw ⟨x, hx⟩] at hkp
        have hki : k ≠ i := fun e1 => hw ⟨.arr sz _ es', by subst e1; exact List.mem_cons_self⟩
        have hkY : k ∉ Y := by
          intro hm
          obtain ⟨q, hq⟩ := hYo k hm
          exact hw ⟨q.kill i, List.mem_cons_of_mem _ (killL_mem.2 ⟨q, roCall_mem hm hq, rfl⟩)⟩
        exact .inr ⟨hki, p, hkp, OLe.refl p, hsole'.2 k p hkp hkY⟩
    · have e1 : ((appR st d rs i sz e es X Y es').app st').get k = if k ∈ X then some .any else (st'.put d (.own i)).get k := by
        unfold Rec.app
        rw [setObjs_get]
        show (puts (st'.put d _) (anys X)).get k = _
        rw [anys_get]
      rw [e1] at hkx
      by_cases hkX : k ∈ X
      · rw [if_pos hkX] at hkx
        cases hkx
        exact .inr ⟨fun e => hdX (by rw [← e]; exact hkX), .inl rfl⟩
      · rw [if_neg hkX, St.get_put] at hkx
        by_cases hkd : k = d
        · rw [if_pos hkd] at hkx
          cases hkx
          exact .inl ⟨hkd, rfl⟩
        · rw [if_neg hkd] at hkx
          exact .inr ⟨hkd, .inr ⟨hkx, hsole'.1 k x hkx (by simp [hkd, hkX])⟩⟩
/-- The front part of an owned slice, and nothing else of it from then on. -/
def cutS (E : Env) (st : St) (o : Oper) (d : Nat) (vals : List VV) (rs : List (Nat × VV)) : Stp :=
  match o.op, vals with
  | .slice t _ none (some _) none, [.own i, .pv (.int _ h)] => match elemOf E.T t, st.obj i with
    | some (e', td), some (.arr sz e es) =>
      bif Nat.beq e e' && Nat.beq sz td.size && ownB st d i then .bnd [.sl sz] (subR es 0 h) fun es' => appR st d rs i sz e es (speak st d [i]) (speakO st i) es'
      else .no
    | _, _ => .no
  | _, _ => .no
theorem cutS_ok (hT : TOk P E.T) {st : St} {o : Oper} {d : Nat} {vals : List VV} {rs : List (Nat × VV)} (hk : Know st o d vals rs N) {r : Rec} (h : (cutS E st o d vals rs).Has r) : r.pre st ∧ RecOk P N o r := by
  unfold cutS at h
  split at h
  · rename_i t X H i k n hop
    split at h
    · rename_i e' td sz e es he ho
      cases hb : (Nat.beq e e' && Nat.beq sz td.size && ownB st d i) with
      | false => rw [hb] at h; exact h.elim
      | true =>
        rw [hb] at h
        obtain ⟨es', hes, rfl⟩ := h
        simp only [Bool.and_eq_true] at hb
        obtain ⟨⟨b1, b2⟩, b3⟩ := hb
        obtain rfl := Nat.eq_of_beq_eq_true b1
        obtain rfl := Nat.eq_of_beq_eq_true b2
        obtain ⟨tt, h1, h2, h3⟩ := elemOf_spec he
        refine ownUpd_ok hk ho b3 fun st' c L a w hL hrs hobj => ?_
        have hrel := evs_rel hL (hk.evs' hrs)
        rw [hop] at hrel
        obtain ⟨v, u, ee, g1, g2⟩ := RelL.two hrel
        simp [Op.operands] at ee
        obtain ⟨rfl, rfl⟩ := ee
        have e2 := g2.int
        have e1 : a.eval X = (L i).slice := by
          generalize a.eval X = v at g1
          cases g1
          rfl
        obtain ⟨o1, o2, o3⟩ := hL.rel i _ hobj
        obtain ⟨_, uu, zz, hI⟩ := tdOf_spec (hT _ _ h1)
        obtain ⟨_, uu', zz', hI'⟩ := tdOf_spec (hT _ _ h3)
        have hku := hI.k
        rw [h2] at hku
        cases uu <;> simp [tkOf] at hku
        subst hku
        unfold subR at hes
        cases hc : (decide ((0 : Int) ≤ 0) && decide (0 ≤ n) && decide (n ≤ es.length)) with
        | false => rw [hc] at hes; cases hes
        | true =>
          rw [hc] at hes
          simp only [Bool.and_eq_true, decide_eq_true_eq] at hc
          obtain ⟨⟨_, c1⟩, c2⟩ := hc
          cases hes
          simp only [Int.toNat_zero, List.drop_zero]
          cases hν : (L i).ν with
          | true =>
            have hes0 := o2 hν
            subst hes0
            simp at c2
            have hn0 : n = 0 := by omega
            subst hn0
            refine ⟨.slice none 0 0, w, L i, ?_, by simp [LE.slice, hν], ⟨rfl, rfl, rfl, Nat.le_refl _, fun _ _ _ => rfl⟩, (fun h => (by rw [hν] at h; cases h)), fun A' hrd => ⟨(by rw [Lay.set_eq]; exact o1), (by rw [Lay.set_eq]; intro; rfl), (by rw [Lay.set_eq, hν]; intro h; cases h)⟩⟩
            rw [LE.slice, hν] at e1
            simp only [if_true] at e1
            simp [execOp, hop, e1, e2, Instr.sliceAt, Instr.slice, Instr.sliceBounds, Instr.sliceBound, asIntOf, hI.run_under, hI'.run_size]
          | false =>
            obtain ⟨cc, m1, m2, m3, m6, m4, m5⟩ := o3 hν
            refine ⟨.slice (some ⟨(L i).φ, 0, none⟩) n.toNat (L i).κ, w, { L i with len := n.toNat }, ?_, by simp [LE.slice, hν], ⟨rfl, rfl, rfl, Nat.le_refl _, fun _ _ _ => rfl⟩, fun _ => .inl ⟨rfl, rfl⟩, fun A' hrd => ?_⟩
            · rw [LE.slice, hν] at e1
              simp only [Bool.false_eq_true, if_false] at e1
              have hk1 : n ≤ ((L i).κ : Int) := by omega
              simp [execOp, hop, e1, e2, Instr.sliceAt, Instr.slice, Instr.sliceBounds, Instr.sliceBound, asIntOf, hI.run_under, hI'.run_size, c1, hk1]
              intro _
              rfl
            · refine ⟨by rw [Lay.set_eq]; simp; omega, by rw [Lay.set_eq]; simp [hν], fun _ => ⟨cc, by rw [Lay.set_eq]; exact m1, by rw [Lay.set_eq]; exact m2, by rw [Lay.set_eq]; simp; omega, by rw [Lay.set_eq]; exact m6, fun x hx => m4 x (List.mem_of_mem_take hx), fun k x hk' j p hj => ?_⟩⟩
              rw [List.getElem?_take] at hk'
              split at hk'
              · exact hrd _ _ (m5 k x hk' j p hj)
              · cases hk'
    · exact h.elim
  · exact h.elim
/-! Capacity of nil; parts of nil. -/
def capS (E : Env) (st : St) (o : Oper) (d : Nat) (vals : List VV) (rs : List (Nat × VV)) : Stp :=
  match o.op, vals with
  | .call ⟨.builtin .cap, _, ts⟩, [.pv (.sl (some true) _ [])] => match ts.toList with
    | [t] => match E.T t with
      | some ⟨.slice _, _, _, _⟩ => .does { rs, ro := [], ws := [(d, .pv (.int .i64 0))], ab := slNone st d }
      | _ => .no
    | _ => .no
  | .slice t _ lo hi none, .pv (.sl (some true) sz []) :: vs => match elemOf E.T t, bndsOf lo hi vs 0 with
    | some (_, td), some (l, h) => .val rs [] d (slNone st d) [] (intB (decide (l = 0) && decide (h = 0))) fun _ => .pv (.sl (some true) sz [])
    | _, _ => .no
  | _, _ => .no
theorem capS_ok (hT : TOk P E.T) {st : St} {o : Oper} {d : Nat} {vals : List VV} {rs : List (Nat × VV)} (hk : Know st o d vals rs N) {r : Rec} (h : (capS E st o d vals rs).Has r) : r.pre st ∧ RecOk P N o r := by
  unfold capS at h
  split at h
  · rename_i as ts sz hop
    split at h
    · rename_i t hts
      split at h
      · rename_i e s b z ht
        refine StpDoes_ok hk.hd hk.hN hk.get (fun st' c L a w hrs hL => ?_) h
        have hrel := evs_rel hL (hk.evs' hrs)
        rw [hop] at hrel
        have hops : (Op.call ⟨.builtin .cap, as, ts⟩).operands.toList = as.toList := by simp [Op.operands, Call.operands]
        rw [hops] at hrel
        obtain ⟨v, ee, g1⟩ := RelL.one hrel
        cases g1 with
        | pv g1 =>
        have := nil_slice g1
        subst this
        have he : as.map a.eval = #[.slice none 0 0] := by
          apply Array.ext'
          simpa using ee
        have hts' : ts = #[t] := by
          apply Array.ext'
          simpa using hts
        subst hts'
        obtain ⟨_, uu, zz, hI⟩ := tdOf_spec (hT _ _ ht)
        have hku := hI.k
        cases uu <;> simp [tkOf] at hku
        refine ⟨.int .i64 0, ?_, .pv (.int _ _)⟩
        simp [execOp, hop, resolve, invoke, builtin, he, Builtin.cap_, hI.run_under, goInt]
      · exact h.elim
    · exact h.elim
  · rename_i t X lo hi sz vs hop
    split at h
    · rename_i e td l hh he hbd
      obtain ⟨tt, h1, h2, h3⟩ := elemOf_spec he
      refine StpVal_ok hk.hd hk.hN hk.get (by simp) (fun y hy st' c L a w hrs hro hL => ?_) h
      unfold intB at hy
      cases hc : (decide (l = 0) && decide (hh = 0)) with
      | false => rw [hc] at hy; cases hy
      | true =>
        simp only [Bool.and_eq_true, decide_eq_true_eq] at hc
        obtain ⟨rfl, rfl⟩ := hc
        have hrel := evs_rel hL (hk.evs' hrs)
        rw [hop] at hrel
        have hops : (Op.slice t X lo hi none).operands.toList = X :: (lo.toList ++ hi.toList) := by
          cases lo <;> cases hi <;> simp [Op.operands]
        rw [hops, List.map_cons] at hrel
        have g1 : RelV w (st'.mut c L) L (.pv (.sl (some true) sz [])) (a.eval X) := by simpa using hrel.2 0 _ rfl
        have g2 : RelL w (st'.mut c L) L vs ((lo.toList ++ hi.toList).map a.eval) := ⟨by have := hrel.1; simpa using this, fun i x hi => by simpa using hrel.2 (i + 1) x (by simpa using hi)⟩
        obtain ⟨q1, q2⟩ := bndsOf_vals hbd g2
        cases g1 with
        | pv g1 =>
        have hX := nil_slice g1
        obtain ⟨_, uu, zz, hI⟩ := tdOf_spec (hT _ _ h1)
        obtain ⟨_, uu', zz', hI'⟩ := tdOf_spec (hT _ _ h3)
        have hku := hI.k
        rw [h2] at hku
        cases uu <;> simp [tkOf] at hku
        subst hku
        refine ⟨.slice none 0 0, ?_, .pv (.nils (by simp))⟩
        have hrun : (Instr.sliceAt t (.slice none 0 0) (lo.map a.eval) (hi.map a.eval) none).run P w = .ok (.slice none 0 0) w := by
          rcases q1 with ⟨k1, q1⟩ | ⟨q1, _⟩ <;> rcases q2 with ⟨k2, q2⟩ | ⟨q2, _⟩ <;>
            simp [q1, q2, Instr.sliceAt, Instr.slice, Instr.sliceBounds, Instr.sliceBound, asIntOf, hI.run_under, hI'.run_size]
        simp only [execOp, hop, hX, Sem.run_bind, Option.map_none, hrun, Result.andThen_ok, Sem.run_pure]
    · exact h.elim
  · exact h.elim
end Go.KV
namespace Go.KV
variable {P : Program} {T : TEnv} {N : Nat} {E : Env}
/-! Arrays at an index that is not known. -/
def inN (n : Nat) (i : Int) : Option Unit := bif decide (0 ≤ i) && decide (i < n) then some () else none
def ctOfPV : PV → CT
  | .int k _ => .int k
  | .bool _ => .bool
  | .str _ => .str
  | .sl _ n _ => .sl n
  | _ => .raw
def arrD (sy : List Nat) (E : Env) (st : St) (o : Oper) (d : Nat) (vals : List VV) (rs : List (Nat × VV)) : Stp :=
  match o.op, vals with
  | .indexAddr t _ _, [x, .pv (.int _ i)] => bif sy.any (Nat.beq d) then (match E.T t with
    | some ⟨.arr n e, _, _, _⟩ => match E.T e with
      | some td => match x with
        | .ptr id off => .val rs [] d (slNone st d) [] (inN n i) fun _ => .ptrE id td.size i.toNat off
        | .prow ps => .val rs [] d (slNone st d) (E.ct e) (nthR (E.ct e) (chunk td.size n ps) i) fun y => .prow (encs (E.ct e) y)
        | _ => .no
      | none => .no
    | _ => .no) else .no
  | .load t _, [.ptrE id sz i f] => match E.T t, st.obj id with
    | some td, some (.box vs) => match mapO unpv vs with
      | some ps => bif Nat.beq (E.ct t).length td.size && (td.k.agg || Nat.beq td.size 1) then
          .val rs [(id, .box vs)] d (slNone st d) (E.ct t) (decs (E.ct t) ((ps.drop (i * sz + f)).take td.size)) fun y => vsOf td.k.agg (encs (E.ct t) y) else .no
      | none => .no
    | _, _ => .no
  | _, _ => .no
theorem prow_drop {w : World} {A : Nat → Prop} {L : Lay} {ps qs : List PV} {a : Addr} {us : Nat → Value} {k : Nat} (hc : ∀ j p, ps[j]? = some p → w.cell? (a.add j) = some (us j) ∧ ¬ A a.block) (hr : ∀ j p, ps[j]? = some p → Reads w A p (us j))
    (hq : All2 Dq ((ps.drop k).take qs.length) qs) : RelV w A L (.prow qs) (.pointer (some (a.add k))) := by
  refine .prow (a.add k) (fun j => us (k + j)) (fun j p hj => ?_) (fun j p hj => ?_)
  · obtain ⟨q, h1, h2⟩ := hq.get j p hj
    obtain ⟨h3, h4⟩ := take_lt h1
    rw [List.getElem?_drop] at h4
    obtain ⟨g1, g2⟩ := hc _ _ h4
    rw [add_add, add_block]
    exact ⟨g1, g2⟩
  · obtain ⟨q, h1, h2⟩ := hq.get j p hj
    obtain ⟨h3, h4⟩ := take_lt h1
    rw [List.getElem?_drop] at h4
    exact h2.le _ _ _ (hr _ _ h4)
theorem box_cell {w : World} {A : Nat → Prop} {L : Lay} {id : Nat} {vs : List VV} {ps : List PV} (ho : ObjRel w A L id (.box vs)) (hp : mapO unpv vs = some ps) :
    ∃ c e, w.heap[(L id).φ]? = some (.cells c e (0, 0)) ∧ c.size = ps.length ∧ ∀ i p, ps[i]? = some p → Reads w A p (c.getD i undef) := by
  obtain ⟨c, e, h1, h2, h3⟩ := ho
  obtain ⟨q1, q2⟩ := mapO_spec hp
  refine ⟨c, e, h1, by omega, fun i p hi => ?_⟩
  have := h3 i _ (unpv_spec hp i p hi)
  cases this with
  | pv h => exact h
theorem arrD_ok (hT : TOk P E.T) {sy : List Nat} {st : St} {o : Oper} {d : Nat} {vals : List VV} {rs : List (Nat × VV)} (hk : Know st o d vals rs N) {r : Rec} (h : (arrD sy E st o d vals rs).Has r) : r.pre st ∧ RecOk P N o r := by
  unfold arrD at h
  split at h
  · rename_i t X Y x k i hop
    cases hs : sy.any (Nat.beq d) with
    | false => rw [hs] at h; exact h.elim
    | true =>
      rw [hs] at h
      simp only [cond_true] at h
      split at h
      · rename_i n e _ _ _ ht
        split at h
        · rename_i td he
          split at h
          · rename_i id off
            refine StpVal_ok hk.hd hk.hN hk.get (by simp) (fun y hy st' c L a w hrs hro hL => ?_) h
            unfold inN at hy
            cases hc : (decide (0 ≤ i) && decide (i < (n : Int))) with
            | false => rw [hc] at hy; cases hy
            | true =>
              simp only [Bool.and_eq_true, decide_eq_true_eq] at hc
              have hrel := evs_rel hL (hk.evs' hrs)
              rw [hop] at hrel
              obtain ⟨v, u, ee, g1, g2⟩ := RelL.two hrel
              simp [Op.operands] at ee
              obtain ⟨rfl, rfl⟩ := ee
              have e2 := g2.int
              have e1 : a.eval X = .pointer (some ⟨(L id).φ, off, none⟩) := by
                generalize a.eval X = v at g1
                cases g1
                rfl
              have r1 := indexAt_arr (P := P) (w := w) hT ht rfl he (a := ⟨(L id).φ, off, none⟩) (k := k) hc
              rw [plain_add, Nat.add_comm] at r1
              refine ⟨_, ?_, .ptrE id td.size i.toNat off⟩
              simp only [execOp, hop, e1, e2, Sem.run_bind, r1, Result.andThen_ok, Sem.run_pure]
          · rename_i ps
            refine StpVal_ok hk.hd hk.hN hk.get (by simp) (fun y hy st' c L a w hrs hro hL => ?_) h
            have hrel := evs_rel hL (hk.evs' hrs)
            rw [hop] at hrel
            obtain ⟨v, u, ee, g1, g2⟩ := RelL.two hrel
            simp [Op.operands] at ee
            obtain ⟨rfl, rfl⟩ := ee
            have e2 := g2.int
            cases i with
            | negSucc n => cases hy
            | ofNat m =>
              obtain ⟨row, h1, h2, h3⟩ := nthN_some hy
              obtain ⟨h4, h5⟩ := chunk_get h1
              generalize hv : a.eval X = v at g1
              cases g1 with
              | prow ad us hc hr =>
                have r1 := indexAt_arr (P := P) (w := w) hT ht rfl he (a := ad) (k := k) (i := Int.ofNat m) ⟨Int.natCast_nonneg m, by simpa using h4⟩
                refine ⟨_, ?_, prow_drop (k := (Int.ofNat m).toNat * td.size) hc hr ?_⟩
                · simp only [execOp, hop, hv, e2, Sem.run_bind, r1, Result.andThen_ok, Sem.run_pure]
                · subst h5
                  have hle : (encs (E.ct e) y).length ≤ td.size := by
                    rw [encs_length, ← h3]
                    simp
                    omega
                  have : (List.drop ((Int.ofNat m).toNat * td.size) ps).take (encs (E.ct e) y).length = List.take td.size (List.drop (m * td.size) ps) := by
                    have hl : (List.take td.size (List.drop (m * td.size) ps)).length = (encs (E.ct e) y).length := by rw [encs_length]; exact h3
                    rw [List.length_take] at hl
                    show List.take _ (List.drop (m * td.size) ps) = _
                    rcases Nat.le_total td.size (List.drop (m * td.size) ps).length with h6 | h6
                    · rw [Nat.min_eq_left h6] at hl; rw [← hl]
                    · rw [Nat.min_eq_right h6] at hl
                      rw [List.take_of_length_le (by omega), List.take_of_length_le (by omega)]
                  rw [this]
                  exact h2
          · exact h.elim
        · exact h.elim
      · exact h.elim
  · rename_i t X id sz i f hop
    split at h
    · rename_i td vs ht ho
      split at h
      · rename_i ps hps
        cases hb : (Nat.beq (E.ct t).length td.size && (td.k.agg || Nat.beq td.size 1)) with
        | false => rw [hb] at h; exact h.elim
        | true =>
          rw [hb] at h
          simp only [Bool.and_eq_true, Bool.or_eq_true] at hb
          have b1 := Nat.eq_of_beq_eq_true hb.1
          refine StpVal_ok hk.hd hk.hN hk.get (by simpa using ho) (fun y hy st' c L a w hrs hro hL => ?_) h
          have hrel := evs_rel hL (hk.evs' hrs)
          rw [hop] at hrel
          obtain ⟨v, ee, g1⟩ := RelL.one hrel
          simp [Op.operands] at ee
          subst ee
          have e1 : a.eval X = .pointer (some ⟨(L id).φ, i * sz + f, none⟩) := by
            generalize a.eval X = v at g1
            cases g1
            rfl
          obtain ⟨cc, e, m1, m2, m3⟩ := box_cell (hL.rel id _ (hro (id, .box vs) (by simp))) hps
          obtain ⟨_, uu, zz, hI⟩ := tdOf_spec (hT _ _ ht)
          have h2 := decs_le hy
          have hl : ((ps.drop (i * sz + f)).take td.size).length = td.size := by rw [h2.length, encs_length, b1]
          rw [List.length_take, List.length_drop] at hl
          have hcells : ∀ j p, (encs (E.ct t) y)[j]? = some p → Reads w (st'.mut c L) p (cc.getD (i * sz + f + j) undef) := by
            intro j p hj
            obtain ⟨q, h5, h6⟩ := h2.get j p hj
            obtain ⟨h7, h8⟩ := take_lt h5
            rw [List.getElem?_drop] at h8
            exact h6.le _ _ _ (m3 _ _ h8)
          cases hag : td.k.agg with
          | true =>
            have r1 := run_loadVar (w := w) hI ⟨(L id).φ, i * sz + f, none⟩ (fun j => cc.getD (i * sz + f + j) undef) hag (fun j hj => by rw [plain_add]; exact cell_at m1 _ (by omega))
            refine ⟨_, by simp only [execOp, hop, e1, Sem.run_bind, Instr.loadAt, Instr.sureAddr, Sem.run_pure, r1, Result.andThen_ok]; rfl, ?_⟩
            simp only [vsOf, cond_true]
            refine .agg _ (by simp [encs_length, b1]) fun j x hj => ?_
            rw [List.getElem?_map, Option.map_eq_some_iff] at hj
            obtain ⟨p, hp, rfl⟩ := hj
            have hjl : j < td.size := by
              have := (List.getElem?_eq_some_iff.1 hp).1
              rw [encs_length] at this
              omega
            have := hcells j p hp
            simp only [Array.getD_eq_getD_getElem?, List.getElem?_toArray, List.getElem?_map, List.getElem?_range hjl, Option.map_some, Option.getD_some]
            rw [Array.getD_eq_getD_getElem?] at this
            exact .pv this
          | false =>
            have hs1 : td.size = 1 := by
              rcases hb.2 with h5 | h5
              · rw [hag] at h5; cases h5
              · exact Nat.eq_of_beq_eq_true h5
            have r1 := run_loadVar1 (w := w) hI ⟨(L id).φ, i * sz + f, none⟩ (cc.getD (i * sz + f) undef) hag (cell_at m1 _ (by omega))
            refine ⟨_, by simp only [execOp, hop, e1, Sem.run_bind, Instr.loadAt, Instr.sureAddr, Sem.run_pure, r1, Result.andThen_ok]; rfl, ?_⟩
            have hel : (encs (E.ct t) y).length = 1 := by rw [encs_length]; omega
            match hE : encs (E.ct t) y, hel with
            | [p], _ =>
              simp only [vsOf, cond_false]
              have := hcells 0 p (by rw [hE]; rfl)
              exact .pv (by simpa using this)
      · exact h.elim
    · exact h.elim
  · exact h.elim
def arrStore (E : Env) (st : St) (o : Oper) (vals : List VV) (rs : List (Nat × VV)) : Stp :=
  match o.op, vals with
  | .store t _ _, [.ptrE id sz i f, x] => match E.T t, st.obj id, mapO unpv (cellsV x) with
    | some td, some (.box vs), some qs => match mapO unpv vs with
      | some ps => bif Nat.beq qs.length td.size && Nat.blt 0 td.size && !isAny x then
          .bnd (ps.map ctOfPV) (decs (ps.map ctOfPV) (patch ps (i * sz + f) qs)) fun y => { rs, ro := [(id, .box vs)], wo := [(id, .box ((encs (ps.map ctOfPV) y).map .pv))] }
        else .no
      | none => .no
    | _, _, _ => .no
  | _, _ => .no
theorem arrStore_ok (hT : TOk P E.T) {st : St} {o : Oper} {vals : List VV} {rs : List (Nat × VV)} (hd : o.dst = none) (hev : evs st o.op.operands.toList = some vals)
    (hrs : rsOf st (tmpsOf o.op.operands.toList) = some rs) {r : Rec} (h : (arrStore E st o vals rs).Has r) : r.pre st ∧ RecOk P N o r := by
  unfold arrStore at h
  split at h
  · rename_i t X Y id sz i f x hop
    split at h
    · rename_i td vs qs ht ho hq
      split at h
      · rename_i ps hps
        cases hb : (Nat.beq qs.length td.size && Nat.blt 0 td.size && !isAny x) with
        | false => rw [hb] at h; exact h.elim
        | true =>
          rw [hb] at h
          simp only [Bool.and_eq_true, Bool.not_eq_true'] at hb
          obtain ⟨⟨b1, b2⟩, b3⟩ := hb
          have b1 := Nat.eq_of_beq_eq_true b1
          have b2 : 0 < td.size := Nat.le_of_ble_eq_true b2
          obtain ⟨y, hy, rfl⟩ := h
          obtain ⟨hr1, hr2⟩ := rsOf_spec hrs
          refine ⟨⟨hr1, by simpa using ho, by simp, by simp, by simp, by simp, by simp⟩, ?_⟩
          intro st' c a w K Q hp hcN ⟨L, hL⟩ hK
          have hrel := evs_rel hL (by rw [evs_local (hr2 st' hp.rs)]; exact hev)
          rw [hop] at hrel
          obtain ⟨v, u, ee, g1, g2⟩ := RelL.two hrel
          simp [Op.operands] at ee
          obtain ⟨rfl, rfl⟩ := ee
          have hobj := hp.ro (id, .box vs) (by simp [Rec.bare])
          obtain ⟨cc, e, m1, m2, m3⟩ := box_cell (hL.rel id _ hobj) hps
          have h2 := decs_le hy
          have hpl : (patch ps (i * sz + f) qs).length = ps.length := by rw [h2.length, encs_length, List.length_map]
          have hfit : i * sz + f + qs.length ≤ ps.length := by
            simp only [patch, List.length_append, List.length_take, List.length_drop] at hpl
            omega
          have e1 : a.eval X = .pointer (some ⟨(L id).φ, i * sz + f, none⟩) := by
            generalize a.eval X = v at g1
            cases g1
            rfl
          obtain ⟨c1, c2⟩ := cellsV_rel g2 b3
          obtain ⟨q1, q2⟩ := mapO_spec hq
          have hcl : (a.eval Y).cells.size = td.size := by rw [c1, ← b1, q1]
          have hcell : ∀ j p, qs[j]? = some p → Reads w (st'.mut c L) p ((a.eval Y).cells.getD j undef) := by
            intro j p hj
            have := c2 j _ (unpv_spec hq j p hj)
            cases this with
            | pv h => exact h
          have hone : ∀ u ∈ (a.eval Y).cells.toList, u.oneCell' = true := by
            intro u hu
            obtain ⟨j, hj, rfl⟩ := List.mem_iff_getElem.1 hu
            have hjl : j < qs.length := by simp at hj; omega
            have := reads_one (hcell j _ (List.getElem?_eq_getElem hjl))
            simp at hj
            simpa [Array.getD_eq_getD_getElem?, hj] using this
          have hrun := store_run (P := P) hT ht m1 (v := a.eval Y) (off := i * sz + f) hcl (by omega) hone
          unfold Oper.wp
          have hex : (execOp a.eval o).run P w = .ok .skip (putRow w (L id).φ (writeAt cc (i * sz + f) (a.eval Y).cells.toList) e) := by
            simp only [execOp, hop, e1, Sem.run_bind, hrun, Result.andThen_ok, Sem.run_pure]
          rw [hex, Oper.upon_skip, hd]
          refine hK _ _ ⟨L, ?_⟩
          refine hL.change (o' := .box ((encs (ps.map ctOfPV) y).map .pv)) hobj rfl rfl rfl rfl (putRow_size ..) (fun b hb => putRow_ne _ _ _ _ _ hb) (fun A' hr hrd => ?_)
          refine ⟨writeAt cc (i * sz + f) (a.eval Y).cells.toList, e, putRow_heap _ _ _ _ (Array.getElem?_eq_some_iff.1 m1).1, by rw [writeAt_size]; simp [encs_length, m2], fun j x hj => ?_⟩
          rw [List.getElem?_map, Option.map_eq_some_iff] at hj
          obtain ⟨p, hp', rfl⟩ := hj
          obtain ⟨q, h5, h6⟩ := h2.get j p hp'
          refine .pv (h6.le _ _ _ ?_)
          have hwl : i * sz + f + (a.eval Y).cells.toList.length ≤ cc.size := by simp; omega
          rw [writeAt_get _ _ _ _ hwl]
          unfold patch at h5
          by_cases hjf : j < i * sz + f
          · rw [List.getElem?_append_left (by simp; omega), List.getElem?_take, if_pos hjf] at h5
            rw [if_neg (by omega)]
            exact hrd _ _ (m3 _ _ h5)
          · rw [List.getElem?_append_right (by simp; omega)] at h5
            have hmin : (List.take (i * sz + f) ps).length = i * sz + f := by simp; omega
            rw [hmin] at h5
            by_cases hjq : j - (i * sz + f) < qs.length
            · rw [List.getElem?_append_left hjq] at h5
              rw [if_pos (by simp; omega)]
              have := hcell _ _ h5
              have e2 : (a.eval Y).cells.toList.getD (j - (i * sz + f)) undef = (a.eval Y).cells.getD (j - (i * sz + f)) undef := by
                simp [Array.getD_eq_getD_getElem?, List.getD_eq_getElem?_getD]
              rw [e2]
              exact hrd _ _ this
            · rw [List.getElem?_append_right (by omega), List.getElem?_drop] at h5
              rw [show i * sz + f + qs.length + (j - (i * sz + f) - qs.length) = j by omega] at h5
              rw [if_neg (by simp; omega)]
              exact hrd _ _ (m3 _ _ h5)
      · exact h.elim
    · exact h.elim
  · exact h.elim
end Go.KV
namespace Go.KV
variable {P : Program} {T : TEnv} {N : Nat} {E : Env}
/-! Variables that nothing writes. -/
def glbS (gl : List (Nat × List PV)) (E : Env) (st : St) (o : Oper) (d : Nat) (vals : List VV) (rs : List (Nat × VV)) : Stp :=
  match o.op, vals with
  | .indexAddr t (.global g) _, [_, .pv (.int _ i)] => match E.T t with
    | some ⟨.arr n e, _, _, _⟩ => match E.T e, look g gl with
      | some td, some ps => .val rs [] d (slNone st d) (E.ct e) (nthR (E.ct e) (chunk td.size n ps) i) fun y => .prow (encs (E.ct e) y)
      | _, _ => .no
    | _ => .no
  | _, _ => .no
theorem glob_prow {c : Ctx} {w : World} {A : Nat → Prop} (h : GlobOk c w A) {g : Nat} {ps : List PV} (hg : look g c.gl = some ps) :
    (∀ j p, ps[j]? = some p → w.cell? ((⟨g, 0, none⟩ : Addr).add j) = some ((w.cell? ⟨g, j, none⟩).getD undef) ∧ ¬ A g) ∧ ∀ j p, ps[j]? = some p → Reads w A p ((w.cell? ⟨g, j, none⟩).getD undef) := by
  constructor
  · intro j p hj
    obtain ⟨v, h1, h2, h3⟩ := h g ps hg j p hj
    rw [plain_add, Nat.zero_add, h1]
    exact ⟨rfl, h2⟩
  · intro j p hj
    obtain ⟨v, h1, h2, h3⟩ := h g ps hg j p hj
    rw [h1]
    exact h3
theorem glbS_ok (hT : TOk P E.T) {gl : List (Nat × List PV)} (hgl : ∀ g ps, look g gl = some ps → look g (glT P) = some ps) {st : St} {o : Oper} {d : Nat} {vals : List VV} {rs : List (Nat × VV)} (hk : Know st o d vals rs N) {r : Rec} (h : (glbS gl E st o d vals rs).Has r) : r.pre st ∧ RecOk P N o r := by
  unfold glbS at h
  split at h
  · rename_i t g Y x k i hop
    split at h
    · rename_i n e _ _ _ ht
      split at h
      · rename_i td ps he hg
        obtain ⟨y, hy, rfl⟩ := h
        refine ⟨⟨hk.get, by simp, by simp, by simp, fun hab p hp => by simp at hp; subst hp; exact slNone_spec hab, by simp, by simp⟩, ?_⟩
        intro st' c a w K Q hpre hcN ⟨L, hL⟩ hK
        have hrel := evs_rel hL (hk.evs' hpre.rs)
        rw [hop] at hrel
        obtain ⟨v, u, ee, g1, g2⟩ := RelL.two hrel
        simp [Op.operands] at ee
        obtain ⟨rfl, rfl⟩ := ee
        have e2 := g2.int
        obtain ⟨q1, q2⟩ := glob_prow hL.glob (g := g) (ps := ps) (by rw [hcN.2]; exact hgl g ps hg)
        cases i with
        | negSucc n => cases hy
        | ofNat m =>
          obtain ⟨row, h1, h2, h3⟩ := nthN_some hy
          obtain ⟨h4, h5⟩ := chunk_get h1
          have r1 := indexAt_arr (P := P) (w := w) hT ht rfl he (a := ⟨g, 0, none⟩) (k := k) (i := Int.ofNat m) ⟨Int.natCast_nonneg m, by simpa using h4⟩
          have hrow := prow_drop (L := L) (k := (Int.ofNat m).toNat * td.size) (qs := encs (E.ct e) y) q1 q2 (by
            subst h5
            have hle : (encs (E.ct e) y).length ≤ td.size := by
              rw [encs_length, ← h3]
              simp
              omega
            have : (List.drop ((Int.ofNat m).toNat * td.size) ps).take (encs (E.ct e) y).length = List.take td.size (List.drop (m * td.size) ps) := by
              have hl : (List.take td.size (List.drop (m * td.size) ps)).length = (encs (E.ct e) y).length := by rw [encs_length]; exact h3
              rw [List.length_take] at hl
              show List.take _ (List.drop (m * td.size) ps) = _
              rcases Nat.le_total td.size (List.drop (m * td.size) ps).length with h6 | h6
              · rw [Nat.min_eq_left h6] at hl; rw [← hl]
              · rw [Nat.min_eq_right h6] at hl
                rw [List.take_of_length_le (by omega), List.take_of_length_le (by omega)]
            rw [this]
            exact h2)
          unfold Oper.wp
          have e1 : a.eval (.global g) = .pointer (some ⟨g, 0, none⟩) := rfl
          have hex : (execOp a.eval o).run P w = .ok (.value (.pointer (some ((⟨g, 0, none⟩ : Addr).add ((Int.ofNat m).toNat * td.size))))) w := by
            simp only [execOp, hop, e1, e2, Sem.run_bind, r1, Result.andThen_ok, Sem.run_pure]
          rw [hex, Oper.upon_value, hk.hd]
          exact hK _ _ ⟨L, hL.put hrow (by rw [hcN.1]; exact hk.hN)⟩
      · exact h.elim
    · exact h.elim
  · exact h.elim
/-! Zeros appended to nil. -/
def zapR (bytes : Nat) (z : List PV) (n : Int) : Option (List (List PV)) :=
  bif decide (0 < n) && decide (n * bytes ≤ 140737488355328) then some (zrows z n.toNat) else none
def appZ (E : Env) (st : St) (o : Oper) (d : Nat) (vals : List VV) (rs : List (Nat × VV)) : Stp :=
  match o.op, vals with
  | .call ⟨.builtin .append, as, ts⟩, [.pv (.sl (some true) _ []), .pv (.int _ n)] => match ts.toList with
    | [t, t'] => match elemOf E.T t, E.T t' with
      | some (e, td), some ⟨.int _, _, _, _⟩ =>
        bif Nat.beq as.size 2 && Nat.beq td.zero.length td.size && Nat.blt 0 td.size && Nat.blt 0 td.bytes && objNone st d && st.soleB d [] [] && Nat.blt d impBase then
          .bnd [.sl td.size] (zapR td.bytes td.zero n) fun es' => { rs, ro := [], no := [d], ws := [(d, .own d)], wo := [(d, .arr td.size e es')], ab := slNone st d }
        else .no
      | _, _ => .no
    | _ => .no
  | _, _ => .no
theorem append_zeros {w : World} {t u ty e : TypeId} {i : TypeInfo} {z : Value} {k : IntKind} (ht : P.underlying t = some (.slice e)) (hu : P.underlying u = some (.int k)) (hi : P.info? e = some i) (hz : i.zero = some z)
    {j : IntKind} {n : Nat} (h0 : 0 < n) (h63 : (n : Int) ≤ 9223372036854775807) (h48 : n * i.bytes ≤ 281474976710656) (hb : 0 < i.bytes) (hs : 0 < i.size) :
    (Builtin.append_ #[t, u] ty #[.slice none 0 0, .int j (n : Int)]).run P w =
      .ok (.slice (some ⟨w.heap.size, 0, none⟩) n (grownCap w n 0 e)) (w.drew.alloc (.cells (Builtin.zeroCells z.cells n ++ Builtin.zeroCells z.cells (grownCap w n 0 e - n)) e)) := by
  have hn : n ≠ 0 := by omega
  have h63' : ¬ (9223372036854775807 < (n : Int)) := by omega
  have h48' : ¬ (281474976710656 < Builtin.nextslicecap n 0 * i.bytes) := by rw [nextslicecap_zero h0]; omega
  have hwr : IntKind.i64.wrap (n : Int) = n := by rw [IntKind.wrap_i64]; omega
  have hnn : ¬ ((n : Int) < 0) := by omega
  have h4 : ¬ (281474976710656 < (n : Int) * (i.bytes : Int)) := by
    have : ((n * i.bytes : Nat) : Int) ≤ 281474976710656 := by omega
    rw [Int.natCast_mul] at this
    omega
  have hns : ¬ (n = 0 ∨ i.size = 0) := by omega
  simp [Builtin.append_, run_underlying ht, run_underlying hu, sizeOf, typeInfo, zeroValue, hi, hz, asInt, asIntOf, hwr, hnn, h4, hn, h63', h48', Question.forced, run_firstCells_none, newRow, grownCap]
  intro h9
  rcases Nat.mul_eq_zero.1 h9 with h9 | h9 <;> omega
theorem zero_at {z : Value} {m s : Nat} (hs : z.cells.size = s) {j : Nat} (h : j < m * s) : (Builtin.zeroCells z.cells m).getD j undef = z.cells.getD (j % s) undef := by
  have hp : 0 < s := by
    rcases Nat.eq_zero_or_pos s with h0 | h0
    · rw [h0] at h; simp at h
    · exact h0
  simp only [Builtin.zeroCells, Array.getD_eq_getD_getElem?, Array.getElem?_map, hs]
  rw [Array.getElem?_eq_getElem (by simpa using h)]
  have hm := Nat.mod_lt j hp
  simp only [Array.getElem_range, Option.map_some, Option.getD_some]
  rw [getElem!_pos z.cells (j % s) (by omega), Array.getElem?_eq_getElem (by omega)]
  rfl
theorem appZ_ok (hT : TOk P E.T) {st : St} {o : Oper} {d : Nat} {vals : List VV} {rs : List (Nat × VV)} (hk : Know st o d vals rs N) {r : Rec} (h : (appZ E st o d vals rs).Has r) : r.pre st ∧ RecOk P N o r := by
  unfold appZ at h
  split at h
  · rename_i as ts sz0 k n hop
    split at h
    · rename_i t t' hts
      split at h
      · rename_i e td kk _ _ _ he ht'
        obtain ⟨tt, h1, h2, h3⟩ := elemOf_spec he
        cases hb : (Nat.beq as.size 2 && Nat.beq td.zero.length td.size && Nat.blt 0 td.size && Nat.blt 0 td.bytes && objNone st d && st.soleB d [] [] && Nat.blt d impBase) with
        | false => rw [hb] at h; exact h.elim
        | true =>
          rw [hb] at h
          obtain ⟨es', hes, rfl⟩ := h
          simp only [Bool.and_eq_true] at hb
          obtain ⟨⟨⟨⟨⟨⟨b2, b6⟩, b7⟩, b8⟩, b9⟩, b10⟩, b11⟩ := hb
          have b6 := Nat.eq_of_beq_eq_true b6
          have b7 : 0 < td.size := Nat.le_of_ble_eq_true b7
          have b8 : 0 < td.bytes := Nat.le_of_ble_eq_true b8
          have hdi : d < impBase := Nat.le_of_ble_eq_true b11
          refine ⟨⟨hk.get, by simp, fun j hj => by simp at hj; subst hj; exact ⟨objNone_spec b9, St.soleB_spec b10⟩, by simp, fun hab p hp => by simp at hp; subst hp; exact slNone_spec hab, by simp, by simp⟩, ?_⟩
          intro st' c a w K Q hpre hcN ⟨L, hL⟩ hK
          obtain ⟨hn, hs⟩ := hpre.no d (by simp [Rec.bare])
          have hrel := evs_rel hL (hk.evs' hpre.rs)
          rw [hop] at hrel
          have hops : (Op.call ⟨.builtin .append, as, ts⟩).operands.toList = as.toList := by simp [Op.operands, Call.operands]
          rw [hops] at hrel
          obtain ⟨v, u, ee, g1, g2⟩ := RelL.two hrel
          cases g1 with
          | pv g1 =>
          have hv := nil_slice g1
          subst hv
          have hu := g2.int
          subst hu
          unfold zapR at hes
          cases hc : (decide (0 < n) && decide (n * (td.bytes : Int) ≤ 140737488355328)) with
          | false => rw [hc] at hes; cases hes
          | true =>
          rw [hc] at hes
          simp only [Bool.and_eq_true, decide_eq_true_eq] at hc
          obtain ⟨c1, c2⟩ := hc
          cases hes
          obtain ⟨m, rfl⟩ := Int.eq_ofNat_of_zero_le (Int.le_of_lt c1)
          have hm : 0 < m := by omega
          have hmb : m * td.bytes ≤ 140737488355328 := by
            have e9 : ((m * td.bytes : Nat) : Int) = (m : Int) * (td.bytes : Int) := Int.natCast_mul m td.bytes
            have c3 : (m : Int) * (td.bytes : Int) ≤ 140737488355328 := c2
            omega
          have hm47 : m ≤ 140737488355328 := Nat.le_trans (Nat.le_mul_of_pos_right _ b8) hmb
          obtain ⟨_, uu, zz, hI⟩ := tdOf_spec (hT _ _ h1)
          obtain ⟨i2, uu2, z2, hI2⟩ := tdOf_spec (hT _ _ h3)
          obtain ⟨_, uu3, zz3, hI3⟩ := tdOf_spec (hT _ _ ht')
          have hku := hI.k
          rw [h2] at hku
          cases uu <;> simp [tkOf] at hku
          have hku := hku.symm
          subst hku
          have hku3 := hI3.k
          cases uu3 <;> simp only [tkOf, reduceCtorEq] at hku3
          have hts' : ts = #[t, t'] := two_toList hts
          have hrun := fun ty => append_zeros (P := P) (w := w) (ty := ty) hI.under hI3.under hI2.info hI2.zero (j := k) hm (by omega) (by rw [hI2.bytes]; omega) (by rw [hI2.bytes]; exact b8) (by rw [hI2.size]; exact b7)
          have hargs : as.map a.eval = #[.slice none 0 0, .int k (m : Int)] := by
            apply Array.ext'
            simpa using ee
          have hex := hrun o.type
          generalize hG : grownCap w m 0 e = G at hex
          have hge : m ≤ G := by rw [← hG]; exact grownCap_ge _ _ _ _
          have hle : G ≤ 9223372036854775807 := by
            have := grownCap_le_maxLen w m 0 e (by simp only [maxLen]; omega)
            rw [hG] at this
            simp only [maxLen] at this
            omega
          have hex2 : (execOp a.eval o).run P w = .ok (.value (.slice (some ⟨w.heap.size, 0, none⟩) m G)) (w.drew.alloc (.cells (Builtin.zeroCells z2.cells m ++ Builtin.zeroCells z2.cells (G - m)) e)) := by
            simp only [execOp, hop, resolve, invoke, builtin, Sem.run_bind, Sem.run_pure, Result.andThen_ok, hargs, hts', hex]
          have hz2 : z2.cells.size = td.size := by rw [hI2.zsize, b6]
          have hdr : HoldsL c st' L a w.drew := hL.grow rfl rfl rfl (Nat.le_refl _) (fun _ _ => rfl)
          have hnew := HoldsL.new (id := d) (O := .cells (Builtin.zeroCells z2.cells m ++ Builtin.zeroCells z2.cells (G - m)) e) (o := .arr td.size e (zrows td.zero m)) (ℓ := { φ := w.heap.size, κ := G, len := m }) hdr hdi hn (fun k x hk => hs.1 k x hk (by simp)) (fun i o ho => hs.2 i o ho (by simp)) rfl
            (fun A' L' hr hrd hφ hh => ⟨by rw [hφ, zrows_length], by rw [hφ]; simp, fun _ => ⟨_, by rw [hφ]; exact hh, ?_, by rw [hφ, zrows_length]; exact hge, by rw [hφ]; exact hle, ?_, ?_⟩⟩)
          · unfold Oper.wp
            rw [hex2, Oper.upon_value, hk.hd]
            refine hK _ _ ⟨_, hnew.put ?_ (by rw [hcN.1]; exact hk.hN)⟩
            have := @RelV.own (w.drew.alloc (.cells (Builtin.zeroCells z2.cells m ++ Builtin.zeroCells z2.cells (G - m)) e)) ((st'.setObj d (.arr td.size e (zrows td.zero m))).mut c (L.set d { φ := w.heap.size, κ := G, len := m })) (L.set d { φ := w.heap.size, κ := G, len := m }) d
            rw [Lay.set_eq] at this
            simpa [LE.slice] using this
          · rw [hφ]
            simp only [Array.size_append, size_zeroCells, hz2, ← Nat.add_mul]
            congr 1
            omega
          · intro x hx
            obtain ⟨i, hi, rfl⟩ := List.mem_iff_getElem.1 hx
            have := (zrows_get _ _ _ _ (List.getElem?_eq_getElem hi)).2
            rw [this, b6]
          · intro i x hi j p hj
            obtain ⟨q1, rfl⟩ := zrows_get _ _ _ _ hi
            have hjl : j < td.size := by
              have := (List.getElem?_eq_some_iff.1 hj).1
              omega
            have hlt : i * td.size + j < m * td.size := by
              have : (i + 1) * td.size ≤ m * td.size := Nat.mul_le_mul_right _ (by omega)
              rw [Nat.add_mul] at this
              omega
            have e1 : (Builtin.zeroCells z2.cells m ++ Builtin.zeroCells z2.cells (G - m)).getD (i * td.size + j) undef = (Builtin.zeroCells z2.cells m).getD (i * td.size + j) undef := by
              simp only [Array.getD_eq_getD_getElem?]
              rw [Array.getElem?_append_left (by rw [size_zeroCells, hz2]; exact hlt)]
            rw [e1, zero_at hz2 hlt, show (i * td.size + j) % td.size = j by rw [Nat.add_comm, Nat.mul_comm, Nat.add_mul_mod_self_left, Nat.mod_eq_of_lt hjl]]
            exact hI2.zreads j p hj _ _
      · exact h.elim
    · exact h.elim
  · exact h.elim
end Go.KV
namespace Go.KV
variable {P : Program} {T : TEnv} {N : Nat} {E : Env}
/-! Arrays that are elements of owned slices. -/
def idxE (sy : List Nat) (E : Env) (st : St) (o : Oper) (d : Nat) (vals : List VV) (rs : List (Nat × VV)) : Stp :=
  match o.op, vals with
  | .indexAddr t _ _, [.ptrE id sz i f, .pv (.int _ k)] => match E.T t with
    | some ⟨.arr n e, _, _, _⟩ => match E.T e with
      | some td => .val rs [] d (slNone st d) [] (inN n k) fun _ => .ptrE id sz i (f + k.toNat * td.size)
      | none => .no
    | _ => .no
  | .load t (.tmp a), [.ptrE id sz i f] => bif sy.any (Nat.beq a) then (match E.T t, st.obj id with
    | some td, some (.arr sz' e es) =>
      bif Nat.beq sz sz' && Nat.beq (E.ct t).length td.size && (td.k.agg || Nat.beq td.size 1) then
        .val rs [(id, .arr sz' e es)] d (slNone st d) (E.ct t) ((nthN (E.ct e) es i).bind fun y => decs (E.ct t) (((encs (E.ct e) y).drop f).take td.size)) fun y => vsOf td.k.agg (encs (E.ct t) y)
      else .no
    | _, _ => .no) else .no
  | _, _ => .no
theorem idxE_ok (hT : TOk P E.T) {sy : List Nat} {st : St} {o : Oper} {d : Nat} {vals : List VV} {rs : List (Nat × VV)} (hk : Know st o d vals rs N) {r : Rec} (h : (idxE sy E st o d vals rs).Has r) : r.pre st ∧ RecOk P N o r := by
  unfold idxE at h
  split at h
  · rename_i t X Y id sz i f k n hop
    split at h
    · rename_i m e _ _ _ ht
      split at h
      · rename_i td he
        refine StpVal_ok hk.hd hk.hN hk.get (by simp) (fun y hy st' c L a w hrs hro hL => ?_) h
        unfold inN at hy
        cases hc : (decide (0 ≤ n) && decide (n < (m : Int))) with
        | false => rw [hc] at hy; cases hy
        | true =>
          simp only [Bool.and_eq_true, decide_eq_true_eq] at hc
          have hrel := evs_rel hL (hk.evs' hrs)
          rw [hop] at hrel
          obtain ⟨v, u, ee, g1, g2⟩ := RelL.two hrel
          simp [Op.operands] at ee
          obtain ⟨rfl, rfl⟩ := ee
          have e2 := g2.int
          have e1 : a.eval X = .pointer (some ⟨(L id).φ, i * sz + f, none⟩) := by
            generalize a.eval X = v at g1
            cases g1
            rfl
          have r1 := indexAt_arr (P := P) (w := w) hT ht rfl he (a := ⟨(L id).φ, i * sz + f, none⟩) (k := k) hc
          rw [plain_add, Nat.add_assoc] at r1
          refine ⟨_, ?_, .ptrE id sz i (f + n.toNat * td.size)⟩
          simp only [execOp, hop, e1, e2, Sem.run_bind, r1, Result.andThen_ok, Sem.run_pure]
      · exact h.elim
    · exact h.elim
  · rename_i t s id sz i f hop
    cases hs : sy.any (Nat.beq s) with
    | false => rw [hs] at h; exact h.elim
    | true =>
      rw [hs] at h
      simp only [cond_true] at h
      split at h
      · rename_i td sz' e es ht ho
        cases hb : (Nat.beq sz sz' && Nat.beq (E.ct t).length td.size && (td.k.agg || Nat.beq td.size 1)) with
        | false => rw [hb] at h; exact h.elim
        | true =>
          rw [hb] at h
          simp only [Bool.and_eq_true, Bool.or_eq_true] at hb
          obtain ⟨⟨b0, b1⟩, b2⟩ := hb
          have b0 := Nat.eq_of_beq_eq_true b0
          subst b0
          have b1 := Nat.eq_of_beq_eq_true b1
          refine StpVal_ok hk.hd hk.hN hk.get (by simpa using ho) (fun y hy st' c L a w hrs hro hL => ?_) h
          rw [Option.bind_eq_some_iff] at hy
          obtain ⟨y0, hy0, hy⟩ := hy
          have hrel := evs_rel hL (hk.evs' hrs)
          rw [hop] at hrel
          obtain ⟨v, ee, g1⟩ := RelL.one hrel
          simp [Op.operands] at ee
          subst ee
          have e1 : a.eval (.tmp s) = .pointer (some ⟨(L id).φ, i * sz + f, none⟩) := by
            generalize a.eval (.tmp s) = v at g1
            cases g1
            rfl
          have ho' := hL.rel id _ (hro (id, .arr sz e es) (by simp))
          obtain ⟨row, h1, h2, h3⟩ := nthN_some hy0
          obtain ⟨hν, cc, k1, k2, k3, k4⟩ := arr_cell ho' h1
          obtain ⟨_, uu, zz, hI⟩ := tdOf_spec (hT _ _ ht)
          have h5 := decs_le hy
          have hrl : (encs (E.ct e) y0).length = sz := by rw [← h2.length, k3]
          have hl : (((encs (E.ct e) y0).drop f).take td.size).length = td.size := by rw [h5.length, encs_length, b1]
          rw [List.length_take, List.length_drop, hrl] at hl
          have hcells : ∀ j p, (encs (E.ct t) y)[j]? = some p → Reads w (st'.mut c L) p (cc.getD (i * sz + f + j) undef) := by
            intro j p hj
            obtain ⟨q, h6, h7⟩ := h5.get j p hj
            obtain ⟨h8, h9⟩ := take_lt h6
            rw [List.getElem?_drop] at h9
            obtain ⟨q', h10, h11⟩ := h2.get _ _ h9
            have := k4 _ _ h10
            rw [show i * sz + f + j = i * sz + (f + j) by omega]
            exact h7.le _ _ _ (h11.le _ _ _ this)
          cases hag : td.k.agg with
          | true =>
            have r1 := run_loadVar (w := w) hI ⟨(L id).φ, i * sz + f, none⟩ (fun j => cc.getD (i * sz + f + j) undef) hag (fun j hj => by rw [plain_add]; exact cell_at k1 _ (by omega))
            refine ⟨_, by simp only [execOp, hop, e1, Sem.run_bind, Instr.loadAt, Instr.sureAddr, Sem.run_pure, r1, Result.andThen_ok]; rfl, ?_⟩
            simp only [vsOf, cond_true]
            refine .agg _ (by simp [encs_length, b1]) fun j x hj => ?_
            rw [List.getElem?_map, Option.map_eq_some_iff] at hj
            obtain ⟨p, hp, rfl⟩ := hj
            have hjl : j < td.size := by
              have := (List.getElem?_eq_some_iff.1 hp).1
              rw [encs_length] at this
              omega
            have := hcells j p hp
            simp only [Array.getD_eq_getD_getElem?, List.getElem?_toArray, List.getElem?_map, List.getElem?_range hjl, Option.map_some, Option.getD_some]
            rw [Array.getD_eq_getD_getElem?] at this
            exact .pv this
          | false =>
            have hs1 : td.size = 1 := by
              rcases b2 with h6 | h6
              · rw [hag] at h6; cases h6
              · exact Nat.eq_of_beq_eq_true h6
            have r1 := run_loadVar1 (w := w) hI ⟨(L id).φ, i * sz + f, none⟩ (cc.getD (i * sz + f) undef) hag (cell_at k1 _ (by omega))
            refine ⟨_, by simp only [execOp, hop, e1, Sem.run_bind, Instr.loadAt, Instr.sureAddr, Sem.run_pure, r1, Result.andThen_ok]; rfl, ?_⟩
            have hel : (encs (E.ct t) y).length = 1 := by rw [encs_length]; omega
            match hE : encs (E.ct t) y, hel with
            | [p], _ =>
              simp only [vsOf, cond_false]
              have := hcells 0 p (by rw [hE]; rfl)
              exact .pv (by simpa using this)
      · exact h.elim
  · exact h.elim
def storeE (sy : List Nat) (E : Env) (st : St) (o : Oper) (vals : List VV) (rs : List (Nat × VV)) : Stp :=
  match o.op, vals with
  | .store t (.tmp a) _, [.ptrE id sz i f, x] => bif sy.any (Nat.beq a) then (match E.T t, st.obj id, mapO unpv (cellsV x) with
    | some td, some (.arr sz' e es), some qs =>
      bif Nat.beq sz sz' && Nat.beq qs.length td.size && Nat.blt 0 td.size && Nat.beq (E.ct e).length sz && !isAny x then
        .bnd (E.ct e) ((nthN (E.ct e) es i).bind fun y => decs (E.ct e) (patch (encs (E.ct e) y) f qs)) fun y => { rs, ro := [(id, .arr sz' e es)], wo := [(id, .arr sz' e (es.set i (encs (E.ct e) y)))], lk := [id] }
      else .no
    | _, _, _ => .no) else .no
  | _, _ => .no
theorem storeE_ok (hT : TOk P E.T) {sy : List Nat} {st : St} {o : Oper} {vals : List VV} {rs : List (Nat × VV)} (hd : o.dst = none) (hev : evs st o.op.operands.toList = some vals)
    (hrs : rsOf st (tmpsOf o.op.operands.toList) = some rs) {r : Rec} (h : (storeE sy E st o vals rs).Has r) : r.pre st ∧ RecOk P N o r := by
  unfold storeE at h
  split at h
  · rename_i t s Y id sz i f x hop
    cases hs : sy.any (Nat.beq s) with
    | false => rw [hs] at h; exact h.elim
    | true =>
    rw [hs] at h
    simp only [cond_true] at h
    split at h
    · rename_i td sz' e es qs ht ho hq
      cases hb : (Nat.beq sz sz' && Nat.beq qs.length td.size && Nat.blt 0 td.size && Nat.beq (E.ct e).length sz && !isAny x) with
      | false => rw [hb] at h; exact h.elim
      | true =>
        rw [hb] at h
        simp only [Bool.and_eq_true, Bool.not_eq_true'] at hb
        obtain ⟨⟨⟨⟨b1, b2⟩, b3⟩, b4⟩, b5⟩ := hb
        have := Nat.eq_of_beq_eq_true b1
        subst this
        have b2 := Nat.eq_of_beq_eq_true b2
        have b3 : 0 < td.size := Nat.le_of_ble_eq_true b3
        have b4 := Nat.eq_of_beq_eq_true b4
        obtain ⟨y, hy, rfl⟩ := h
        rw [Option.bind_eq_some_iff] at hy
        obtain ⟨y0, hy0, hy⟩ := hy
        obtain ⟨hr1, hr2⟩ := rsOf_spec hrs
        refine ⟨⟨hr1, by simpa using ho, by simp, by simp, by simp, by simp, fun p hp _ => by simp at hp; subst hp; exact ⟨_, ho, rfl, rfl, by simp⟩⟩, ?_⟩
        intro st' c a w K Q hp hcN ⟨L, hL⟩ hK
        have hrel := evs_rel hL (by rw [evs_local (hr2 st' hp.rs)]; exact hev)
        rw [hop] at hrel
        obtain ⟨v, u, ee, g1, g2⟩ := RelL.two hrel
        simp [Op.operands] at ee
        obtain ⟨rfl, rfl⟩ := ee
        have hobj := hp.ro (id, .arr sz e es) (by simp [Rec.bare])
        have ho' := hL.rel id _ hobj
        obtain ⟨row, h1, h2, h3⟩ := nthN_some hy0
        obtain ⟨hν, cc, k1, k2, k3, k4⟩ := arr_cell ho' h1
        have h5 := decs_le hy
        have hyl0 : (encs (E.ct e) y0).length = sz := by rw [encs_length, b4]
        have hyl : (encs (E.ct e) y).length = sz := by rw [encs_length, b4]
        have hpl : (patch (encs (E.ct e) y0) f qs).length = sz := by rw [h5.length, hyl]
        have hfit : f + qs.length ≤ sz := by
          simp only [patch, List.length_append, List.length_take, List.length_drop, hyl0] at hpl
          omega
        have e1 : a.eval (.tmp s) = .pointer (some ⟨(L id).φ, i * sz + f, none⟩) := by
          generalize a.eval (.tmp s) = v at g1
          cases g1
          rfl
        obtain ⟨c1, c2⟩ := cellsV_rel g2 b5
        obtain ⟨q1, q2⟩ := mapO_spec hq
        have hcl : (a.eval Y).cells.size = td.size := by rw [c1, ← b2, q1]
        have hcell : ∀ j p, qs[j]? = some p → Reads w (st'.mut c L) p ((a.eval Y).cells.getD j undef) := by
          intro j p hj
          have := c2 j _ (unpv_spec hq j p hj)
          cases this with
          | pv h => exact h
        have hone : ∀ u ∈ (a.eval Y).cells.toList, u.oneCell' = true := by
          intro u hu
          obtain ⟨j, hj, rfl⟩ := List.mem_iff_getElem.1 hu
          have hjl : j < qs.length := by simp at hj; omega
          have := reads_one (hcell j _ (List.getElem?_eq_getElem hjl))
          simp at hj
          simpa [Array.getD_eq_getD_getElem?, hj] using this
        have hrun := store_run (P := P) hT ht k1 (v := a.eval Y) (off := i * sz + f) hcl (by omega) hone
        have hin : i < es.length := (List.getElem?_eq_some_iff.1 h1).1
        unfold Oper.wp
        have hex : (execOp a.eval o).run P w = .ok .skip (putRow w (L id).φ (writeAt cc (i * sz + f) (a.eval Y).cells.toList) e) := by
          simp only [execOp, hop, e1, Sem.run_bind, hrun, Result.andThen_ok, Sem.run_pure]
        rw [hex, Oper.upon_skip, hd]
        refine hK _ _ ⟨L, ?_⟩
        refine hL.change (o' := .arr sz e (es.set i (encs (E.ct e) y))) hobj (by simp [Lay.off, VO.isArr, hν]) rfl rfl rfl (putRow_size ..) (fun b hb => putRow_ne _ _ _ _ _ hb) (fun A' hr hrd => ?_)
        obtain ⟨o1, o2, o3⟩ := ho'
        obtain ⟨c0, m1, m2, m3, m6, m4, m5⟩ := o3 hν
        have : c0 = cc := by
          rw [m1] at k1
          injection k1 with k1
          injection k1
        subst this
        refine ⟨by simpa using o1, fun h => (by have h5 := hν.symm.trans h; cases h5), fun _ => ⟨writeAt c0 (i * sz + f) (a.eval Y).cells.toList, putRow_heap _ _ _ _ (Array.getElem?_eq_some_iff.1 m1).1, by rw [writeAt_size]; exact m2, by simpa using m3, m6, ?_, ?_⟩⟩
        · intro row' hrow'
          rcases List.mem_or_eq_of_mem_set hrow' with h5 | h5
          · exact m4 row' h5
          · subst h5
            exact hyl
        · intro k row' hk' j p hj
          rw [List.getElem?_set] at hk'
          have hwl : i * sz + f + (a.eval Y).cells.toList.length ≤ c0.size := by simp; omega
          rw [writeAt_get _ _ _ _ hwl]
          by_cases hki : i = k
          · subst hki
            simp only [if_true, hin] at hk'
            cases hk'
            obtain ⟨p0, h5', h6⟩ := h5.get j p hj
            refine h6.le _ _ _ ?_
            unfold patch at h5'
            by_cases hjf : j < f
            · rw [List.getElem?_append_left (by simp [hyl0]; omega), List.getElem?_take, if_pos hjf] at h5'
              rw [if_neg (by omega)]
              obtain ⟨q, hq', hle⟩ := h2.get j p0 h5'
              exact hrd _ _ (hle.le _ _ _ (m5 i row h1 j q hq'))
            · rw [List.getElem?_append_right (by simp [hyl0]; omega)] at h5'
              have hmin : (List.take f (encs (E.ct e) y0)).length = f := by simp [hyl0]; omega
              rw [hmin] at h5'
              by_cases hjq : j - f < qs.length
              · rw [List.getElem?_append_left hjq] at h5'
                rw [if_pos (by simp; omega)]
                have := hcell _ _ h5'
                have e2 : (a.eval Y).cells.toList.getD (i * sz + j - (i * sz + f)) undef = (a.eval Y).cells.getD (j - f) undef := by
                  rw [show i * sz + j - (i * sz + f) = j - f by omega]
                  simp [Array.getD_eq_getD_getElem?, List.getD_eq_getElem?_getD]
                rw [e2]
                exact hrd _ _ this
              · rw [List.getElem?_append_right (by omega), List.getElem?_drop] at h5'
                rw [show f + qs.length + (j - f - qs.length) = j by omega] at h5'
                rw [if_neg (by simp; omega)]
                obtain ⟨q, hq', hle⟩ := h2.get j p0 h5'
                exact hrd _ _ (hle.le _ _ _ (m5 i row h1 j q hq'))
          · rw [if_neg hki] at hk'
            have hj' : j < sz := by
              have := (List.getElem?_eq_some_iff.1 hj).1
              rwa [m4 row' (List.mem_of_getElem? hk')] at this
            have hne : ¬ (i * sz + f ≤ k * sz + j ∧ k * sz + j < i * sz + f + (a.eval Y).cells.toList.length) := by
              rintro ⟨n1, n2⟩
              simp only [Array.length_toList] at n2
              rcases Nat.lt_or_ge k i with h6 | h6
              · have : (k + 1) * sz ≤ i * sz := Nat.mul_le_mul_right _ h6
                rw [Nat.add_mul] at this
                omega
              · have : (i + 1) * sz ≤ k * sz := Nat.mul_le_mul_right _ (by omega)
                rw [Nat.add_mul] at this
                omega
            rw [if_neg hne]
            exact hrd _ _ (m5 k row' hk' j p hj)
    · exact h.elim
  · exact h.elim
end Go.KV
namespace Go.KV
open Go.ChangeMaps (setBlock)
variable {P : Program} {T : TEnv} {N : Nat} {E : Env}
/-! Ranges over maps of at most one entry. -/
theorem MapRel.imp {w w' : World} {A A' : Nat → Prop} {kn vn : Option Nat} {es : List (List PV)} {ents : Array MapEntry} {clock : Nat} (h : MapRel w A kn vn es ents clock) (hr : ∀ p v, Reads w A p v → Reads w' A' p v) : MapRel w' A' kn vn es ents clock := by
  have hm : ∀ p v, ReadsM w A p v → ReadsM w' A' p v := by
    intro p v h
    cases p with
    | one p => exact ⟨hr _ _ h.1, h.2⟩
    | many ps =>
      obtain ⟨cs, h1, h2, h3⟩ := h
      exact ⟨cs, h1, h2, fun i p hi => hr _ _ (h3 i p hi)⟩
  obtain ⟨h2, h3, h4, h5⟩ := h
  refine ⟨h2, fun j e hj => ?_, h4, h5⟩
  obtain ⟨g0, ent, g1, g2, g3⟩ := h3 j e hj
  exact ⟨g0, ent, g1, hm _ _ g2, hm _ _ g3⟩
def rngS (E : Env) (st : St) (o : Oper) (d : Nat) (vals : List VV) (rs : List (Nat × VV)) : Stp :=
  match o.op, vals with
  | .range t _, [.mapr m] => match E.T t, st.obj m with
    | some ⟨.map _ _, _, _, _⟩, some (.mp kn vn es) =>
      bif objNone st d && st.soleB d [] [] && Nat.blt d impBase then
        .bnd [] (intB (Nat.ble es.length 1)) fun _ => { rs, ro := [(m, .mp kn vn es)], no := [d], ws := [(d, .ptr d 0)], wo := [(d, .itr m false), (m, .mpr kn vn es d)], ab := slNone st d }
      else .no
    | _, _ => .no
  | _, _ => .no
theorem rngS_ok (hT : TOk P E.T) {st : St} {o : Oper} {d : Nat} {vals : List VV} {rs : List (Nat × VV)} (hk : Know st o d vals rs N) {r : Rec} (h : (rngS E st o d vals rs).Has r) : r.pre st ∧ RecOk P N o r := by
  unfold rngS at h
  split at h
  · rename_i t X m hop
    split at h
    · rename_i kt et _ _ _ kn vn es ht ho
      cases hb : (objNone st d && st.soleB d [] [] && Nat.blt d impBase) with
      | false => rw [hb] at h; exact h.elim
      | true =>
        rw [hb] at h
        simp only [Bool.and_eq_true] at hb
        obtain ⟨⟨b1, b2⟩, b3⟩ := hb
        have b3 : d < impBase := Nat.le_of_ble_eq_true b3
        obtain ⟨y, hy, rfl⟩ := h
        refine ⟨⟨hk.get, by simpa using ho, fun i hi => by simp at hi; subst hi; exact ⟨objNone_spec b1, St.soleB_spec b2⟩, by simp, fun hab p hp => by simp at hp; subst hp; exact slNone_spec hab, by simp, by simp⟩, ?_⟩
        intro st' c' a w K Q hpre hcN ⟨L, hL⟩ hK
        have hle : es.length ≤ 1 := by
          unfold intB at hy
          cases hq : Nat.ble es.length 1 with
          | false => rw [hq] at hy; cases hy
          | true => exact Nat.le_of_ble_eq_true hq
        have hrel := evs_rel hL (hk.evs' hpre.rs)
        rw [hop] at hrel
        obtain ⟨v, ee, g1⟩ := RelL.one hrel
        simp [Op.operands] at ee
        subst ee
        have e1 : a.eval X = .map (some (L m).φ) := by
          generalize a.eval X = v at g1
          cases g1
          rfl
        obtain ⟨hn, hs⟩ := hpre.no d (by simp [Rec.bare])
        have hobj := hpre.ro (m, .mp kn vn es) (by simp [Rec.bare])
        have hmd : m ≠ d := fun e => by subst e; rw [hn] at hobj; cases hobj
        obtain ⟨ents, clock, q1, q2⟩ := hL.rel m _ hobj
        obtain ⟨ti, u, z, hI⟩ := tdOf_spec (hT _ _ ht)
        have hku := hI.kind rfl
        have hbirth : ∃ b0, ∀ (i : Nat) (ent : MapEntry), ents[i]? = some ent → ent.born = b0 := by
          have hsz : ents.size ≤ 1 := by rw [q2.1]; exact hle
          cases h0 : ents[0]? with
          | none =>
            refine ⟨0, fun i ent hi => ?_⟩
            have := (Array.getElem?_eq_some_iff.1 hi).1
            have : 0 < ents.size := by omega
            rw [Array.getElem?_eq_getElem this] at h0
            cases h0
          | some e0 =>
            refine ⟨e0.born, fun i ent hi => ?_⟩
            have := (Array.getElem?_eq_some_iff.1 hi).1
            have : i = 0 := by omega
            subst this
            rw [h0] at hi
            cases hi
            rfl
        obtain ⟨b0, hb0⟩ := hbirth
        have hnew := HoldsL.new (id := d) (O := .mapIter (some (L m).φ) clock #[] clock) (o := .itr m false) (ℓ := { φ := w.heap.size, κ := clock, len := b0 }) hL b3 hn (fun k x hk => hs.1 k x hk (by simp)) (fun i o ho => hs.2 i o ho (by simp)) rfl
          (fun A' L' hr hrd hφ hh => by
            have h1 := hr _ _ (RelV.mapr m) (by simp only [VV.has]; exact beq_ne hmd)
            have h2 : (L' m).φ = (L m).φ := by
              generalize hv : Value.map (some (L m).φ) = v at h1
              cases h1
              injection hv with hv
              injection hv with hv
              exact hv.symm
            simp only [ObjRel, hφ, cond_false, h2]
            exact hh)
        have hobj2 : (st'.setObj d (.itr m false)).obj m = some (.mp kn vn es) := by
          rw [St.obj_setObj, if_neg hmd]
          exact hobj
        have hch := hnew.change (id := m) (o' := .mpr kn vn es d) (w' := w.alloc (.mapIter (some (L m).φ) clock #[] clock)) hobj2 rfl rfl rfl rfl rfl (fun _ _ => rfl) (fun A' hr hrd => by
          obtain ⟨ents', clock', p1, p2⟩ := hnew.rel m _ hobj2
          have e2 : (L.set d { φ := w.heap.size, κ := clock, len := b0 }) m = L m := Lay.set_ne hmd
          have hlt : (L m).φ < w.heap.size := (Array.getElem?_eq_some_iff.1 q1).1
          rw [e2, alloc_old _ _ _ hlt, q1] at p1
          injection p1 with p1
          injection p1 with p1 p1'
          subst p1; subst p1'
          refine ⟨ents, ?_, ?_, hle, ?_⟩
          · rw [e2, Lay.set_eq, alloc_old _ _ _ hlt, q1]
          · rw [Lay.set_eq]
            exact p2.imp hrd
          · rw [Lay.set_eq]
            exact hb0)
        unfold Oper.wp
        have hex : (execOp a.eval o).run P w = .ok (.value (.pointer (some ⟨w.heap.size, 0, none⟩))) (w.alloc (.mapIter (some (L m).φ) clock #[] clock)) := by
          have hun := hI.run_under (w := w)
          cases u <;> simp [tkOf] at hku
          simp only [execOp, hop, e1, Sem.run_bind, Instr.range, hun, Result.andThen_ok, getObj]
          simp only [Sem.run, q1, Result.andThen, newObj]
          rfl
        rw [hex, Oper.upon_value, hk.hd]
        refine hK _ _ ⟨_, hch.put ?_ (by rw [hcN.1]; exact hk.hN)⟩
        have := @RelV.ptr (w.alloc (.mapIter (some (L m).φ) clock #[] clock)) (((st'.setObj d (.itr m false)).setObj m (.mpr kn vn es d)).mut c' (L.set d { φ := w.heap.size, κ := clock, len := b0 })) (L.set d { φ := w.heap.size, κ := clock, len := b0 }) d 0
        rw [Lay.set_eq] at this
        exact this
    · exact h.elim
  · exact h.elim
theorem left_none (ents : Array MapEntry) : leftOf ents #[] = ents := by
  unfold leftOf
  exact Array.filter_eq_self.2 fun x _ => by simp
theorem left_one {ents : Array MapEntry} {b : Nat} (h : ∀ (i : Nat) (ent : MapEntry), ents[i]? = some ent → ent.born = b) : leftOf ents #[b] = #[] := by
  unfold leftOf
  rw [Array.filter_eq_empty_iff]
  intro x hx
  obtain ⟨i, hi, rfl⟩ := Array.mem_iff_getElem.1 hx
  simp [h i _ (Array.getElem?_eq_getElem hi)]
/-- The iterator and its map. -/
def itrOf (st : St) (d : Nat) : Option (Nat × Bool × Option Nat × Option Nat × List (List PV)) :=
  match st.obj d with
  | some (.itr m b) => match st.obj m with
    | some (.mpr kn vn es d') => bif Nat.beq d' d then some (m, b, kn, vn, es) else none
    | _ => none
  | _ => none
theorem itrOf_spec {st : St} {d m : Nat} {b : Bool} {kn vn : Option Nat} {es : List (List PV)} (h : itrOf st d = some (m, b, kn, vn, es)) : st.obj d = some (.itr m b) ∧ st.obj m = some (.mpr kn vn es d) := by
  unfold itrOf at h
  split at h
  · rename_i m' b' h1
    split at h
    · rename_i kn' vn' es' d' h2
      obtain ⟨h3, h4⟩ := bif_some h
      have := Nat.eq_of_beq_eq_true h3
      subst this
      cases h4
      exact ⟨h1, h2⟩
    · cases h
  · cases h
def nxtS (st : St) (o : Oper) (d : Nat) (vals : List VV) (rs : List (Nat × VV)) : Stp :=
  match o.op, vals with
  | .next _ false, [.ptr i 0] => match itrOf st i with
    | some (m, b, kn, vn, es) => .does { rs, ro := [(i, .itr m b), (m, .mpr kn vn es i)], ws := [(d, .tup [.pv (.bool (!b && !empty es))])], wo := [(i, .itr m (b || !empty es))], ab := slNone st d }
    | none => .no
  | _, _ => .no
theorem nxtS_ok {st : St} {o : Oper} {d : Nat} {vals : List VV} {rs : List (Nat × VV)} (hk : Know st o d vals rs N) {r : Rec} (h : (nxtS st o d vals rs).Has r) : r.pre st ∧ RecOk P N o r := by
  unfold nxtS at h
  split at h
  · rename_i X i hop
    split at h
    · rename_i m b kn vn es hit
      obtain ⟨ho1, ho2⟩ := itrOf_spec hit
      cases h
      refine ⟨⟨hk.get, fun p hp => ?_, by simp, by simp, fun hab p hp => by simp at hp; subst hp; exact slNone_spec hab, by simp, by simp⟩, ?_⟩
      · simp at hp
        rcases hp with rfl | rfl
        · exact ho1
        · exact ho2
      intro st' c' a w K Q hpre hcN ⟨L, hL⟩ hK
      have hrel := evs_rel hL (hk.evs' hpre.rs)
      rw [hop] at hrel
      obtain ⟨v, ee, g1⟩ := RelL.one hrel
      simp [Op.operands] at ee
      subst ee
      have e1 : a.eval X = .pointer (some ⟨(L i).φ, 0, none⟩) := by
        generalize a.eval X = v at g1
        cases g1
        rfl
      have q1 := hpre.ro (i, .itr m b) (by simp [Rec.bare])
      have q2 := hpre.ro (m, .mpr kn vn es i) (by simp [Rec.bare])
      have r1 : w.heap[(L i).φ]? = some (.mapIter (some (L m).φ) (L i).κ (bif b then #[(L i).len] else #[]) (L i).κ) := hL.rel i _ q1
      obtain ⟨ents, p1, p2, p3, p4⟩ := hL.rel m _ q2
      have hsz : ents.size = es.length := p2.1
      have hem : empty es = decide (es.length = 0) := by cases es <;> simp [empty]
      have hrun := run_next_at (P := P) w o.type (L i).φ (L m).φ (L i).κ (L i).κ _ ents (L i).κ r1 p1 (fun x hx => by
        obtain ⟨j, hj, rfl⟩ := List.mem_iff_getElem.1 hx
        exact p2.2.2.1 j _ (by simp)) (Nat.le_refl _)
      -- the world behind
      have go : ∀ (w' : World) (v : Value) (b' : Bool), (Instr.next (.pointer (some ⟨(L i).φ, 0, none⟩)) false o.type).run P w = .ok v w' → w'.os = w.os → w'.tape = w.tape → w'.output = w.output → w'.heap.size = w.heap.size →
          (∀ k, k ≠ (L i).φ → w'.heap[k]? = w.heap[k]?) → w'.heap[(L i).φ]? = some (.mapIter (some (L m).φ) (L i).κ (bif b' then #[(L i).len] else #[]) (L i).κ) → b' = (b || !empty es) →
          (∃ cs : Array Value, v = .tuple cs ∧ 1 ≤ cs.size ∧ cs.getD 0 undef = .bool (!b && !empty es)) → o.wp P a w K Q := by
        intro w' v b' hr h1 h2 h3 h4 h5 h6 hb' hv
        obtain ⟨cs, rfl, hc1, hc2⟩ := hv
        unfold Oper.wp
        have hex : (execOp a.eval o).run P w = .ok (.value (.tuple cs)) w' := by
          simp only [execOp, hop, e1, Sem.run_bind, hr, Result.andThen_ok, Sem.run_pure]
        rw [hex, Oper.upon_value, hk.hd]
        have hch := hL.change (id := i) (o' := .itr m b') (w' := w') q1 rfl h1 h2 h3 h4 h5 (fun A' _ _ => h6)
        subst hb'
        refine hK _ _ ⟨L, hch.put ?_ (by rw [hcN.1]; exact hk.hN)⟩
        refine .tup cs (by simpa using hc1) fun j x hj => ?_
        cases j with
        | succ j => simp at hj
        | zero =>
          simp at hj
          subst hj
          rw [hc2]
          exact .pv (.bool _)
      rcases hrun with ⟨h0, hr⟩ | ⟨e, he, w1, hw1, hr⟩
      · -- nothing is left
        refine go w _ b hr rfl rfl rfl rfl (fun _ _ => rfl) r1 ?_ ⟨_, rfl, by simp, ?_⟩
        · cases b with
          | true => rfl
          | false =>
            simp only [cond_false, left_none] at h0
            have h00 : es.length = 0 := by omega
            rw [hem, decide_eq_true h00]
            rfl
        · cases b with
          | true => rfl
          | false =>
            simp only [cond_false, left_none] at h0
            have h00 : es.length = 0 := by omega
            rw [hem, decide_eq_true h00]
            rfl
      · have hbf : b = false := by
          cases b with
          | false => rfl
          | true =>
            simp only [cond_true, left_one p4] at he
            simp at he
        subst hbf
        simp only [cond_false, left_none] at he hr
        obtain ⟨j, hj, rfl⟩ := List.mem_iff_getElem.1 he
        simp only [Array.length_toList] at hj
        have hne : empty es = false := by rw [hem]; exact decide_eq_false (by omega)
        have hborn : ents[j].born = (L i).len := p4 j _ (Array.getElem?_eq_getElem hj)
        simp only [Array.getElem_toList] at hr
        rw [hborn] at hr
        have hlt : (L i).φ < w.heap.size := (Array.getElem?_eq_some_iff.1 r1).1
        have hheap : w1.heap = w.heap := by rcases hw1 with rfl | rfl <;> rfl
        refine go _ _ true hr ?_ ?_ ?_ ?_ ?_ ?_ (by simp [hne]) ⟨_, rfl, by simp, by simp [Array.getD, hne]⟩
        · rcases hw1 with rfl | rfl <;> rfl
        · rcases hw1 with rfl | rfl <;> rfl
        · rcases hw1 with rfl | rfl <;> rfl
        · simp [setBlock, hheap]
        · intro k hk'
          simp [setBlock, hheap, Array.getElem?_setIfInBounds_ne (Ne.symm hk')]
        · simp [setBlock, hheap, hlt]
    · exact h.elim
  · exact h.elim
/-- The entry that an iterator has handed out. -/
def entR (cs : List CT) (b : Bool) (es : List (List PV)) : Option (Ds cs) :=
  match es with
  | [x] => bif b then decs cs x else none
  | _ => none
/-- The cells of an iterator's entries are kept at a number beyond the types'. -/
def entBase : Nat := 700000
def entS (E : Env) (st : St) (o : Oper) (d : Nat) (vals : List VV) (rs : List (Nat × VV)) : Stp :=
  match o.op, vals with
  | .entry (.tmp s), [.ptr i 0] => match itrOf st i with
    | some (m, b, kn, vn, es) =>
      let cs := E.ct (entBase + s)
      bif Nat.beq cs.length (cellsOf kn + cellsOf vn) then
        .val rs [(i, .itr m b), (m, .mpr kn vn es i)] d (slNone st d) cs (entR cs b es) fun y => .tup [vsOf kn.isSome ((encs cs y).take (cellsOf kn)), vsOf vn.isSome ((encs cs y).drop (cellsOf kn))]
      else .no
    | none => .no
  | _, _ => .no
theorem entS_ok {st : St} {o : Oper} {d : Nat} {vals : List VV} {rs : List (Nat × VV)} (hk : Know st o d vals rs N) {r : Rec} (h : (entS E st o d vals rs).Has r) : r.pre st ∧ RecOk P N o r := by
  unfold entS at h
  split at h
  · rename_i s i hop
    split at h
    · rename_i m b kn vn es hit
      obtain ⟨ho1, ho2⟩ := itrOf_spec hit
      simp only at h
      cases hb : Nat.beq (E.ct (entBase + s)).length (cellsOf kn + cellsOf vn) with
      | false => rw [hb] at h; exact h.elim
      | true =>
        rw [hb] at h
        simp only [cond_true] at h
        have hlen := Nat.eq_of_beq_eq_true hb
        generalize E.ct (entBase + s) = cs at h hlen
        refine StpVal_ok hk.hd hk.hN hk.get (fun p hp => ?_) (fun y hy st' c L a w hrs hro hL => ?_) h
        · simp at hp
          rcases hp with rfl | rfl
          · exact ho1
          · exact ho2
        have hrel := evs_rel hL (hk.evs' hrs)
        rw [hop] at hrel
        obtain ⟨v, ee, g1⟩ := RelL.one hrel
        simp [Op.operands] at ee
        have e1 : a.eval (.tmp s) = .pointer (some ⟨(L i).φ, 0, none⟩) := by
          rw [ee]
          cases g1
          rfl
        have q1 := hro (i, .itr m b) (by simp)
        have q2 := hro (m, .mpr kn vn es i) (by simp)
        have r1 : w.heap[(L i).φ]? = some (.mapIter (some (L m).φ) (L i).κ (bif b then #[(L i).len] else #[]) (L i).κ) := hL.rel i _ q1
        obtain ⟨ents, p1, p2, p3, p4⟩ := hL.rel m _ q2
        unfold entR at hy
        split at hy
        · rename_i x
          obtain ⟨hbt, hy⟩ := bif_some' hy
          subst hbt
          obtain ⟨hxl, ent, h0, hkx, hvx⟩ := p2.2.1 0 x rfl
          have hborn := p4 0 ent h0
          have hsz : ents.size = 1 := p2.1
          have hl1 : ents.toList = [ent] := by
            have hlt : 0 < ents.size := by omega
            rw [Array.getElem?_eq_getElem hlt] at h0
            cases h0
            apply List.ext_getElem
            · simp [hsz]
            · intro n h1 h2
              simp at h2
              subst h2
              simp
          have hseen : (bif true then #[(L i).len] else #[] : Array Nat) = (#[] : Array Nat).push ent.born := by rw [hborn]; rfl
          rw [hseen] at r1
          have hrun := run_entry_at (P := P) w (L i).φ (L m).φ (L i).κ #[] ents (L i).κ ent r1 p1 (by rw [hl1]; simp) (by rw [hl1]; simp)
          refine ⟨.tuple #[ent.key, ent.val], ?_, ?_⟩
          · simp only [execOp, hop, e1, Sem.run_bind, hrun, Result.andThen_ok, Sem.run_pure]
          · have hle := decs_le hy
            have hyl : (encs cs y).length = cellsOf kn + cellsOf vn := by rw [encs_length, hlen]
            have ht : All2 Dq (x.take (cellsOf kn)) ((encs cs y).take (cellsOf kn)) ∧ All2 Dq (x.drop (cellsOf kn)) ((encs cs y).drop (cellsOf kn)) := by
              obtain ⟨a1, a2, ea, ha1, ha2⟩ := All2.split (x.take (cellsOf kn)) (x.drop (cellsOf kn)) _ (by rw [List.take_append_drop]; exact hle)
              have hl : a1.length = cellsOf kn := by rw [← ha1.length, List.length_take]; omega
              rw [ea, List.take_left' hl, List.drop_left' hl]
              exact ⟨ha1, ha2⟩
            refine .tup _ (by simp) fun j z hj => ?_
            match j, hj with
            | 0, hj =>
              simp at hj; subst hj
              simp [Array.getD]
              exact vsOf_rel hkx (by rw [List.length_take]; omega) (ht.1.mono fun _ _ => Dq.le)
            | 1, hj =>
              simp at hj; subst hj
              simp [Array.getD]
              exact vsOf_rel hvx (by rw [List.length_drop]; omega) (ht.2.mono fun _ _ => Dq.le)
        · cases hy
    · exact h.elim
  · exact h.elim
end Go.KV
namespace Go.KV
variable {P : Program} {T : TEnv} {N : Nat} {E : Env}
/-! All steps. -/
def stepD (E : Env) (st : St) (o : Oper) (d : Nat) (vals : List VV) (rs : List (Nat × VV)) : Stp :=
  (idxE E.sy E st o d vals rs).or <| (buildS E st o d vals rs).or <| (idxS E st o d vals rs).or <| (loadS E st o d vals rs).or <| (callS E st o d vals rs).or <|
  (arithS E st o d vals rs).or <| (appS E st o d vals rs).or <| (capS E st o d vals rs).or <| (partS E st o d vals rs).or <| (byteS E st o d vals rs).or <|
  (lookS E E.eq st o d vals rs).or <| (eqS E E.eq st o d vals rs).or <| (nilS E st o d vals rs).or <| (makS E st o d vals rs).or <| (cutS E st o d vals rs).or <|
  (arrD E.sy E st o d vals rs).or <| (appZ E st o d vals rs).or <| (glbS E.gl E st o d vals rs).or <| (rngS E st o d vals rs).or <| (nxtS st o d vals rs).or <| (entS E st o d vals rs).or <|
  match recOf E.T E.N st o with
  | some r => .does r
  | none => .no
def stepOf (E : Env) (st : St) (o : Oper) : Stp :=
  match evs st o.op.operands.toList, rsOf st (tmpsOf o.op.operands.toList) with
  | some vals, some rs => match o.dst with
    | some d => bif Nat.blt d E.N then stepD E st o d vals rs else .no
    | none => (storeE E.sy E st o vals rs).or <| (storeS E st o vals rs).or <| (updS E E.eq st o vals rs).or <| (arrStore E st o vals rs).or <| match recOf E.T E.N st o with
      | some r => .does r
      | none => .no
  | _, _ => .no
theorem recOf_does (hT : TOk P T) {st : St} {o : Oper} {r : Rec} (h : (match recOf T N st o with | some r => Stp.does r | none => Stp.no).Has r) : r.pre st ∧ RecOk P N o r := by
  split at h
  · rename_i q hq
    cases h
    exact ⟨recOf_pre hq, recOf_ok hT hq⟩
  · exact h.elim
theorem stepOf_ok (hT : TOk P E.T) (hQ : EqOk P E.eq) (hG : ∀ g ps, look g E.gl = some ps → look g (glT P) = some ps) (hΓ : ∀ C ∈ E.Γ, CtrOk P C) : StpOk P E.N (stepOf E) := by
  intro st o r h
  unfold stepOf at h
  split at h
  · rename_i vals rs hev hrs
    split at h
    · rename_i d hd
      cases hN : Nat.blt d E.N with
      | false => rw [hN] at h; exact h.elim
      | true =>
        rw [hN] at h
        simp only [cond_true] at h
        have hk : Know st o d vals rs E.N := ⟨hd, Nat.le_of_ble_eq_true hN, hev, hrs⟩
        unfold stepD at h
        rcases Stp.has_or h with h | h
        · exact idxE_ok hT hk h
        rcases Stp.has_or h with h | h
        · exact buildS_ok hT hk h
        rcases Stp.has_or h with h | h
        · exact idxS_ok hT hk h
        rcases Stp.has_or h with h | h
        · exact loadS_ok hT hk h
        rcases Stp.has_or h with h | h
        · exact callS_ok rfl hΓ hk h
        rcases Stp.has_or h with h | h
        · exact arithS_ok hk h
        rcases Stp.has_or h with h | h
        · exact appS_ok hT hk h
        rcases Stp.has_or h with h | h
        · exact capS_ok hT hk h
        rcases Stp.has_or h with h | h
        · exact partS_ok hT hk h
        rcases Stp.has_or h with h | h
        · exact byteS_ok hT hk h
        rcases Stp.has_or h with h | h
        · exact lookS_ok hT hQ hk h
        rcases Stp.has_or h with h | h
        · exact eqS_ok hQ hk h
        rcases Stp.has_or h with h | h
        · exact nilS_ok hT hk h
        rcases Stp.has_or h with h | h
        · exact makS_ok hT hk h
        rcases Stp.has_or h with h | h
        · exact cutS_ok hT hk h
        rcases Stp.has_or h with h | h
        · exact arrD_ok hT hk h
        rcases Stp.has_or h with h | h
        · exact appZ_ok hT hk h
        rcases Stp.has_or h with h | h
        · exact glbS_ok hT hG hk h
        rcases Stp.has_or h with h | h
        · exact rngS_ok hT hk h
        rcases Stp.has_or h with h | h
        · exact nxtS_ok hk h
        rcases Stp.has_or h with h | h
        · exact entS_ok hk h
        exact recOf_does hT h
    · rename_i hd
      rcases Stp.has_or h with h | h
      · exact storeE_ok hT hd hev hrs h
      rcases Stp.has_or h with h | h
      · exact storeS_ok hT hd hev hrs h
      rcases Stp.has_or h with h | h
      · exact updS_ok hT hQ hd hev hrs h
      rcases Stp.has_or h with h | h
      · exact arrStore_ok hT hd hev hrs h
      exact recOf_does hT h
  · exact h.elim
/-! Ghost steps. -/
def VV.subst (id : Nat) (x0 : VV) (x1 : Nat → VV) : Nat → VV → VV
  | 0, _ => .any
  | n + 1, x => match x with
    | .agg vs => .agg (vs.map (VV.subst id x0 x1 n))
    | .tup vs => .tup (vs.map (VV.subst id x0 x1 n))
    | .fnc f vs => .fnc f (vs.map (VV.subst id x0 x1 n))
    | .own i => bif Nat.beq i id then x0 else .own i
    | .ptr i o => bif Nat.beq i id then x1 o else .ptr i o
    | .ptrE i sz k f => bif Nat.beq i id then .any else .ptrE i sz k f
    | .mapr i => bif Nat.beq i id then .any else .mapr i
    | .any => .any
    | .pv p => .pv p
    | .prow ps => .prow ps
    | .und => .und
def VO.subst (id : Nat) (x0 : VV) (x1 : Nat → VV) : VO → VO
  | .box vs => .box (vs.map (VV.subst id x0 x1 6))
  | .arr sz e es => .arr sz e es
  | .mp k v es => .mp k v es
  | .mpr k v es d => bif Nat.beq d id then .mp k v es else .mpr k v es d
  | .itr m b => bif Nat.beq m id then .blk else .itr m b
  | .blk => .blk
def mapV {α β : Type} (f : α → β) : List (Nat × α) → List (Nat × β)
  | [] => []
  | (k, x) :: l => (k, f x) :: mapV f l
theorem look_mapV {α β : Type} (f : α → β) (k : Nat) : ∀ l : List (Nat × α), look k (mapV f l) = (look k l).map f
  | [] => rfl
  | (j, x) :: l => by
    simp only [mapV, look_cons, look_mapV f k l]
    split <;> rfl
def St.subst (st : St) (id : Nat) (x0 : VV) (x1 : Nat → VV) : St := ⟨mapV (VV.subst id x0 x1 6) st.sl, mapV (VO.subst id x0 x1) (del id st.hp)⟩
theorem subst_rel {w : World} {A B : Nat → Prop} {L : Lay} {id : Nat} {x0 : VV} {x1 : Nat → VV} (h0 : RelV w B L x0 (L id).slice) (h1 : ∀ o, RelV w B L (x1 o) (.pointer (some ⟨(L id).φ, o, none⟩)))
    (hB : ∀ b, B b → A b) {x : VV} {v : Value} (h : RelV w A L x v) : ∀ n, RelV w B L (VV.subst id x0 x1 n x) v := by
  induction h with
  | any v => intro n; cases n <;> exact .any v
  | pv h => intro n; cases n with | zero => exact .any _ | succ n => exact .pv (h.mono (Stands.weak w hB))
  | agg cs hs h ih =>
    intro n
    cases n with
    | zero => exact .any _
    | succ n =>
      obtain ⟨h1, h2⟩ := map_rel (f := VV.subst id x0 x1 n) hs (fun i x hi => ih i x hi n)
      exact .agg cs h1 h2
  | tup cs hs h ih =>
    intro n
    cases n with
    | zero => exact .any _
    | succ n =>
      refine .tup cs (by simpa using hs) fun i x hi => ?_
      rw [List.getElem?_map, Option.map_eq_some_iff] at hi
      obtain ⟨y, hy, rfl⟩ := hi
      exact ih i y hy n
  | fnc f cs hs h ih =>
    intro n
    cases n with
    | zero => exact .any _
    | succ n =>
      obtain ⟨h1, h2⟩ := map_rel (f := VV.subst id x0 x1 n) hs (fun i x hi => ih i x hi n)
      exact .fnc f cs h1 h2
  | ptr i off =>
    intro n
    cases n with
    | zero => exact .any _
    | succ n =>
      simp only [VV.subst]
      cases hb : Nat.beq i id with
      | true =>
        have := Nat.eq_of_beq_eq_true hb
        subst this
        exact h1 off
      | false => exact .ptr i off
  | ptrE i sz k f =>
    intro n
    cases n with
    | zero => exact .any _
    | succ n =>
      simp only [VV.subst]
      cases hb : Nat.beq i id with
      | true => exact .any _
      | false => exact .ptrE i sz k f
  | prow a us hc hr => intro n; cases n with | zero => exact .any _ | succ n => exact (RelV.prow (w := w) (A := A) (L := L) a us hc hr).on (Stands.weak w hB)
  | own i =>
    intro n
    cases n with
    | zero => exact .any _
    | succ n =>
      simp only [VV.subst]
      cases hb : Nat.beq i id with
      | true =>
        have := Nat.eq_of_beq_eq_true hb
        subst this
        exact h0
      | false => exact .own i
  | und => intro n; cases n with | zero => exact .any _ | succ n => exact .und
  | mapr i =>
    intro n
    cases n with
    | zero => exact .any _
    | succ n =>
      simp only [VV.subst]
      cases hb : Nat.beq i id with
      | true => exact .any _
      | false => exact .mapr i
theorem subst_holds {c : Ctx} {st : St} {L : Lay} {a : Act} {w : World} (h : HoldsL c st L a w) {id : Nat} {x0 : VV} {x1 : Nat → VV}
    (h0 : RelV w ((st.subst id x0 x1).mut c L) L x0 (L id).slice) (h1 : ∀ o, RelV w ((st.subst id x0 x1).mut c L) L (x1 o) (.pointer (some ⟨(L id).φ, o, none⟩))) : HoldsL c (st.subst id x0 x1) L a w := by
  have hobj : ∀ k o, (st.subst id x0 x1).obj k = some o → k ≠ id ∧ ∃ p, st.obj k = some p ∧ o = p.subst id x0 x1 := by
    intro k o ho
    simp only [St.subst, St.obj, look_mapV, Option.map_eq_some_iff, look_del] at ho
    obtain ⟨p, hp, rfl⟩ := ho
    by_cases hk : k = id
    · rw [if_pos hk] at hp; cases hp
    · rw [if_neg hk] at hp; exact ⟨hk, p, hp, rfl⟩
  have harr : ∀ p : VO, (p.subst id x0 x1).isArr = p.isArr := fun p => by cases p <;> first | rfl | (simp only [VO.subst, cond]; split <;> rfl)
  have hmut : ∀ b, (st.subst id x0 x1).mut c L b → st.mut c L b := by
    rintro b (hb | ⟨k, o, g1, g2, g3⟩)
    · exact .inl hb
    · obtain ⟨_, p, hp, rfl⟩ := hobj k o g1
      exact .inr ⟨k, p, hp, by simpa [Lay.off, harr] using g2, g3⟩
  exact {
    own := fun k o ho hof => by
      obtain ⟨_, p, hp, rfl⟩ := hobj k o ho
      exact h.own k p hp (by simpa [Lay.off, harr] using hof)
    inj := fun i j o p hi hj ho hp hij => by
      obtain ⟨_, q, hq, rfl⟩ := hobj i o hi
      obtain ⟨_, q', hq', rfl⟩ := hobj j p hj
      exact h.inj i j q q' hq hq' (by simpa [Lay.off, harr] using ho) (by simpa [Lay.off, harr] using hp) hij
    rel := fun k o ho => by
      obtain ⟨_, p, hp, rfl⟩ := hobj k o ho
      have hr := h.rel k p hp
      cases p with
      | box vs =>
        obtain ⟨cs, e, g1, g2, g3⟩ := hr
        obtain ⟨m1, m2⟩ := map_rel (f := VV.subst id x0 x1 6) g2 (fun i x hi => subst_rel h0 h1 hmut (g3 i x hi) 6)
        exact ⟨cs, e, g1, m1, m2⟩
      | arr sz e es => exact hr.mono (Stands.weak w hmut) (fun _ => rfl) rfl (fun _ _ => rfl)
      | mp kn vn es => exact hr.mono (Stands.weak w hmut) (fun _ => rfl) rfl (fun _ _ => rfl)
      | mpr kn vn es d =>
        have h2 := hr.mono (Stands.weak w hmut) (fun _ => rfl) rfl (fun _ _ => rfl)
        simp only [VO.subst]
        cases Nat.beq d id with
        | true => exact (OLe.mpr _ _ _ _).2 _ _ _ _ h2
        | false => exact h2
      | itr m b =>
        have h2 := hr.mono (Stands.weak w hmut) (fun _ => rfl) rfl (fun _ _ => rfl)
        simp only [VO.subst]
        cases Nat.beq m id with
        | true => exact h2.side rfl
        | false => exact h2
      | blk => exact hr.mono (Stands.weak w hmut) (fun _ => rfl) rfl (fun _ _ => rfl)
    os := h.os
    tape := h.tape
    output := h.output
    size := h.size
    same := h.same
    old := h.old
    stay := fun k o b ho hb => by
      obtain ⟨_, p, hp, rfl⟩ := hobj k o ho
      exact h.stay k p b hp hb
    impId := h.impId
    glob := h.glob.mono (Stands.weak w hmut)
    slots := fun k x hk => by
      simp only [St.subst, St.get, look_mapV, Option.map_eq_some_iff] at hk
      obtain ⟨y, hy, rfl⟩ := hk
      exact subst_rel h0 h1 hmut (h.slots k y hy) 6
    tsize := h.tsize
    defers := h.defers }
/-- The object's block is no longer one that may change. -/
theorem subst_free {c : Ctx} {st : St} {L : Lay} {a : Act} {w : World} (h : HoldsL c st L a w) {id : Nat} {o : VO} (ho : st.obj id = some o) (hof : L.off id o = false) (x0 : VV) (x1 : Nat → VV) : ¬ (st.subst id x0 x1).mut c L (L id).φ := by
  rintro (hb | ⟨k, p, g1, g2, g3⟩)
  · exact (h.own id o ho hof).1 hb
  · simp only [St.subst, St.obj, look_mapV, Option.map_eq_some_iff, look_del] at g1
    obtain ⟨q, hq, rfl⟩ := g1
    by_cases hk : k = id
    · rw [if_pos hk] at hq; cases hq
    · rw [if_neg hk] at hq
      exact hk (h.inj k id q o hq ho (by cases q <;> simpa [Lay.off, VO.subst, VO.isArr] using g2) hof g3)
theorem ren1_rel {w : World} {A B : Nat → Prop} {L : Lay} {i j : Nat} (hB : ∀ b, B b → A b) {x : VV} {v : Value} (h : RelV w A L x v) : ∀ n, VV.has j n x = false → RelV w B (L.set j (L i)) (VV.subst i (.own j) (fun o => .ptr j o) n x) v := by
  induction h with
  | any v => intro n _; cases n <;> exact .any v
  | pv h => intro n _; cases n with | zero => exact .any _ | succ n => exact .pv (h.mono (Stands.weak w hB))
  | agg cs hs h ih =>
    intro n hn
    cases n with
    | zero => exact .any _
    | succ n =>
      simp only [VV.has, List.any_eq_false, Bool.not_eq_true] at hn
      obtain ⟨h1, h2⟩ := map_rel (f := VV.subst i (.own j) (fun o => .ptr j o) n) hs (fun i x hi => ih i x hi n (hn x (List.mem_of_getElem? hi)))
      exact .agg cs h1 h2
  | tup cs hs h ih =>
    intro n hn
    cases n with
    | zero => exact .any _
    | succ n =>
      simp only [VV.has, List.any_eq_false, Bool.not_eq_true] at hn
      refine .tup cs (by simpa using hs) fun i x hi => ?_
      rw [List.getElem?_map, Option.map_eq_some_iff] at hi
      obtain ⟨y, hy, rfl⟩ := hi
      exact ih i y hy n (hn y (List.mem_of_getElem? hy))
  | fnc f cs hs h ih =>
    intro n hn
    cases n with
    | zero => exact .any _
    | succ n =>
      simp only [VV.has, List.any_eq_false, Bool.not_eq_true] at hn
      obtain ⟨h1, h2⟩ := map_rel (f := VV.subst i (.own j) (fun o => .ptr j o) n) hs (fun i x hi => ih i x hi n (hn x (List.mem_of_getElem? hi)))
      exact .fnc f cs h1 h2
  | ptr k off =>
    intro n hn
    cases n with
    | zero => exact .any _
    | succ n =>
      simp only [VV.has] at hn
      simp only [VV.subst]
      cases hb : Nat.beq k i with
      | true =>
        have := Nat.eq_of_beq_eq_true hb
        subst this
        have := @RelV.ptr w B (L.set j (L k)) j off
        rw [Lay.set_eq] at this
        exact this
      | false =>
        have hkj : k ≠ j := fun e => by rw [e] at hn; simp at hn
        have := @RelV.ptr w B (L.set j (L i)) k off
        rw [Lay.set_ne hkj] at this
        exact this
  | ptrE k sz m f =>
    intro n hn
    cases n with
    | zero => exact .any _
    | succ n =>
      simp only [VV.has] at hn
      simp only [VV.subst]
      cases hb : Nat.beq k i with
      | true => exact .any _
      | false =>
        have hkj : k ≠ j := fun e => by rw [e] at hn; simp at hn
        have := @RelV.ptrE w B (L.set j (L i)) k sz m f
        rw [Lay.set_ne hkj] at this
        exact this
  | prow a us hc hr => intro n _; cases n with | zero => exact .any _ | succ n => exact .prow a us (fun j p hj => ⟨(hc j p hj).1, fun hb => (hc j p hj).2 (hB _ hb)⟩) (fun j p hj => (hr j p hj).mono (Stands.weak w hB))
  | own k =>
    intro n hn
    cases n with
    | zero => exact .any _
    | succ n =>
      simp only [VV.has] at hn
      simp only [VV.subst]
      cases hb : Nat.beq k i with
      | true =>
        have := Nat.eq_of_beq_eq_true hb
        subst this
        have := @RelV.own w B (L.set j (L k)) j
        rw [Lay.set_eq] at this
        exact this
      | false =>
        have hkj : k ≠ j := fun e => by rw [e] at hn; simp at hn
        have := @RelV.own w B (L.set j (L i)) k
        rw [Lay.set_ne hkj] at this
        exact this
  | und => intro n _; cases n with | zero => exact .any _ | succ n => exact .und
  | mapr k =>
    intro n hn
    cases n with
    | zero => exact .any _
    | succ n =>
      simp only [VV.has] at hn
      simp only [VV.subst]
      cases hb : Nat.beq k i with
      | true => exact .any _
      | false =>
        have hkj : k ≠ j := fun e => by rw [e] at hn; simp at hn
        have := @RelV.mapr w B (L.set j (L i)) k
        rw [Lay.set_ne hkj] at this
        exact this
/-- An object under another name. -/
def renG (st : St) (i j : Nat) (o : VO) : St := (st.subst i (.own j) fun o => .ptr j o).setObj j (o.subst i (.own j) fun o => .ptr j o)
theorem renG_obj {st : St} {i j : Nat} {o : VO} {k : Nat} {p : VO} (hp : (renG st i j o).obj k = some p) : k = j ∨ (k ≠ j ∧ k ≠ i ∧ ∃ q, st.obj k = some q) := by
  unfold renG at hp
  rw [St.obj_setObj] at hp
  by_cases hk : k = j
  · exact .inl hk
  · rw [if_neg hk] at hp
    simp only [St.subst, St.obj, look_mapV, Option.map_eq_some_iff, look_del] at hp
    obtain ⟨q, hq, rfl⟩ := hp
    by_cases hki : k = i
    · rw [if_pos hki] at hq; cases hq
    · rw [if_neg hki] at hq; exact .inr ⟨hk, hki, q, hq⟩
theorem renG_at {c : Ctx} {st : St} {L : Lay} {a : Act} {w : World} (h : HoldsL c st L a w) {i j : Nat} {o : VO} (hi : st.obj i = some o) (hj : st.obj j = none) (hs : Sole st j [] []) (f : Nat → Option LE)
    (hst : ∀ k p b, (renG st i j o).obj k = some p → f k = some b → L.set j (L i) k = b) (him : ∀ id b, f id = some b → impBase ≤ id ∧ id < 2 * impBase) : HoldsL { c with imp := f } (renG st i j o) (L.set j (L i)) a w := by
  have hne : i ≠ j := fun e => by rw [e, hj] at hi; cases hi
  have hobj : ∀ k p, (renG st i j o).obj k = some p → (k = j ∧ p = o.subst i (.own j) fun o => .ptr j o) ∨ (k ≠ j ∧ k ≠ i ∧ ∃ q, st.obj k = some q ∧ p = q.subst i (.own j) fun o => .ptr j o) := by
    intro k p hp
    unfold renG at hp
    rw [St.obj_setObj] at hp
    by_cases hk : k = j
    · rw [if_pos hk] at hp; cases hp; exact .inl ⟨hk, rfl⟩
    · rw [if_neg hk] at hp
      simp only [St.subst, St.obj, look_mapV, Option.map_eq_some_iff, look_del] at hp
      obtain ⟨q, hq, rfl⟩ := hp
      by_cases hki : k = i
      · rw [if_pos hki] at hq; cases hq
      · rw [if_neg hki] at hq; exact .inr ⟨hk, hki, q, hq, rfl⟩
  have harr : ∀ p : VO, (p.subst i (.own j) fun o => .ptr j o).isArr = p.isArr := fun p => by cases p <;> first | rfl | (simp only [VO.subst, cond]; split <;> rfl)
  -- the object that stands behind a name
  have back : ∀ k p, (renG st i j o).obj k = some p → ∃ k' q, st.obj k' = some q ∧ L.set j (L i) k = L k' ∧ p = (q.subst i (.own j) fun o => .ptr j o) ∧ ((L.set j (L i)).off k p = L.off k' q) ∧ (k = j ∧ k' = i ∨ k ≠ j ∧ k' = k ∧ k ≠ i) := by
    intro k p hp
    rcases hobj k p hp with ⟨rfl, rfl⟩ | ⟨h1, h2, q, hq, rfl⟩
    · exact ⟨i, o, hi, Lay.set_eq, rfl, by simp only [Lay.off, harr, Lay.set_eq], .inl ⟨rfl, rfl⟩⟩
    · exact ⟨k, q, hq, Lay.set_ne h1, rfl, by simp only [Lay.off, harr, Lay.set_ne h1], .inr ⟨h1, rfl, h2⟩⟩
  have hmut : ∀ b, (renG st i j o).mut c (L.set j (L i)) b → st.mut c L b := by
    rintro b (hb | ⟨k, p, g1, g2, g3⟩)
    · exact .inl hb
    · obtain ⟨k', q, q1, q2, q3, q4, _⟩ := back k p g1
      exact .inr ⟨k', q, q1, by rw [← q4]; exact g2, by rw [← q2]; exact g3⟩
  exact {
    own := fun k p hp hof => by
      obtain ⟨k', q, q1, q2, q3, q4, _⟩ := back k p hp
      rw [q2]
      exact h.own k' q q1 (by rw [← q4]; exact hof)
    inj := fun k m p p' hk hm hp hp' hkm => by
      obtain ⟨k', q, q1, q2, q3, q4, q5⟩ := back k p hk
      obtain ⟨m', r, r1, r2, r3, r4, r5⟩ := back m p' hm
      have := h.inj k' m' q r q1 r1 (by rw [← q4]; exact hp) (by rw [← r4]; exact hp') (by rw [← q2, ← r2]; exact hkm)
      rcases q5 with ⟨e1, e2⟩ | ⟨e1, e2, e3⟩ <;> rcases r5 with ⟨f1, f2⟩ | ⟨f1, f2, f3⟩ <;> omega
    rel := fun k p hp => by
      obtain ⟨k', q, q1, q2, q3, q4, q5⟩ := back k p hp
      have hr := h.rel k' q q1
      subst q3
      cases q with
      | box vs =>
        obtain ⟨cs, e, g1, g2, g3⟩ := hr
        have hj' : ∀ x ∈ vs, VV.has j 6 x = false := by
          have := hs.2 k' _ q1 (by simp)
          simp only [VO.has, List.any_eq_false, Bool.not_eq_true] at this
          exact this
        obtain ⟨m1, m2⟩ := map_rel (f := VV.subst i (.own j) (fun o => .ptr j o) 6) g2 (fun n x hn => ren1_rel (i := i) (j := j) hmut (g3 n x hn) 6 (hj' x (List.mem_of_getElem? hn)))
        exact ⟨cs, e, by rw [q2]; exact g1, m1, m2⟩
      | arr sz e es =>
        have := hr.mono (Stands.weak w hmut) (fun _ => rfl) rfl (fun _ _ => rfl)
        simp only [VO.subst, ObjRel, q2]
        exact this
      | mp kn vn es =>
        have := hr.mono (Stands.weak w hmut) (fun _ => rfl) rfl (fun _ _ => rfl)
        simp only [VO.subst, ObjRel, q2]
        exact this
      | mpr kn vn es d =>
        have h2 := hr.mono (Stands.weak w hmut) (fun _ => rfl) rfl (fun _ _ => rfl)
        have hdj : d ≠ j := fun e => by
          subst e
          have := hs.2 k' _ q1 (by simp)
          simp [VO.has] at this
        simp only [VO.subst]
        cases hd : Nat.beq d i with
        | true =>
          obtain ⟨ents, g1, g2, _⟩ := h2
          exact ⟨ents, _, by rw [q2]; exact g1, g2⟩
        | false =>
          simp only [cond_false, ObjRel, q2, Lay.set_ne hdj]
          exact h2
      | itr m b =>
        have h2 := hr.mono (Stands.weak w hmut) (fun _ => rfl) rfl (fun _ _ => rfl)
        have hdj : m ≠ j := fun e => by
          subst e
          have := hs.2 k' _ q1 (by simp)
          simp [VO.has] at this
        simp only [VO.subst]
        cases hd : Nat.beq m i with
        | true =>
          have := h2.side rfl
          simp only [cond_true, ObjRel, q2]
          exact this
        | false =>
          simp only [cond_false, ObjRel, q2, Lay.set_ne hdj]
          exact h2
      | blk =>
        have := hr.mono (Stands.weak w hmut) (fun _ => rfl) rfl (fun _ _ => rfl)
        simp only [VO.subst, ObjRel, q2]
        exact this
    os := h.os
    tape := h.tape
    output := h.output
    size := h.size
    same := h.same
    old := h.old
    stay := hst
    impId := him
    glob := h.glob.mono (Stands.weak w hmut)
    slots := fun k x hk => by
      have hk' : (st.subst i (.own j) fun o => .ptr j o).get k = some x := hk
      simp only [St.subst, St.get, look_mapV, Option.map_eq_some_iff] at hk'
      obtain ⟨y, hy, rfl⟩ := hk'
      exact ren1_rel hmut (h.slots k y hy) 6 (hs.1 k y hy (by simp))
    tsize := h.tsize
    defers := h.defers }
theorem renG_holds {c : Ctx} {st : St} {L : Lay} {a : Act} {w : World} (h : HoldsL c st L a w) {i j : Nat} {o : VO} (hi : st.obj i = some o) (hj : st.obj j = none) (hs : Sole st j [] []) (hjb : j < impBase) (hib : i < impBase) : HoldsL c (renG st i j o) (L.set j (L i)) a w :=
  renG_at h hi hj hs c.imp (fun k p b hp hb => by
    rcases renG_obj hp with rfl | ⟨h1, h2, q, hq⟩
    · have := (h.impId _ _ hb).1; omega
    · rw [Lay.set_ne h1]; exact h.stay k q b hq hb) h.impId
/-- A box takes the name j of those that stay where they are. -/
def pinS (i j : Nat) (st : St) : Option St := match st.obj i with
  | some o => bif objNone st j && st.soleB j [] [] && Nat.blt i impBase && Nat.ble impBase j && Nat.blt j (2 * impBase) then some (renG st i j o) else none
  | none => none
def unpS (i j : Nat) (st : St) : Option St := match st.obj j with
  | some o => bif objNone st i && st.soleB i [] [] && Nat.blt i impBase && Nat.ble impBase j then some (renG st j i o) else none
  | none => none
def pinX (its : FuncId → List VV → Option ((s : VShs) × Option (List (Ds s.cts)))) : PX := ⟨pinS, unpS, its⟩
theorem pinX_ok (its : FuncId → List VV → Option ((s : VShs) × Option (List (Ds s.cts)))) : PinOk (pinX its) := by
  intro i j st st' h c a w ⟨L, hL⟩
  have h : pinS i j st = some st' := h
  unfold pinS at h
  split at h
  · rename_i o ho
    obtain ⟨hb, h⟩ := bif_some h
    cases h
    simp only [Bool.and_eq_true] at hb
    obtain ⟨⟨⟨⟨b1, b2⟩, b3⟩, b4⟩, b5⟩ := hb
    have b3 : i < impBase := Nat.le_of_ble_eq_true b3
    have b4 := Nat.le_of_ble_eq_true b4
    have b5 : j < 2 * impBase := Nat.le_of_ble_eq_true b5
    refine ⟨fun k => if k = j then some (L i) else c.imp k, ⟨_, renG_at hL ho (objNone_spec b1) (St.soleB_spec b2) _ (fun k p b hp hb => ?_) (fun id b hb => ?_)⟩, ?_⟩
    · by_cases hk : k = j
      · subst hk
        simp only [if_true, Option.some.injEq] at hb
        rw [Lay.set_eq, hb]
      · simp only [if_neg hk] at hb
        rcases renG_obj hp with rfl | ⟨_, _, q, hq⟩
        · exact absurd rfl hk
        · rw [Lay.set_ne hk]; exact hL.stay k q b hq hb
    · by_cases hk : id = j
      · subst hk; exact ⟨b4, b5⟩
      · simp only [if_neg hk] at hb
        exact hL.impId id b hb
    · intro s s' a2 w2 hs ⟨L2, hL2⟩
      have hs : unpS i j s = some s' := hs
      unfold unpS at hs
      split at hs
      · rename_i o2 ho2
        obtain ⟨hb, hs⟩ := bif_some hs
        cases hs
        simp only [Bool.and_eq_true] at hb
        obtain ⟨⟨⟨c1, c2⟩, c3⟩, c4⟩ := hb
        have hij : i ≠ j := by omega
        exact ⟨_, renG_at hL2 ho2 (objNone_spec c1) (St.soleB_spec c2) c.imp (fun k p b hp hb => by
          rcases renG_obj hp with rfl | ⟨h1, h2, q, hq⟩
          · have := (hL.impId _ _ hb).1; omega
          · rw [Lay.set_ne h1]
            exact hL2.stay k q b hq (by simp only [if_neg h2]; exact hb)) hL.impId⟩
      · cases hs
  · cases h
def px0 : PX := pinX fun _ _ => none
theorem px0_ok {P : Program} : PxOk P px0 := ⟨pinX_ok _, fun _ _ _ _ h => by cases h⟩
def ghS0 : Gh → St → Option St
  | .ren i j, st => match st.obj i with
    | some o => bif objNone st j && st.soleB j [] [] && Nat.blt j impBase && Nat.blt i impBase then some (renG st i j o) else none
    | none => none
  | .frzN _, _ => none
  | .forget k, st => some { st with sl := del k st.sl }
  | .frz id, st => match st.obj id with
    | some (.arr sz e es) => some (st.subst id (.pv (.sl none sz es)) fun _ => .any)
    | some (.box vs) => match mapO unpv vs with
      | some ps => some (st.subst id .any fun o => .prow (ps.drop o))
      | none => none
    | _ => none
  | .virt t id sz e, st => match st.get t with
    | some (.pv (.sl (some true) _ [])) => bif objNone st id && st.soleB id [] [] && Nat.blt id impBase then some ((st.setObj id (.arr sz e [])).put t (.own id)) else none
    | _ => none
  | .virtB b j id sz e, st => match st.obj b with
    | some (.box vs) => match vs[j]? with
      | some (.pv (.sl (some true) _ [])) => bif objNone st id && st.soleB id [] [] && Nat.blt id impBase then some ((st.setObj id (.arr sz e [])).setObj b (.box (vs.set j (.own id)))) else none
      | _ => none
    | _ => none
theorem ghS0_ok : ∀ (g : Gh) (st st' : St), ghS0 g st = some st' → ∀ (c : Ctx) (a : Act) (w : World), Holds c st a w → Holds c st' a w := by
  intro g st st' h c a w ⟨L, hL⟩
  unfold ghS0 at h
  split at h
  · split at h
    · rename_i o ho
      rename_i i j _
      cases hb : (objNone st j && st.soleB j [] [] && Nat.blt j impBase && Nat.blt i impBase) with
      | false => rw [hb] at h; cases h
      | true =>
        rw [hb] at h
        cases h
        simp only [Bool.and_eq_true] at hb
        exact ⟨_, renG_holds hL ho (objNone_spec hb.1.1.1) (St.soleB_spec hb.1.1.2) (Nat.le_of_ble_eq_true hb.1.2) (Nat.le_of_ble_eq_true hb.2)⟩
    · cases h
  · cases h
  · cases h
    refine ⟨L, hL.le ⟨fun k y hk => ?_, fun i o ho => ⟨o, ho, OLe.refl o⟩⟩⟩
    rename_i k0
    simp only [St.get, look_del] at hk
    split at hk
    · cases hk
    · exact .inr ⟨y, hk, VLe.refl y⟩
  · rename_i id
    split at h
    · rename_i sz e es ho
      cases h
      refine ⟨L, subst_holds hL (.pv (own_reads (hL.rel id _ ho) (fun b hb => ?_) (fun hν => subst_free hL ho (by simp [Lay.off, VO.isArr, hν]) _ _))) (fun o => .any _)⟩
      rcases hb with hb | ⟨k, o, g1, g2, g3⟩
      · exact .inl hb
      · simp only [St.subst, St.obj, look_mapV, Option.map_eq_some_iff, look_del] at g1
        obtain ⟨q, hq, rfl⟩ := g1
        by_cases hk : k = id
        · rw [if_pos hk] at hq; cases hq
        · rw [if_neg hk] at hq
          exact .inr ⟨k, q, hq, by cases q <;> simpa [Lay.off, VO.subst, VO.isArr] using g2, g3⟩
    · rename_i vs ho
      split at h
      · rename_i ps hps
        cases h
        refine ⟨L, subst_holds hL (.any _) (fun o => box_reads (hL.rel id _ ho) hps (fun b hb => ?_) (subst_free hL ho rfl _ _) L)⟩
        rcases hb with hb | ⟨k, o, g1, g2, g3⟩
        · exact .inl hb
        · simp only [St.subst, St.obj, look_mapV, Option.map_eq_some_iff, look_del] at g1
          obtain ⟨q, hq, rfl⟩ := g1
          by_cases hk : k = id
          · rw [if_pos hk] at hq; cases hq
          · rw [if_neg hk] at hq
            exact .inr ⟨k, q, hq, by cases q <;> simpa [Lay.off, VO.subst, VO.isArr] using g2, g3⟩
      · cases h
    · cases h
  · rename_i t id sz e
    split at h
    · rename_i n hg
      cases hb : (objNone st id && st.soleB id [] [] && Nat.blt id impBase) with
      | false => rw [hb] at h; cases h
      | true =>
        rw [hb] at h
        cases h
        simp only [Bool.and_eq_true] at hb
        have hv := hL.virt (Nat.le_of_ble_eq_true hb.2) (objNone_spec hb.1.1) (St.soleB_spec hb.1.2) sz e
        refine ⟨L.set id { φ := 0, ν := true }, { toInv := ⟨hv.own, hv.inj, hv.rel, hv.os, hv.tape, hv.output, hv.size, hv.same, hv.old, hv.stay, hv.impId, hv.glob⟩, slots := fun k x hk => ?_, tsize := hv.tsize, defers := hv.defers }⟩
        rw [St.get_put] at hk
        by_cases hkt : k = t
        · subst hkt
          simp only [if_true, Option.some.injEq] at hk
          subst hk
          have h1 := hL.slots k _ hg
          have h2 : a.tmps.getD k undef = .slice none 0 0 := by
            cases h1 with
            | pv h1 => exact nil_slice h1
          rw [h2]
          have := @RelV.own w ((st.setObj id (.arr sz e [])).mut c (L.set id { φ := 0, ν := true })) (L.set id { φ := 0, ν := true }) id
          rw [Lay.set_eq] at this
          exact this
        · rw [if_neg hkt] at hk
          exact hv.slots k x hk
    · cases h
  · rename_i b j id sz e
    split at h
    · rename_i vs hob
      split at h
      · rename_i n hg
        cases hb : (objNone st id && st.soleB id [] [] && Nat.blt id impBase) with
        | false => rw [hb] at h; cases h
        | true =>
          rw [hb] at h
          cases h
          simp only [Bool.and_eq_true] at hb
          have hnid := objNone_spec hb.1.1
          have hv := hL.virt (Nat.le_of_ble_eq_true hb.2) hnid (St.soleB_spec hb.1.2) sz e
          have hbid : b ≠ id := fun e => by subst e; rw [hnid] at hob; cases hob
          have hob' : (st.setObj id (.arr sz e [])).obj b = some (.box vs) := by rw [St.obj_setObj, if_neg hbid]; exact hob
          refine ⟨_, hv.change (o' := .box (vs.set j (.own id))) hob' rfl rfl rfl rfl rfl (fun _ _ => rfl) (fun A' hr hrd => ?_)⟩
          obtain ⟨cs, e', g1, g2, g3⟩ := hv.rel b _ hob'
          refine ⟨cs, e', g1, by simpa using g2, fun i x hi => ?_⟩
          rw [List.getElem?_set] at hi
          by_cases hij : j = i
          · subst hij
            have hlt : j < vs.length := (List.getElem?_eq_some_iff.1 hg).1
            simp only [if_true, hlt, Option.some.injEq] at hi
            subst hi
            have h2 : cs.getD j undef = .slice none 0 0 := by
              have := g3 j _ hg
              cases this with
              | pv h => exact nil_slice h
            rw [h2]
            have := @RelV.own w A' (L.set id { φ := 0, ν := true }) id
            rw [Lay.set_eq] at this
            exact this
          · rw [if_neg hij] at hi
            exact hr x _ (g3 i x hi)
      · cases h
    · cases h
/-- Ghost steps, each with what it asks of the values. -/
def ghS (g : Gh) (st : St) : Option (Option Unit × St) :=
  match g with
  | .frzN id => match st.obj id with
    | some (.arr sz _ es) => some (neR es, st.subst id (.pv (.sl (some false) sz es)) fun _ => .any)
    | _ => none
  | g => match ghS0 g st with
    | some st' => some (some (), st')
    | none => none
theorem ghS_ok : GhOk ghS := by
  intro g st st' h c a w hH
  unfold ghS at h
  split at h
  · rename_i id
    split at h
    · rename_i sz e es ho
      obtain ⟨L, hL⟩ := hH
      simp only [Option.some.injEq, Prod.mk.injEq] at h
      obtain ⟨hne, rfl⟩ := h
      refine ⟨L, subst_holds hL (.pv ((own_reads (hL.rel id _ ho) (fun b hb => ?_) (fun hν => subst_free hL ho (by simp [Lay.off, VO.isArr, hν]) _ _)).tight hne)) (fun o => .any _)⟩
      rcases hb with hb | ⟨k, o, g1, g2, g3⟩
      · exact .inl hb
      · simp only [St.subst, St.obj, look_mapV, Option.map_eq_some_iff, look_del] at g1
        obtain ⟨q, hq, rfl⟩ := g1
        by_cases hk : k = id
        · rw [if_pos hk] at hq; cases hq
        · rw [if_neg hk] at hq
          exact .inr ⟨k, q, hq, by cases q <;> simpa [Lay.off, VO.subst, VO.isArr] using g2, g3⟩
    · cases h
  · split at h
    · rename_i s' hs
      cases h
      exact ghS0_ok _ _ _ hs c a w hH
    · cases h
end Go.KV
namespace Go.KV
variable {P : Program} {E : Env}
/-- A table of types. -/
def tab (l : List (Nat × TD)) : TEnv := fun t => look t l
theorem tab_nil : TOk P (tab []) := fun _ _ h => by cases h
theorem tab_cons {t : Nat} {d : TD} {l : List (Nat × TD)} (h : tdOf P t = some d) (hl : TOk P (tab l)) : TOk P (tab ((t, d) :: l)) := by
  intro u x hx
  unfold tab at hx
  rw [look_cons] at hx
  by_cases hu : u = t
  · subst hu
    rw [if_pos rfl] at hx
    cases hx
    exact h
  · rw [if_neg hu] at hx
    exact hl u x hx
def ctab (l : List (Nat × List CT)) : TypeId → List CT := fun t => match look t l with
  | some c => c
  | none => []
def etab (l : List (Nat × (Bool × List CT))) : EqT := fun t => look t l
theorem etab_nil : EqOk P (etab []) := fun _ _ h => by cases h
theorem etab_cons {t : Nat} {x : Bool × List CT} {l : List (Nat × (Bool × List CT))} (h : flatEq P t = some x) (hl : EqOk P (etab l)) : EqOk P (etab ((t, x) :: l)) := by
  intro u y hy
  unfold etab at hy
  rw [look_cons] at hy
  by_cases hu : u = t
  · subst hu
    rw [if_pos rfl] at hy
    cases hy
    exact h
  · rw [if_neg hu] at hy
    exact hl u y hy
theorem gl_nil : ∀ g ps, look g ([] : List (Nat × List PV)) = some ps → look g (glT P) = some ps := fun _ _ h => by cases h
theorem gl_all {l : List (Nat × List PV)} (h : glT P = l) : ∀ g ps, look g l = some ps → look g (glT P) = some ps := fun _ _ h' => by rw [h]; exact h'
theorem ctrs_nil : ∀ C ∈ ([] : List Ctr), CtrOk P C := fun _ h => by cases h
theorem ctrs_cons {C : Ctr} {l : List Ctr} (h : CtrOk P C) (hl : ∀ C ∈ l, CtrOk P C) : ∀ D ∈ C :: l, CtrOk P D := by
  intro D hD
  rcases List.mem_cons.1 hD with rfl | hD
  · exact h
  · exact hl D hD
/-- A function keeps its contract if its body, evaluated, is the contract's function. -/
theorem fnOk (hm : P.follows .mixedOrders = true) (hT : TOk P E.T) (hQ : EqOk P E.eq) (hG : ∀ g ps, look g E.gl = some ps → look g (glT P) = some ps) (hΓ : ∀ C ∈ E.Γ, CtrOk P C) (an : An) (k : Nat) {C : Ctr} {fn : Func} {code : Code} (hf : P.funcs[C.f]? = some fn)
    (hname : (fn.name == "runtime.NumGoroutine") = false) (hb : fn.body = some code) (hN : fn.ntmps = E.N) (hl : Nat.ble C.ins.len E.N = true)
    (hF : ∀ d : Ds C.ict, C.F d = evd (stepOf E) ghS px0 E.N k an true code (Ds C.oct) (begins (C.H (encs C.ict d)) (C.xs (encs C.ict d))) (finE E.T fn.results.toList C.out C.hout)) : CtrOk P C :=
  ctr_of hm hT (stepOf_ok hT hQ hG hΓ) ghS_ok px0_ok hf hname hb hN (fun d => by
    unfold Ctr.xs
    rw [VShs.mk_len]
    exact Nat.le_of_ble_eq_true hl) fun d r h => by rw [← hF d]; exact h
/-- The same with loops over functions: if its body, evaluated, is the contract's function. -/
theorem fnOkI (its : FuncId → List VV → Option ((s : VShs) × Option (List (Ds s.cts)))) (hits : ItsOk P (pinX its)) (hm : P.follows .mixedOrders = true) (hT : TOk P E.T) (hQ : EqOk P E.eq) (hG : ∀ g ps, look g E.gl = some ps → look g (glT P) = some ps) (hΓ : ∀ C ∈ E.Γ, CtrOk P C) (an : An) (k : Nat) {C : Ctr} {fn : Func} {code : Code} (hf : P.funcs[C.f]? = some fn)
    (hname : (fn.name == "runtime.NumGoroutine") = false) (hb : fn.body = some code) (hN : fn.ntmps = E.N) (hl : Nat.ble C.ins.len E.N = true)
    (hF : ∀ d : Ds C.ict, C.F d = evd (stepOf E) ghS (pinX its) E.N k an true code (Ds C.oct) (begins (C.H (encs C.ict d)) (C.xs (encs C.ict d))) (finE E.T fn.results.toList C.out C.hout)) : CtrOk P C :=
  ctr_of hm hT (stepOf_ok hT hQ hG hΓ) ghS_ok ⟨pinX_ok its, hits⟩ hf hname hb hN (fun d => by
    unfold Ctr.xs
    rw [VShs.mk_len]
    exact Nat.le_of_ble_eq_true hl) fun d r h => by rw [← hF d]; exact h
end Go.KV
namespace Go.KV
variable {P : Program} {N : Nat}
/-! A call put off. -/
/-- A function that, called when the frame below returns, changes nothing. -/
def DfrOk (P : Program) (f : FuncId) : Prop :=
  ∀ (caps : Array Value) (w : World), caps.size = 1 → ((invoke (.fn (.func f) caps) #[]).run P w = .ok (.enter f caps) w) ∧
    CallsDIn Fence.wide 0 P f caps .returning w (fun e u' w' => (∃ v, e = .returned v) ∧ u' = .returning ∧ w' = w)
inductive AnD where
  | last (a : An)
  | seq (a : An) (b : AnD)
  /-- A region that makes a function of one captured value and puts its call off. -/
  | dfr (f : FuncId) (b : An)
section
variable (stp : St → Oper → Stp) (gst : GhT) (px : PX) (N : Nat) (k : Nat)
def evdD : AnD → Code → (R : Type) → St → (VX → St → Option R) → Option R
  | .last a, c, R, st, κ => evd stp gst px N k a true c R st κ
  | .seq a b, c, R, st, κ => match c with
    | .seq x y => evd stp gst px N k a true x R st fun v st' => match v with
      | .normal => evdD b y R st' κ
      | v => κ v st'
    | _ => none
  | .dfr f b, c, R, st, κ => match c with
    | .seq (.region _ ops false) y => match ops.toList with
      | [o1, o2] => match o1.guard, o2.guard, o1.dst, o2.dst, o2.op with
        | none, none, some t, none, .defer ⟨.value (.tmp u), args, _⟩ => bif Nat.beq t u && Nat.beq args.size 0 && noDefer o1 then (match stp st o1 with
          | .does r => match (r.app st).get t with
            | some (.fnc g [_]) => bif Nat.beq g f then evd stp gst px N k b true y R (r.app st) κ else none
            | _ => none
          | _ => none) else none
        | _, _, _, _, _ => none
      | _ => none
    | _ => none
end
/-- Where code ends that may put a call off. -/
def postD (P : Program) (c : Ctx) (Q : VX → St → Prop) : Exit → Act → World → Prop := fun e a w =>
  ∃ (x : VX) (st : St) (L : Lay) (d1 d2 : List Nat) (mid : List Deferred), e = x.to ∧ Q x st ∧ HoldsL { c with df := [] } st L ⟨a.tmps, []⟩ w ∧ a.defers = marks d1 ++ (mid ++ marks d2) ∧ MarksIn c.w0.heap.size (d1 ++ d2) w ∧
    (mid = [] ∨ ∃ (f : FuncId) (caps : Array Value), DfrOk P f ∧ caps.size = 1 ∧ mid = [⟨.fn (.func f) caps, #[]⟩])
theorem postD_of {c : Ctx} {Q : VX → St → Prop} (hd : c.df = []) {e : Exit} {a : Act} {w : World} (h : post c Q e a w) : postD P c Q e a w := by
  obtain ⟨x, st, rfl, hq, L, hL⟩ := h
  obtain ⟨ds, e, hm⟩ := hL.defers
  exact ⟨x, st, L, ds, [], [], rfl, hq, hL.bare, by simp [e, hd, marks], by simpa using hm, .inl rfl⟩
def AnD.in (Δ : FuncId) : AnD → Prop
  | .last _ => True
  | .seq _ b => b.in Δ
  | .dfr f _ => f = Δ
theorem evdD_ok (hm : P.follows .mixedOrders = true) {stp : St → Oper → Stp} (hs : StpOk P N stp) {gst : GhT} (hg : GhOk gst) {px : PX} (hpx : PxOk P px) {k : Nat} {Δ : FuncId} (hΔ : DfrOk P Δ) :
    ∀ (an : AnD) (code : Code) (R : Type) (st : St) (κ : VX → St → Option R) (r : R), an.in Δ → evdD stp gst px N k an code R st κ = some r →
      ∀ (c : Ctx) (a : Act) (w : World), COk P N c → c.df = [] → Holds c st a w → code.wpIn (FW none) 0 P (postD P c (EndsAs κ r)) a w
  | .last an, code, R, st, κ, r, _, h, c, a, w, hc, hd, hH => wpIn_mono (evd_spec hm hs hg hpx an true code R st κ r h none (fun _ => rfl) c a w hc hH) fun _ _ _ h => postD_of hd h
  | .seq x y, code, R, st, κ, r, hi, h, c, a, w, hc, hd, hH => by
    simp only [evdD] at h
    split at h
    · rename_i cx cy
      refine wpIn_seq (wpIn_mono (evd_spec hm hs hg hpx x true cx R st _ r h none (fun _ => rfl) c a w hc hH) ?_)
      rintro e a' w' ⟨v, s, rfl, ⟨s', hl, hv⟩, hH'⟩
      cases v with
      | normal => exact evdD_ok hm hs hg hpx hΔ y cy R s' κ r hi hv c a' w' hc hd (hl c a' w' hH')
      | exit i => exact postD_of hd ⟨.exit i, s, rfl, ⟨s', hl, hv⟩, hH'⟩
      | goto i => exact postD_of hd ⟨.goto i, s, rfl, ⟨s', hl, hv⟩, hH'⟩
      | ret => exact postD_of hd ⟨.ret, s, rfl, ⟨s', hl, hv⟩, hH'⟩
    · cases h
  | .dfr f b, code, R, st, κ, r, hi, h, c, a, w, hc, hd, hH => by
    have hi : f = Δ := hi
    subst hi
    simp only [evdD] at h
    split at h
    · rename_i id ops y
      split at h
      · rename_i o1 o2 hops
        split at h
        · rename_i t u args ts hg1 hg2 hd1 hd2 hop2
          obtain ⟨hb, h2⟩ := bif_some' h
          clear h
          rw [Bool.and_eq_true, Bool.and_eq_true] at hb
          obtain ⟨hb, hnd⟩ := hb
          have htu := Nat.eq_of_beq_eq_true hb.1
          have has : args = #[] := by
            have := Nat.eq_of_beq_eq_true hb.2
            exact Array.eq_empty_of_size_eq_zero this
          revert h2
          subst htu; subst has
          intro h2
          split at h2
          · rename_i q hq
            split at h2
            · rename_i g x hget
              obtain ⟨hgf, h3⟩ := bif_some' h2
              have hgf2 := Nat.eq_of_beq_eq_true hgf
              subst hgf2
              obtain ⟨hpre, hrec⟩ := hs st o1 q (by rw [hq]; rfl)
              refine wpIn_seq (wpIn_region_list ?_)
              rw [hops]
              have hw1 : ∀ f : Nat → Option Bool, Region.wanted o1 f = true := fun f => by unfold Region.wanted; rw [hg1]
              have hw2 : ∀ f : Nat → Option Bool, Region.wanted o2 f = true := fun f => by unfold Region.wanted; rw [hg2]
              simp only [wpListIn, hw1, if_true]
              refine op_in none hnd (hrec st c a w _ _ hpre.bare hc hH fun a' w' hH' => ?_)
              simp only [hw2, if_true]
              obtain ⟨L, hL⟩ := hH'
              have hv := hL.slots t _ hget
              have hfn : ∃ cs : Array Value, a'.tmps.getD t undef = .func (.func g) #[] cs ∧ cs.size = 1 := by
                generalize a'.tmps.getD t undef = v at hv
                cases hv with
                | fnc _ cs h1 h2 => exact ⟨cs, rfl, h1⟩
              obtain ⟨cs, hcs, hcs1⟩ := hfn
              have hev : a'.eval (.tmp t) = .func (.func g) #[] cs := hcs
              refine ⟨fun _ _ => trivial, ?_⟩
              have hex : (execOp a'.eval o2).run P w' = .ok (.defer ⟨.fn (.func g) cs, #[]⟩) w' := by
                simp only [execOp, hop2, resolve, hev, Deferred.ofValue, Sem.run_bind, Sem.run_pure, Result.andThen_ok]
                simp
              show o2.uponIn (FW none) 0 P a' _ _ ((execOp a'.eval o2).run P w')
              rw [hex, Oper.uponIn_defer, hd2]
              let c3 : Ctx := (c.from (q.app st) L w' c.imp (⟨.fn (.func g) cs, #[]⟩ :: a'.defers))
              have hH2 : HoldsL c3 (q.app st) L ({ a' with defers := ⟨.fn (.func g) cs, #[]⟩ :: a'.defers }.put none undef) w' :=
                { toInv := hL.toInv.root _ _ hL.stay hL.impId, slots := hL.slots, tsize := hL.tsize, defers := ⟨[], rfl, .nil _ _⟩ }
              refine wpIn_mono (evd_spec hm hs hg hpx b true y R _ κ r h3 none (fun _ => rfl) c3 _ w' ⟨hc.1, hc.2⟩ ⟨L, hH2⟩) ?_
              rintro e a3 w3 ⟨x, s, rfl, hq, L3, h3⟩
              obtain ⟨d2, e2, m2⟩ := hL.defers
              obtain ⟨d1, e1, m1⟩ := h3.defers
              have hi := hL.toInv.unroot h3.toInv h3.stay
              refine ⟨x, s, L3, d1, d2, [⟨.fn (.func g) cs, #[]⟩], rfl, hq, ?_, ?_, ⟨?_, ?_⟩, .inr ⟨g, cs, hΔ, hcs1, rfl⟩⟩
              · exact { toInv := ⟨hi.own, hi.inj, hi.rel, hi.os, hi.tape, hi.output, hi.size, hi.same, hi.old, hi.stay, hi.impId, hi.glob⟩, slots := h3.slots, tsize := h3.tsize, defers := ⟨[], rfl, .nil _ _⟩ }
              · rw [e1]
                show marks d1 ++ (⟨.fn (.func g) cs, #[]⟩ :: a'.defers) = _
                rw [e2, hd]
                simp
              · rw [List.nodup_append]
                refine ⟨m1.1, m2.1, fun x hx y hy e => ?_⟩
                have h1 : w'.heap.size ≤ x := (m1.2 x hx).1
                have h2 := (Array.getElem?_eq_some_iff.1 (m2.2 y hy).2).1
                omega
              · intro D hD
                rcases List.mem_append.1 hD with hD | hD
                · exact ⟨Nat.le_trans hL.size (m1.2 D hD).1, (m1.2 D hD).2⟩
                · exact ⟨(m2.2 D hD).1, hL.toInv.kept h3.toInv D _ (m2.2 D hD).2 rfl⟩
            · cases h2
          · cases h2
        · cases h
      · cases h
    · cases h
/-- A function that puts a call off keeps the contract that its body, evaluated, computes. -/
theorem ctr_of_dfr (hm : P.follows .mixedOrders = true) {T : TEnv} (hT : TOk P T) {stp : St → Oper → Stp} (hs : StpOk P N stp) {gst : GhT} (hg : GhOk gst) {px : PX} (hpx : PxOk P px) {Δ : FuncId} (hΔ : DfrOk P Δ)
    {C : Ctr} {fn : Func} {code : Code} {an : AnD} {k : Nat} (han : an.in Δ) (hf : P.funcs[C.f]? = some fn) (hname : (fn.name == "runtime.NumGoroutine") = false) (hb : fn.body = some code) (hN : fn.ntmps = N)
    (hl : ∀ d : Ds C.ict, (C.xs (encs C.ict d)).length ≤ N)
    (hF : ∀ (d : Ds C.ict) (r : Ds C.oct), C.F d = some r → evdD stp gst px N k an code (Ds C.oct) (begins (C.H (encs C.ict d)) (C.xs (encs C.ict d))) (finE T fn.results.toList C.out C.hout) = some r) : CtrOk P C := by
  intro d r hr
  refine ⟨⟨fn, hf, hname, by rw [hb]; rfl⟩, fun c L w vs hgl hH hR => ?_⟩
  have hw := evdD_ok hm hs hg hpx hΔ an code _ _ _ r han (hF d r hr)
  have hlen := hl d
  generalize C.xs (encs C.ict d) = xs at hw hR hlen
  generalize C.H (encs C.ict d) = H at hw hR hH
  refine (callsIn_wide (n := 0)).1 (callsIn_of_wp_marks hf hb trivial ?_ rfl)
  have hvl : vs.length = xs.length := hR.1
  let c' : Ctx := { c with N := N, df := [] }
  have hin : Holds c' (begins H xs) { tmps := vs.toArray ++ Array.replicate (fn.ntmps - vs.toArray.size) undef, defers := [] } w := by
    refine ⟨L, { toInv := ⟨hH.inv.own, hH.inv.inj, hH.inv.rel, hH.inv.os, hH.inv.tape, hH.inv.output, hH.inv.size, hH.inv.same, hH.inv.old, hH.inv.stay, hH.inv.impId, hH.inv.glob⟩, slots := ?_, tsize := ?_, defers := ⟨[], rfl, .nil _ _⟩ }⟩
    · intro k x hk
      have hk' : xs[k]? = some x := by
        have := begins_get H xs 0 k
        simpa [begins, St.get] using this.symm.trans hk
      have hlt : k < vs.length := by rw [hvl]; exact (List.getElem?_eq_some_iff.1 hk').1
      have h1 := hR.2 k x hk'
      have e : (vs.toArray ++ Array.replicate (fn.ntmps - vs.toArray.size) undef).getD k undef = vs.getD k undef := by
        rw [Array.getD_eq_getD_getElem?, Array.getElem?_append_left (by simpa using hlt)]
        simp [List.getD_eq_getElem?_getD]
      show RelV w ((begins H xs).mut c' L) L x (Array.getD _ k undef)
      rw [e]
      exact h1
    · simp only [Array.size_append, Array.size_replicate, List.size_toArray]
      show vs.length + (fn.ntmps - vs.length) = N
      omega
  refine wpIn_mono (hw c' _ w ⟨rfl, hgl⟩ rfl hin) ?_
  rintro e a w' ⟨x, st, L0, d1, d2, mid, rfl, ⟨st', hle, hfin⟩, hL0, hdf, hmk, hmid⟩
  obtain ⟨hx, ys, hys, hv, ho⟩ := finE_some hfin
  have hend : ∀ R', (∀ (v : Value) (w2 : World), (∃ L', Inv c (St.ofHp (C.H' (encs C.oct r))) L' w2 ∧ RelV w2 ((St.ofHp (C.H' (encs C.oct r))).mut c L') L' (C.res (encs C.oct r)) v) → R' (.returned v) w2) → LeavesInM Fence.wide 0 P fn a.tmps R' a.defers .returning w' := by
    intro R' hR'
    rw [hdf]
    refine leaves_marks (c := c') (st := st) (L := L0) d1 w' hL0 ⟨(List.nodup_append.1 hmk.1).1, fun D hD => hmk.2 D (by simp [hD])⟩ fun w2 h2 hs2 => ?_
    have hm2 : MarksIn c'.w0.heap.size d2 w2 := ⟨(List.nodup_append.1 hmk.1).2.1, fun D hD => ⟨(hmk.2 D (by simp [hD])).1, by
      rw [hs2 D fun h => (List.nodup_append.1 hmk.1).2.2 D h D hD rfl]
      exact (hmk.2 D (by simp [hD])).2⟩⟩
    have hlast : ∀ w2, HoldsL c' st L0 ⟨a.tmps, []⟩ w2 → MarksIn c'.w0.heap.size d2 w2 → LeavesInM Fence.wide 0 P fn a.tmps R' (marks d2) .returning w2 := by
      intro w2 h2 hm2
      have := leaves_marks (P := P) (fn := fn) (R := R') (df := []) (c := c') (st := st) (L := L0) d2 w2 h2 hm2 fun w3 h3 _ => by
        obtain ⟨L', h3'⟩ := hle c' _ w3 ⟨L0, h3⟩
        obtain ⟨v, hv1, hv2⟩ := results_run hT h3' hys
        refine ⟨v, hv1, hR' v w3 ⟨L', ?_, ?_⟩⟩
        · have hle' : st'.le (St.ofHp (C.H' (encs C.oct r))) := ⟨fun k y hk => (nomatch hk), fun id p hp => ho id p hp⟩
          have h4 := h3'.le hle'
          exact ⟨h4.own, h4.inj, h4.rel, h4.os, h4.tape, h4.output, h4.size, h4.same, h4.old, h4.stay, h4.impId, h4.glob⟩
        · have hle' : st'.le (St.ofHp (C.H' (encs C.oct r))) := ⟨fun k y hk => (nomatch hk), fun id p hp => ho id p hp⟩
          exact (hv _ _ _ _ hv2).on (Stands.weak w3 (mut_le hle'))
      simpa using this
    rcases hmid with rfl | ⟨f, caps, hf', hcs, rfl⟩
    · exact hlast w2 h2 hm2
    · obtain ⟨k1, k2⟩ := hf' caps w2 hcs
      refine ⟨by simp, .inr ⟨fun hh => by simp [Fence.wide] at hh, _, caps, f, caps, rfl, k1, fun _ _ => trivial, k2.mono ?_⟩⟩
      rintro e u' w3 ⟨⟨v', rfl⟩, rfl, rfl⟩
      exact hlast _ h2 hm2
  rcases hx with rfl | rfl
  · exact hend _ fun v w2 ⟨L', h1, h2⟩ => ⟨v, L', rfl, h1, h2⟩
  · exact hend _ fun v w2 ⟨L', h1, h2⟩ => ⟨v, L', rfl, h1, h2⟩
theorem fnOkD {E : Env} (hm : P.follows .mixedOrders = true) (hT : TOk P E.T) (hQ : EqOk P E.eq) (hG : ∀ g ps, look g E.gl = some ps → look g (glT P) = some ps) (hΓ : ∀ C ∈ E.Γ, CtrOk P C) {Δ : FuncId} (hΔ : DfrOk P Δ) (an : AnD) (han : an.in Δ) (k : Nat) {C : Ctr} {fn : Func} {code : Code} (hf : P.funcs[C.f]? = some fn)
    (hname : (fn.name == "runtime.NumGoroutine") = false) (hb : fn.body = some code) (hN : fn.ntmps = E.N) (hl : Nat.ble C.ins.len E.N = true)
    (hF : ∀ d : Ds C.ict, C.F d = evdD (stepOf E) ghS px0 E.N k an code (Ds C.oct) (begins (C.H (encs C.ict d)) (C.xs (encs C.ict d))) (finE E.T fn.results.toList C.out C.hout)) : CtrOk P C :=
  ctr_of_dfr hm hT (stepOf_ok hT hQ hG hΓ) ghS_ok px0_ok hΔ han hf hname hb hN (fun d => by
    unfold Ctr.xs
    rw [VShs.mk_len]
    exact Nat.le_of_ble_eq_true hl) fun d r h => by rw [← hF d]; exact h
end Go.KV
