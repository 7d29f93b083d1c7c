/- A layer of symbolic execution over the kit's weakest preconditions, part VC; no conditions. -/
import Derived.Test.YtecmmhngjjhieaaGreatDoorVB
import Derived.Maps.AppendAt
set_option linter.unusedSimpArgs false
set_option linter.unusedVariables false
set_option linter.unnecessarySimpa false
namespace Go.KV
variable {P : Program} {T : TEnv} {N : Nat}
/-! Owned slices that grow. -/
/-- A nil slice as an object without a block. -/
theorem HoldsL.virt {c : Ctx} {st : St} {L : Lay} {a : Act} {w : World} (h : HoldsL c st L a w) {id : Nat} (hid : id < impBase) (hn : st.obj id = none) (hs : Sole st id [] []) (sz : Nat) (e : TypeId) :
    HoldsL c (st.setObj id (.arr sz e [])) (L.set id { φ := 0, ν := true }) a w := by
  have hoff : ∀ o, (L.set id { φ := 0, ν := true }).off id (.arr sz e o) = true := fun o => by simp [Lay.off, VO.isArr, Lay.set_eq]
  have hmut : ∀ b, (st.setObj id (.arr sz e [])).mut c (L.set id { φ := 0, ν := true }) b → st.mut c L b := by
    rintro b (hb | ⟨i, p, h1, h2, h3⟩)
    · exact .inl hb
    · rw [St.obj_setObj] at h1
      by_cases hi : i = id
      · subst hi
        simp only [if_true, Option.some.injEq] at h1
        subst h1
        rw [hoff] at h2; cases h2
      · rw [if_neg hi] at h1
        rw [Lay.off_ne hi] at h2
        rw [Lay.set_ne hi] at h3
        exact .inr ⟨i, p, h1, h2, h3⟩
  have hst := Stands.weak w hmut
  have split : ∀ i o, (st.setObj id (.arr sz e [])).obj i = some o → (L.set id { φ := 0, ν := true }).off i o = false → i ≠ id ∧ st.obj i = some o ∧ L.off i o = false := by
    intro i o ho hof
    rw [St.obj_setObj] at ho
    by_cases hi : i = id
    · subst hi
      simp only [if_true, Option.some.injEq] at ho
      subst ho
      rw [hoff] at hof; cases hof
    · rw [if_neg hi] at ho
      rw [Lay.off_ne hi] at hof
      exact ⟨hi, ho, hof⟩
  exact {
    own := by
      intro i o ho hof
      obtain ⟨h1, h2, h3⟩ := split i o ho hof
      rw [Lay.set_ne h1]
      exact h.own i o h2 h3
    inj := by
      intro i j o p hi hj ho hp hij
      obtain ⟨h1, h2, h3⟩ := split i o hi ho
      obtain ⟨g1, g2, g3⟩ := split j p hj hp
      rw [Lay.set_ne h1, Lay.set_ne g1] at hij
      exact h.inj i j o p h2 g2 h3 g3 hij
    rel := by
      intro i o ho
      rw [St.obj_setObj] at ho
      by_cases hi : i = id
      · subst hi
        simp only [if_true, Option.some.injEq] at ho
        subst ho
        refine ⟨by simp [Lay.set_eq], fun _ => rfl, fun hν => ?_⟩
        rw [Lay.set_eq] at hν
        cases hν
      · rw [if_neg hi] at ho
        refine (h.rel i o ho).mono hst (fun _ => rfl) (Lay.set_ne hi) (fun j hj => Lay.set_ne fun e => ?_)
        subst e
        rw [hs.2 i o ho (by simp)] at hj; cases hj
    os := h.os
    tape := h.tape
    output := h.output
    size := h.size
    same := h.same
    old := h.old
    stay := by
      intro i o b ho hb
      rw [St.obj_setObj] at ho
      by_cases hi : i = id
      · subst hi
        have := (h.impId i b hb).1
        omega
      · rw [if_neg hi] at ho
        rw [Lay.set_ne hi]
        exact h.stay i o b ho hb
    impId := h.impId
    glob := h.glob.mono hst
    slots := fun k x hk => (h.slots k x hk).mono hst 6 fun j hj => Lay.set_ne fun e => by
      subst e
      rw [hs.1 k x hk (by simp)] at hj; cases hj
    tsize := h.tsize
    defers := h.defers }
/-- The layout of a slice's value. -/
def LE.ofSlice (v : Value) : LE :=
  match v with
  | .slice (some a) n k => { φ := a.block, κ := k, len := n, ν := false }
  | _ => { φ := 0, ν := true }
/-- An owned slice takes a new value: it lies where it lay, or in a new block. -/
theorem own_main {c : Ctx} {st : St} {L : Lay} {a : Act} {w : World} (h : HoldsL c st L a w) {i sz : Nat} {e : TypeId} {es es' : List (List PV)} (hi : st.obj i = some (.arr sz e es))
    (him : i < impBase ∨ 2 * impBase ≤ i) {w' : World} {ℓ : LE} {v : Value} (hv : v = ℓ.slice) (hg : w.grownBy w' (L i).slice.ownBlock)
    (hblk : ℓ.ν = false → ((L i).ν = false ∧ ℓ.φ = (L i).φ) ∨ ℓ.φ = w.heap.size)
    (hobj : ∀ A', (∀ p u, Reads w (st.mut c L) p u → Reads w' A' p u) → ObjRel w' A' (L.set i ℓ) i (.arr sz e es'))
    {d : Nat} (hd : d < c.N) {st' : St}
    (ho1 : ∀ k o, st'.obj k = some o → (k = i ∧ o = .arr sz e es') ∨ (k ≠ i ∧ ∃ p, st.obj k = some p ∧ OLe p o ∧ VO.has i o = false))
    (hs1 : ∀ k x, st'.get k = some x → (k = d ∧ x = .own i) ∨ (k ≠ d ∧ (x = .any ∨ (st.get k = some x ∧ VV.has i 6 x = false)))) :
    HoldsL c st' (L.set i ℓ) (a.put (some d) v) w' := by
  have hmut : ∀ b, b < w.heap.size → st'.mut c (L.set i ℓ) b → st.mut c L b := by
    rintro b hlt (hb | ⟨k, o, h1, h2, h3⟩)
    · exact .inl hb
    · rcases ho1 k o h1 with ⟨rfl, rfl⟩ | ⟨hk, p, g1, g2, _⟩
      · rw [Lay.set_eq] at h3
        have hν : ℓ.ν = false := by simpa [Lay.off, VO.isArr, Lay.set_eq] using h2
        rcases hblk hν with ⟨g1, g2⟩ | g2
        · exact .inr ⟨k, _, hi, by simp [Lay.off, VO.isArr, g1], by rw [← g2]; exact h3⟩
        · omega
      · rw [Lay.set_ne hk] at h3
        rw [Lay.off_ne hk, Lay.off_le g2] at h2
        exact .inr ⟨k, p, g1, h2, h3⟩
  have hrow : ∀ b, some b = (L i).slice.ownBlock → (L i).ν = false ∧ b = (L i).φ := by
    intro b hb
    unfold LE.slice at hb
    cases hν : (L i).ν with
    | true => rw [hν] at hb; simp [Value.ownBlock] at hb
    | false => rw [hν] at hb; simp [Value.ownBlock] at hb; exact ⟨rfl, hb⟩
  have hrowA : ∀ b, some b = (L i).slice.ownBlock → st.mut c L b := by
    intro b hb
    obtain ⟨h1, rfl⟩ := hrow b hb
    exact .inr ⟨i, _, hi, by simp [Lay.off, VO.isArr, h1], rfl⟩
  have hst : Stands (st.mut c L) (st'.mut c (L.set i ℓ)) w w' := ⟨hg.size, fun b hlt hA => hg.block b hlt fun hb => hA (hrowA b hb), hmut⟩
  have hblock : ∀ k p, k ≠ i → st.obj k = some p → L.off k p = false → w'.heap[(L k).φ]? = w.heap[(L k).φ]? := by
    intro k p hk hp hof
    refine hg.block _ ((h.rel k p hp).lt hof) fun hb => ?_
    obtain ⟨h1, h2⟩ := hrow _ hb
    exact hk (h.inj k i p _ hp hi hof (by simp [Lay.off, VO.isArr, h1]) h2)
  exact {
    own := by
      intro k o ho hof
      rcases ho1 k o ho with ⟨rfl, rfl⟩ | ⟨hk, p, g1, g2, _⟩
      · have hν : ℓ.ν = false := by simpa [Lay.off, VO.isArr, Lay.set_eq] using hof
        rw [Lay.set_eq]
        rcases hblk hν with ⟨g1, g2⟩ | g2
        · rw [g2]
          exact h.own k _ hi (by simp [Lay.off, VO.isArr, g1])
        · rw [g2]
          exact ⟨fun hS => by have := h.old _ hS; have := h.size; omega, .inl h.size⟩
      · rw [Lay.set_ne hk]
        exact h.own k p g1 (by rw [← Lay.off_le g2]; rw [Lay.off_ne hk] at hof; exact hof)
    inj := by
      have mixed : ∀ j p, j ≠ i → st.obj j = some p → L.off j p = false → ℓ.ν = false → ℓ.φ = (L j).φ → False := by
        intro j p hj hp hof hν hij
        rcases hblk hν with ⟨g1, g2⟩ | g2
        · exact hj (h.inj j i p _ hp hi hof (by simp [Lay.off, VO.isArr, g1]) (by rw [← hij, g2]))
        · have := (h.rel j p hp).lt hof
          omega
      intro j k o p hj hk ho hp hjk
      rcases ho1 j o hj with ⟨rfl, rfl⟩ | ⟨hji, q, g1, g2, _⟩
      · rcases ho1 k p hk with ⟨rfl, rfl⟩ | ⟨hki, q', k1, k2, _⟩
        · rfl
        · have hν : ℓ.ν = false := by simpa [Lay.off, VO.isArr, Lay.set_eq] using ho
          rw [Lay.set_eq, Lay.set_ne hki] at hjk
          exact (mixed k q' hki k1 (by rw [← Lay.off_le k2]; rw [Lay.off_ne hki] at hp; exact hp) hν hjk).elim
      · rcases ho1 k p hk with ⟨rfl, rfl⟩ | ⟨hki, q', k1, k2, _⟩
        · have hν : ℓ.ν = false := by simpa [Lay.off, VO.isArr, Lay.set_eq] using hp
          rw [Lay.set_eq, Lay.set_ne hji] at hjk
          exact (mixed j q hji g1 (by rw [← Lay.off_le g2]; rw [Lay.off_ne hji] at ho; exact ho) hν hjk.symm).elim
        · rw [Lay.set_ne hji, Lay.set_ne hki] at hjk
          exact h.inj j k q q' g1 k1 (by rw [← Lay.off_le g2]; rw [Lay.off_ne hji] at ho; exact ho) (by rw [← Lay.off_le k2]; rw [Lay.off_ne hki] at hp; exact hp) hjk
    rel := by
      intro k o ho
      rcases ho1 k o ho with ⟨rfl, rfl⟩ | ⟨hk, p, g1, g2, g3⟩
      · exact hobj _ fun p u hr => hr.mono hst
      · have h1 := g2.2 _ _ _ _ (h.rel k p g1)
        refine h1.mono hst (fun hof => hblock k p hk g1 (by rw [← Lay.off_le g2]; exact hof)) (Lay.set_ne hk) (fun j hj => Lay.set_ne fun e => ?_)
        subst e
        rw [g3] at hj; cases hj
    os := hg.os.trans h.os
    tape := hg.tape.trans h.tape
    output := hg.output.trans h.output
    size := Nat.le_trans h.size hg.size
    same := by
      intro b hb hI
      rw [← h.same b hb hI]
      refine hg.block b (Nat.lt_of_lt_of_le hb h.size) fun he => ?_
      obtain ⟨h1, rfl⟩ := hrow b he
      have := (h.own i _ hi (by simp [Lay.off, VO.isArr, h1])).2
      rcases this with h2 | h2
      · omega
      · exact hI h2
    old := h.old
    stay := by
      intro k o b ho hb
      rcases ho1 k o ho with ⟨rfl, rfl⟩ | ⟨hk, p, g1, g2, _⟩
      · have := h.impId k b hb
        omega
      · rw [Lay.set_ne hk]
        exact h.stay k p b g1 hb
    impId := h.impId
    glob := h.glob.mono hst
    slots := by
      intro k x hk
      rcases hs1 k x hk with ⟨rfl, rfl⟩ | ⟨hkd, hx⟩
      · have e1 : (a.put (some k) v).tmps.getD k undef = v := by simp [Act.put, Array.getD_eq_getD_getElem?, h.tsize, hd]
        rw [e1, hv]
        have := @RelV.own w' (st'.mut c (L.set i ℓ)) (L.set i ℓ) i
        rw [Lay.set_eq] at this
        exact this
      · have e1 : (a.put (some d) v).tmps.getD k undef = a.tmps.getD k undef := by
          simp [Act.put, Array.getD_eq_getD_getElem?, Array.getElem?_setIfInBounds_ne (fun e => hkd e.symm)]
        rw [e1]
        rcases hx with rfl | ⟨hx, hm⟩
        · exact .any _
        · refine (h.slots k x hx).mono hst 6 fun j hj => Lay.set_ne fun e => ?_
          subst e
          rw [hm] at hj; cases hj
    tsize := by simpa [Act.put] using h.tsize
    defers := by
      obtain ⟨ds, e, hm⟩ := h.defers
      refine ⟨ds, by simpa [Act.put] using e, hm.on fun b O' hb hs' => hg.block b (Array.getElem?_eq_some_iff.1 hb).1 fun hbo => ?_⟩
      obtain ⟨h1, h2⟩ := hrow _ hbo
      obtain ⟨O2, q1, q2⟩ := (h.rel i _ hi).side (by simp [Lay.off, VO.isArr, h1])
      rw [← h2, hb] at q1
      cases q1
      rw [q2] at hs'
      cases hs' }
end Go.KV
namespace Go.KV
variable {P : Program} {T : TEnv} {N : Nat}
/-! Operations that may fail: each binds a result. -/
/-- Element number n, if it is there and has its type. -/
def nthN (cs : List CT) (es : List (List PV)) (n : Nat) : Option (Ds cs) := (es[n]?).bind (decs cs)
def nthR (cs : List CT) (es : List (List PV)) : Int → Option (Ds cs)
  | .ofNat n => nthN cs es n
  | .negSucc _ => none
def inR (es : List (List PV)) : Int → Option Unit
  | .ofNat n => bif Nat.blt n es.length then some () else none
  | .negSucc _ => none
def intB (b : Bool) : Option Unit := bif b then some () else none
def Stp.val (rs : List (Nat × VV)) (ro : List (Nat × VO)) (d : Nat) (ab : Bool) (cs : List CT) (o : Option (Ds cs)) (k : Ds cs → VV) : Stp :=
  .bnd cs o fun y => { rs, ro, ws := [(d, k y)], ab }
theorem StpVal_ok {st : St} {o : Oper} {d : Nat} {rs : List (Nat × VV)} {ro : List (Nat × VO)} {cs : List CT} {ob : Option (Ds cs)} {k : Ds cs → VV} (hd : o.dst = some d) (hN : d < N)
    (hrs : ∀ p ∈ rs, st.get p.1 = some p.2) (hro : ∀ p ∈ ro, st.obj p.1 = some p.2)
    (h : ∀ y, ob = some y → ∀ st' c L a w, (∀ p ∈ rs, st'.get p.1 = some p.2) → (∀ p ∈ ro, st'.obj p.1 = some p.2) → HoldsL c st' L a w → ∃ v, (execOp a.eval o).run P w = .ok (.value v) w ∧ RelV w (st'.mut c L) L (k y) v)
    {r : Rec} (hr : (Stp.val rs ro d (slNone st d) cs ob k).Has r) : r.pre st ∧ RecOk P N o r := by
  obtain ⟨y, hy, rfl⟩ := hr
  exact ⟨⟨hrs, hro, by simp, by simp, fun hab p hp => by simp at hp; subst hp; exact slNone_spec hab, by simp, by simp⟩,
    recOk_val hd hN fun st' c L a w hp hL => h y hy st' c L a w hp.rs hp.ro hL⟩
theorem nthN_some {cs : List CT} {es : List (List PV)} {n : Nat} {y : Ds cs} (h : nthN cs es n = some y) : ∃ e, es[n]? = some e ∧ All2 Dq e (encs cs y) ∧ e.length = cs.length := by
  unfold nthN at h
  rw [Option.bind_eq_some_iff] at h
  obtain ⟨e, h1, h2⟩ := h
  have h3 := decs_le h2
  exact ⟨e, h1, h3, by rw [h3.length, encs_length]⟩
theorem All2.mono {α β : Type} {R S : α → β → Prop} (hRS : ∀ a b, R a b → S a b) {l : List α} {m : List β} (h : All2 R l m) : All2 S l m := by
  induction h with
  | nil => exact .nil
  | cons h t ih => exact .cons (hRS _ _ h) ih
/-- The address of an element of a slice. -/
theorem indexAt_slice (hT : TOk P T) {w : World} {t e : TypeId} {td d : TD} (ht : T t = some td) (hk : td.k = .slice e) (hd : T e = some d) {a : Addr} {len cap n : Nat} {k : IntKind} (hn : n < len) :
    (Instr.indexAt t (.slice (some a) len cap) (.int k (n : Int))).run P w = .ok (.pointer (some (a.add (n * d.size)))) w := by
  obtain ⟨_, u, zv, hI⟩ := tdOf_spec (hT _ _ ht)
  obtain ⟨_, u', z', hI'⟩ := tdOf_spec (hT _ _ hd)
  have hku := hI.k
  rw [hk] at hku
  cases u <;> simp [tkOf] at hku
  subst hku
  have h1 : (0 : Int) ≤ (n : Int) := Int.natCast_nonneg n
  have h2 : (n : Int) < (len : Int) := by exact_mod_cast hn
  simp [Instr.indexAt, asIntOf, hI.run_under, hI'.run_size, h1, h2]
  intro h3
  omega
theorem index_pv (hT : TOk P T) {w : World} {A : Nat → Prop} {L : Lay} {t e : TypeId} {td d : TD} (ht : T t = some td) (hk : td.k = .slice e) (hd : T e = some d) {cs : List CT}
    {nl : Option Bool} {es : List (List PV)} {v : Value} (hv : Reads w A (.sl nl d.size es) v) {k : IntKind} {i : Int} {y : Ds cs} (h : nthR cs es i = some y) :
    ∃ u, (Instr.indexAt t v (.int k i)).run P w = .ok u w ∧ RelV w A L (.prow (encs cs y)) u := by
  cases i with
  | negSucc n => cases h
  | ofNat n =>
    obtain ⟨row, h1, h2, h3⟩ := nthN_some h
    cases hv with
    | nils hn => simp at h1
    | row es a cap _ us hn hcap hsz hc hr =>
      have hlt : n < es.length := (List.getElem?_eq_some_iff.1 h1).1
      refine ⟨_, indexAt_slice hT ht hk hd hlt, ?_⟩
      refine .prow _ (us n) (fun j p hj => ?_) (fun j p hj => ?_)
      · obtain ⟨q, hq, hle⟩ := h2.get j p hj
        obtain ⟨g1, g2⟩ := hc n row h1 j q hq
        rw [add_add, add_block]
        exact ⟨g1, g2⟩
      · obtain ⟨q, hq, hle⟩ := h2.get j p hj
        exact hle.le _ _ _ (hr n row h1 j q hq)
theorem index_own (hT : TOk P T) {w : World} {A : Nat → Prop} {L : Lay} {t e e' : TypeId} {td d : TD} (ht : T t = some td) (hk : td.k = .slice e) (hd : T e = some d) {id sz : Nat} (hz : sz = d.size)
    {es : List (List PV)} (ho : ObjRel w A L id (.arr sz e' es)) {k : IntKind} {i : Int} (h : inR es i = some ()) :
    (Instr.indexAt t (L id).slice (.int k i)).run P w = .ok (.pointer (some ⟨(L id).φ, i.toNat * sz + 0, none⟩)) w := by
  cases i with
  | negSucc n => cases h
  | ofNat n =>
    simp only [inR] at h
    have hlt : n < es.length := by
      cases hb : Nat.blt n es.length with
      | false => rw [hb] at h; cases h
      | true => exact Nat.le_of_ble_eq_true hb
    obtain ⟨h1, h2, h3⟩ := ho
    unfold LE.slice
    cases hν : (L id).ν with
    | true => rw [h2 hν] at hlt; simp at hlt
    | false =>
      simp only [Bool.false_eq_true, if_false]
      have := indexAt_slice (P := P) (w := w) hT ht hk hd (a := ⟨(L id).φ, 0, none⟩) (len := (L id).len) (cap := (L id).κ) (k := k) (n := n) (by omega)
      rw [show (Int.ofNat n : Int) = (n : Int) from rfl, this, plain_add, hz]
      simp
/-- Element cells of an owned slice. -/
theorem arr_cell {w : World} {A : Nat → Prop} {L : Lay} {id sz : Nat} {e : TypeId} {es : List (List PV)} (ho : ObjRel w A L id (.arr sz e es)) {n : Nat} {row : List PV} (hn : es[n]? = some row) :
    (L id).ν = false ∧ ∃ c, w.heap[(L id).φ]? = some (.cells c e (0, 0)) ∧ n * sz + sz ≤ c.size ∧ row.length = sz ∧ ∀ j p, row[j]? = some p → Reads w A p (c.getD (n * sz + j) undef) := by
  obtain ⟨h1, h2, h3⟩ := ho
  have hlt : n < es.length := (List.getElem?_eq_some_iff.1 hn).1
  cases hν : (L id).ν with
  | true => rw [h2 hν] at hlt; simp at hlt
  | false =>
    obtain ⟨c, g1, g2, g3, _, g4, g5⟩ := h3 hν
    refine ⟨rfl, c, g1, ?_, g4 row (List.mem_of_getElem? hn), g5 n row hn⟩
    rw [g2]
    have : (n + 1) * sz ≤ (L id).κ * sz := Nat.mul_le_mul_right _ (by omega)
    rw [Nat.add_mul] at this
    omega
/-- What is loaded from an element. -/
def loadE (d : TD) (f : Nat) (row : List PV) : Option VV :=
  bif d.k.agg then (bif Nat.ble (f + d.size) row.length then some (.agg (((row.drop f).take d.size).map .pv)) else none)
  else (row[f]?).map .pv
theorem loadE_run (hT : TOk P T) {w : World} {A : Nat → Prop} {L : Lay} {t : TypeId} {d : TD} (ht : T t = some d) {id sz n f : Nat} {e : TypeId} {es : List (List PV)} (ho : ObjRel w A L id (.arr sz e es)) {row row' : List PV} (hn : es[n]? = some row)
    (hle : All2 PLe row row') {x : VV} (h : loadE d f row' = some x) :
    ∃ u, (Instr.loadAt t (.pointer (some ⟨(L id).φ, n * sz + f, none⟩))).run P w = .ok u w ∧ RelV w A L x u := by
  obtain ⟨i, u, z, hI⟩ := tdOf_spec (hT _ _ ht)
  obtain ⟨hν, c, g1, g2, g3, g4⟩ := arr_cell ho hn
  have hl : row'.length = sz := by rw [← hle.length, g3]
  have g4' : ∀ j p, row'[j]? = some p → Reads w A p (c.getD (n * sz + j) undef) := by
    intro j p hj
    obtain ⟨q, hq, hq'⟩ := hle.get j p hj
    exact hq' _ _ _ (g4 j q hq)
  unfold loadE at h
  cases hag : d.k.agg with
  | true =>
    rw [hag] at h
    simp only [cond_true] at h
    obtain ⟨h1, h2⟩ := bif_some h
    have h1' := Nat.le_of_ble_eq_true h1
    subst h2
    refine ⟨.agg ((Array.range d.size).map fun j => c.getD (n * sz + f + j) undef), ?_, .agg _ (by simp; omega) fun j x hj => ?_⟩
    · simp only [Instr.loadAt, Instr.sureAddr, Sem.run_bind, Sem.run_pure, Result.andThen_ok]
      rw [run_loadVar hI ⟨(L id).φ, n * sz + f, none⟩ (fun j => c.getD (n * sz + f + j) undef) hag (fun j hj => by rw [plain_add]; exact cell_at g1 _ (by omega))]
      congr 2
      apply Array.ext'
      simp
    · rw [List.getElem?_map, Option.map_eq_some_iff] at hj
      obtain ⟨p, hp, rfl⟩ := hj
      obtain ⟨hjl, hp⟩ := take_lt hp
      rw [List.getElem?_drop] at hp
      have := g4' _ p hp
      refine .pv ?_
      have e1 : ((Array.range d.size).map fun j => c.getD (n * sz + f + j) undef).getD j undef = c.getD (n * sz + (f + j)) undef := by
        simp [Array.getD_eq_getD_getElem?, hjl, Nat.add_assoc]
      rw [e1]
      exact this
  | false =>
    rw [hag] at h
    simp only [cond_false, Option.map_eq_some_iff] at h
    obtain ⟨p, hp, rfl⟩ := h
    have hlt : f < row'.length := (List.getElem?_eq_some_iff.1 hp).1
    refine ⟨_, ?_, .pv (g4' _ p hp)⟩
    simp only [Instr.loadAt, Instr.sureAddr, Sem.run_bind, Sem.run_pure, Result.andThen_ok]
    exact run_loadVar1 hI _ _ hag (cell_at g1 _ (by omega))
end Go.KV
namespace Go.KV
variable {P : Program} {T : TEnv} {N : Nat}
/-- Part of a list, if the bounds hold. -/
def subR (es : List (List PV)) (lo hi : Int) : Option (List (List PV)) :=
  bif decide (0 ≤ lo) && decide (lo ≤ hi) && decide (hi ≤ es.length) then some ((es.take hi.toNat).drop lo.toNat) else none
def subS (s : ByteArray) (lo hi : Int) : Option ByteArray :=
  bif decide (0 ≤ lo) && decide (lo ≤ hi) && decide (hi ≤ s.size) then some (s.extract lo.toNat hi.toNat) else none
def byteR (s : ByteArray) : Int → Option Int
  | .ofNat n => match s[n]? with
    | some b => some b.toNat
    | none => none
  | .negSucc _ => none
theorem and3 {a b c : Bool} (h : (a && b && c) = true) : a = true ∧ b = true ∧ c = true := by
  simp only [Bool.and_eq_true] at h
  exact ⟨h.1.1, h.1.2, h.2⟩
/-- The bounds of a slice of a slice, both within its length. -/
theorem sub_pv (hT : TOk P T) {w : World} {A : Nat → Prop} {t e : TypeId} {td d : TD} (ht : T t = some td) (hk : td.k = .slice e) (hd : T e = some d)
    {nl : Option Bool} {es : List (List PV)} {v : Value} (hv : Reads w A (.sl nl d.size es) v) {lo hi : Int} {es' : List (List PV)} (h : subR es lo hi = some es') (lov hiv : Option Value)
    (hlo : (∃ k, lov = some (.int k lo)) ∨ lov = none ∧ lo = 0) (hhi : (∃ k, hiv = some (.int k hi)) ∨ hiv = none ∧ hi = es.length) :
    ∃ u, (Instr.sliceAt t v lov hiv none).run P w = .ok u w ∧ Reads w A (.sl none d.size es') u := by
  obtain ⟨_, ut, zv, hI⟩ := tdOf_spec (hT _ _ ht)
  obtain ⟨_, u', z', hI'⟩ := tdOf_spec (hT _ _ hd)
  have hku := hI.k
  rw [hk] at hku
  cases ut <;> simp [tkOf] at hku
  subst hku
  unfold subR at h
  obtain ⟨hb, rfl⟩ := bif_some h
  obtain ⟨b1, b2, b3⟩ := and3 hb
  have c1 := of_decide_eq_true b1
  have c2 := of_decide_eq_true b2
  have c3 := of_decide_eq_true b3
  obtain ⟨l, rfl⟩ := Int.eq_ofNat_of_zero_le c1
  obtain ⟨m, rfl⟩ := Int.eq_ofNat_of_zero_le (Int.le_trans c1 c2)
  have d1 : l ≤ m := by exact_mod_cast c2
  have d2 : m ≤ es.length := by exact_mod_cast c3
  have main : ∀ (a : Option Addr) (cap : Nat), es.length ≤ cap → (Instr.sliceAt t (.slice a es.length cap) lov hiv none).run P w = .ok (.slice (if cap = l then a else a.map (·.add (l * d.size))) (m - l) (cap - l)) w := by
    intro a cap hc
    have e1 : (m : Int) ≤ (cap : Int) := by exact_mod_cast Nat.le_trans d2 hc
    have e2 : (l : Int) ≤ (m : Int) := by exact_mod_cast d1
    have e0 : (0 : Int) ≤ (m : Int) := Int.natCast_nonneg m
    have e3 : (0 : Int) ≤ (l : Int) := Int.natCast_nonneg l
    have n1 : m ≤ cap := Nat.le_trans d2 hc
    rcases hlo with ⟨k1, rfl⟩ | ⟨rfl, h0⟩ <;> rcases hhi with ⟨k2, rfl⟩ | ⟨rfl, h1⟩
    · simp [Instr.sliceAt, Instr.slice, hI.run_under, Instr.sliceBounds, Instr.sliceBound, asIntOf, e0, e1, e2, e3, n1, d1, hI'.run_size]
    · have hm : m = es.length := by exact_mod_cast h1
      subst hm
      simp [Instr.sliceAt, Instr.slice, hI.run_under, Instr.sliceBounds, Instr.sliceBound, asIntOf, e0, e1, e2, e3, hI'.run_size, d1]
    · have hl : l = 0 := by exact_mod_cast h0
      subst hl
      simp [Instr.sliceAt, Instr.slice, hI.run_under, Instr.sliceBounds, Instr.sliceBound, asIntOf, e0, e1, e2, e3, n1, d1, hI'.run_size]
    · have hl : l = 0 := by exact_mod_cast h0
      have hm : m = es.length := by exact_mod_cast h1
      subst hl; subst hm
      simp [Instr.sliceAt, Instr.slice, hI.run_under, Instr.sliceBounds, Instr.sliceBound, asIntOf, e0, e1, e2, e3, n1, d1, hI'.run_size]
  cases hv with
  | nils hn =>
    have hl : l = 0 := by simp at d2; omega
    have hm : m = 0 := by simp at d2; omega
    subst hl; subst hm
    refine ⟨_, main none 0 (by simp), ?_⟩
    simp
    exact .nils (by simp)
  | row es a cap _ us hn hcap hsz hc hr =>
    refine ⟨_, main (some a) cap hcap, ?_⟩
    have hlen : ((es.take m).drop l).length = m - l := by simp; omega
    have hget : ∀ (i : Nat) (e' : List PV), ((es.take m).drop l)[i]? = some e' → es[l + i]? = some e' := by
      intro i e' hi
      rw [List.getElem?_drop] at hi
      exact (take_lt hi).2
    simp only [Int.toNat_natCast]
    rw [← hlen]
    by_cases hcl : cap = l
    · have he : (es.take m).drop l = [] := by
        apply List.eq_nil_of_length_eq_zero
        rw [hlen]; omega
      rw [he]
      simp only [hcl, if_true]
      exact .row [] a _ d.size (fun _ _ => undef) (by simp) (by simp) (by simp) (fun i e' hi => by simp at hi) (fun i e' hi => by simp at hi)
    · simp only [hcl, if_false, Option.map_some]
      refine .row _ _ _ d.size (fun i j => us (l + i) j) (by simp) (by rw [hlen]; omega) (fun e' he' => ?_) (fun i e' hi j p hj => ?_) (fun i e' hi j p hj => hr (l + i) e' (hget i e' hi) j p hj)
      · exact hsz e' (List.mem_of_mem_take (List.mem_of_mem_drop he'))
      · obtain ⟨g1, g2⟩ := hc (l + i) e' (hget i e' hi) j p hj
        rw [add_add, add_block, show l * d.size + (i * d.size + j) = (l + i) * d.size + j by rw [Nat.add_mul]; omega]
        exact ⟨g1, g2⟩
end Go.KV
namespace Go.KV
variable {P : Program} {T : TEnv} {N : Nat}
/-- Two lists in one, if memory bears it. -/
def appE (bytes : Nat) (es fs : List (List PV)) : Option (List (List PV)) :=
  bif Nat.ble ((es.length + fs.length) * bytes) 140737488355328 then some (es ++ fs) else none
theorem reads_one {w : World} {A : Nat → Prop} {p : PV} {v : Value} (h : Reads w A p v) : v.oneCell' = true := by cases h <;> rfl
/-- The cells of a row of elements, one after the other. -/
theorem row_cells {w : World} {A : Nat → Prop} {sz : Nat} (hsz : 0 < sz) {es : List (List PV)} (hl : ∀ e ∈ es, e.length = sz) {us : Nat → Nat → Value} {g : Nat → Option Value}
    (hc : ∀ i e, es[i]? = some e → ∀ j p, e[j]? = some p → g (i * sz + j) = some (us i j) ∧ Reads w A p (us i j)) :
    ∃ xs : List Value, xs.length = es.length * sz ∧ (∀ j u, xs[j]? = some u → g j = some u) ∧ (∀ u ∈ xs, u.oneCell' = true) ∧
      ∀ i e, es[i]? = some e → ∀ j p, e[j]? = some p → Reads w A p (xs.getD (i * sz + j) undef) := by
  let xs : List Value := (List.range (es.length * sz)).map fun j => us (j / sz) (j % sz)
  have hget : ∀ j u, xs[j]? = some u → ∃ i k e p, i * sz + k = j ∧ es[i]? = some e ∧ e[k]? = some p ∧ u = us i k := by
    intro j u hj
    have hlt : j < es.length * sz := by
      have := (List.getElem?_eq_some_iff.1 hj).1
      simpa [xs] using this
    have hu : u = us (j / sz) (j % sz) := by
      simp [xs, hlt] at hj
      exact hj.symm
    have h1 : j / sz < es.length := Nat.div_lt_of_lt_mul (by rw [Nat.mul_comm]; exact hlt)
    have h2 : j % sz < sz := Nat.mod_lt _ hsz
    have h3 : (es[j / sz]).length = sz := hl _ (List.getElem_mem h1)
    refine ⟨j / sz, j % sz, es[j / sz], (es[j / sz])[j % sz]'(by omega), ?_, by simp [h1], by simp, hu⟩
    rw [Nat.mul_comm]
    exact Nat.div_add_mod j sz
  refine ⟨xs, by simp [xs], fun j u hj => ?_, fun u hu => ?_, fun i e hi j p hj => ?_⟩
  · obtain ⟨i, k, e, p, h1, h2, h3, rfl⟩ := hget j u hj
    rw [← h1]
    exact (hc i e h2 k p h3).1
  · obtain ⟨j, hj, rfl⟩ := List.mem_iff_getElem.1 hu
    obtain ⟨i, k, e, p, h1, h2, h3, h4⟩ := hget j _ (List.getElem?_eq_getElem hj)
    rw [h4]
    exact reads_one (hc i e h2 k p h3).2
  · have hi' : i < es.length := (List.getElem?_eq_some_iff.1 hi).1
    have hj' : j < sz := by
      have := (List.getElem?_eq_some_iff.1 hj).1
      rwa [hl e (List.mem_of_getElem? hi)] at this
    have hlt : i * sz + j < es.length * sz := by
      have : (i + 1) * sz ≤ es.length * sz := Nat.mul_le_mul_right _ hi'
      rw [Nat.add_mul] at this
      omega
    have e1 : xs.getD (i * sz + j) undef = us i j := by
      have h1 : (i * sz + j) / sz = i := by
        rw [Nat.mul_comm, Nat.mul_add_div hsz, Nat.div_eq_of_lt hj', Nat.add_zero]
      have h2 : (i * sz + j) % sz = j := by
        rw [Nat.mul_comm, Nat.mul_add_mod, Nat.mod_eq_of_lt hj']
      simp [xs, hlt, h1, h2]
    rw [e1]
    exact (hc i e hi j p hj).2
/-- Nothing is appended. -/
theorem append_none {w : World} {t ty e : TypeId} {i : TypeInfo} (ht : P.underlying t = some (.slice e)) (hi : P.info? e = some i) (x : LE) (hx : x.len ≤ x.κ) :
    (Builtin.append_ #[t, t] ty #[x.slice, .slice none 0 0]).run P w = .ok x.slice w := by
  unfold LE.slice
  cases x.ν with
  | true => simp [Builtin.append_, run_underlying ht, sizeOf, typeInfo, hi, Builtin.lenOf, Builtin.firstCells]
  | false => simp [Builtin.append_, run_underlying ht, sizeOf, typeInfo, hi, Builtin.lenOf, Builtin.firstCells, hx, storeCells]
theorem append_run (hT : TOk P T) {w : World} {A : Nat → Prop} {L : Lay} {t e ty : TypeId} {td d : TD} (ht : T t = some td) (hk : td.k = .slice e) (hd : T e = some d) (hz : d.zero.length = d.size) (hp : 0 < d.size)
    {i : Nat} {es fs es' : List (List PV)} {nl : Option Bool} {x : Value} (ho : ObjRel w A L i (.arr d.size e es)) (hx : Reads w A (.sl nl d.size fs) x) (h : appE d.bytes es fs = some es') (hb : 0 < d.bytes) :
    ∃ v' w' ℓ, (Builtin.append_ #[t, t] ty #[(L i).slice, x]).run P w = .ok v' w' ∧ v' = LE.slice ℓ ∧ w.grownBy w' (L i).slice.ownBlock ∧ (ℓ.ν = false → ((L i).ν = false ∧ ℓ.φ = (L i).φ) ∨ ℓ.φ = w.heap.size) ∧
      ∀ A', (∀ p u, Reads w A p u → Reads w' A' p u) → ObjRel w' A' (L.set i ℓ) i (.arr d.size e es') := by
  obtain ⟨_, ut, zv, hI⟩ := tdOf_spec (hT _ _ ht)
  obtain ⟨i', u', z', hI'⟩ := tdOf_spec (hT _ _ hd)
  have hku := hI.k
  rw [hk] at hku
  cases ut <;> simp [tkOf] at hku
  rw [hku] at hI
  unfold appE at h
  obtain ⟨hbb, rfl⟩ := bif_some h
  have hbytes := Nat.le_of_ble_eq_true hbb
  have hsmall : es.length + fs.length ≤ 140737488355328 := Nat.le_trans (Nat.le_mul_of_pos_right _ hb) hbytes
  obtain ⟨o1, o2, o3⟩ := ho
  -- what is there
  have hown : ∃ xs, w.ownsRow 0 e d.size (L i).slice es.length xs ∧ ∀ k row, es[k]? = some row → ∀ j p, row[j]? = some p → Reads w A p (xs.getD (k * d.size + j) undef) := by
    cases hν : (L i).ν with
    | true =>
      refine ⟨[], ⟨by rw [o2 hν]; simp, .inl ⟨by simp [LE.slice, hν], by rw [o2 hν]; rfl⟩⟩, fun k row hk => ?_⟩
      rw [o2 hν] at hk
      simp at hk
    | false =>
      obtain ⟨c, g1, g2, g3, g6, g4, g5⟩ := o3 hν
      have hle : es.length * d.size ≤ c.size := by rw [g2]; exact Nat.mul_le_mul_right _ g3
      refine ⟨c.toList.take (es.length * d.size), ⟨by simp; omega, .inr ⟨(L i).φ, (L i).κ, c, by simp [LE.slice, hν, o1], Nat.zero_le _, g1, g3, g6, g2, rfl⟩⟩, fun k row hk j p hj => ?_⟩
      have := g5 k row hk j p hj
      have hk' := (List.getElem?_eq_some_iff.1 hk).1
      have hj' := (List.getElem?_eq_some_iff.1 hj).1
      rw [g4 row (List.mem_of_getElem? hk)] at hj'
      have hlt : k * d.size + j < es.length * d.size := by
        have : (k + 1) * d.size ≤ es.length * d.size := Nat.mul_le_mul_right _ hk'
        rw [Nat.add_mul] at this
        omega
      rw [List.getD_eq_getElem?_getD, List.getElem?_take, if_pos hlt, Array.getElem?_toList]
      rw [Array.getD_eq_getD_getElem?] at this
      exact this
  obtain ⟨xs, hown, hxs⟩ := hown
  -- what is appended
  have fin : ∀ (v' : Value) (w' : World) (news : List Value), news.length = fs.length * d.size →
      (∀ k row, fs[k]? = some row → ∀ j p, row[j]? = some p → Reads w A p (news.getD (k * d.size + j) undef)) → (∀ row ∈ fs, row.length = d.size) →
      w'.ownsRow 0 e d.size v' (es.length + fs.length) (xs ++ news) → w.grownBy w' (L i).slice.ownBlock → (v'.ownBlock = (L i).slice.ownBlock ∨ v'.ownBlock = some w.heap.size) →
      ∃ ℓ, v' = LE.slice ℓ ∧ (ℓ.ν = false → ((L i).ν = false ∧ ℓ.φ = (L i).φ) ∨ ℓ.φ = w.heap.size) ∧
        ∀ A', (∀ p u, Reads w A p u → Reads w' A' p u) → ObjRel w' A' (L.set i ℓ) i (.arr d.size e (es ++ fs)) := by
    intro v' w' news hnl hnews hfl hown' hgrow hat
    obtain ⟨hlx, hcase⟩ := hown'
    rcases hcase with ⟨rfl, h0⟩ | ⟨g, cap, cur, rfl, _, hcur, hle, hmax, hcs, htake⟩
    · refine ⟨{ φ := 0, ν := true }, rfl, fun h => (nomatch h), fun A' hr => ?_⟩
      have he : es ++ fs = [] := by
        apply List.eq_nil_of_length_eq_zero
        rw [List.length_append]; exact h0
      rw [he]
      refine ⟨by simp [Lay.set_eq], fun _ => rfl, fun h => ?_⟩
      rw [Lay.set_eq] at h
      cases h
    · refine ⟨{ φ := g, κ := cap, len := es.length + fs.length }, rfl, fun _ => ?_, fun A' hr => ?_⟩
      · rcases hat with h1 | h1
        · left
          cases hν : (L i).ν with
          | true => simp [LE.slice, hν, Value.ownBlock] at h1
          | false => simp [LE.slice, hν, Value.ownBlock] at h1; exact ⟨rfl, h1⟩
        · right
          simpa [Value.ownBlock] using h1
      · refine ⟨by simp [Lay.set_eq], fun h => (by rw [Lay.set_eq] at h; cases h), fun _ => ⟨cur, by rw [Lay.set_eq]; exact hcur, by rw [Lay.set_eq]; exact hcs, by rw [Lay.set_eq, List.length_append]; exact hle, by rw [Lay.set_eq]; exact hmax, ?_, ?_⟩⟩
        · intro row hrow
          rcases List.mem_append.1 hrow with h1 | h1
          · cases hν : (L i).ν with
            | true => rw [o2 hν] at h1; cases h1
            | false =>
              obtain ⟨c, _, _, _, _, g4, _⟩ := o3 hν
              exact g4 row h1
          · exact hfl row h1
        · intro k row hk j p hj
          have hcur' : ∀ n, n < (es.length + fs.length) * d.size → cur.getD n undef = (xs ++ news).getD n undef := by
            intro n hn
            rw [← htake, List.getD_eq_getElem?_getD, List.getElem?_take, if_pos hn, Array.getElem?_toList, Array.getD_eq_getD_getElem?]
          have hk' := (List.getElem?_eq_some_iff.1 hk).1
          rw [List.length_append] at hk'
          have hxl : xs.length = es.length * d.size := hown.1
          by_cases hke : k < es.length
          · rw [List.getElem?_append_left hke] at hk
            have hj' : j < d.size := by
              have := (List.getElem?_eq_some_iff.1 hj).1
              cases hν : (L i).ν with
              | true => rw [o2 hν] at hke; simp at hke
              | false =>
                obtain ⟨c, _, _, _, _, g4, _⟩ := o3 hν
                rwa [g4 row (List.mem_of_getElem? hk)] at this
            have hlt : k * d.size + j < es.length * d.size := by
              have : (k + 1) * d.size ≤ es.length * d.size := Nat.mul_le_mul_right _ hke
              rw [Nat.add_mul] at this
              omega
            rw [hcur' _ (by rw [Nat.add_mul]; omega), List.getD_eq_getElem?_getD, List.getElem?_append_left (by omega), ← List.getD_eq_getElem?_getD]
            exact hr _ _ (hxs k row hk j p hj)
          · rw [List.getElem?_append_right (by omega)] at hk
            have hj' : j < d.size := by
              have := (List.getElem?_eq_some_iff.1 hj).1
              rwa [hfl row (List.mem_of_getElem? hk)] at this
            have hkf := (List.getElem?_eq_some_iff.1 hk).1
            have hsum : k * d.size = es.length * d.size + (k - es.length) * d.size := by rw [← Nat.add_mul]; congr 1; omega
            have hlt : (k - es.length) * d.size + j < fs.length * d.size := by
              have : (k - es.length + 1) * d.size ≤ fs.length * d.size := Nat.mul_le_mul_right _ hkf
              rw [Nat.add_mul] at this
              omega
            rw [hcur' _ (by rw [Nat.add_mul]; omega), List.getD_eq_getElem?_getD, List.getElem?_append_right (by omega), ← List.getD_eq_getElem?_getD]
            rw [show k * d.size + j - xs.length = (k - es.length) * d.size + j by omega]
            exact hr _ _ (hnews _ row hk j p hj)
  cases hx with
  | nils hn =>
    have hle : (L i).len ≤ (L i).κ ∨ (L i).ν = true := by
      cases hν : (L i).ν with
      | true => exact .inr rfl
      | false =>
        obtain ⟨c, g1, g2, g3, _⟩ := o3 hν
        exact .inl (by rw [o1]; exact g3)
    have hrun : (Builtin.append_ #[t, t] ty #[(L i).slice, .slice none 0 0]).run P w = .ok (L i).slice w := by
      rcases hle with hle | hν
      · exact append_none hI.under hI'.info (L i) hle
      · have e : (L i).slice = (LE.slice { φ := 0, ν := true }) := by simp [LE.slice, hν]
        rw [e]
        exact append_none hI.under hI'.info _ (Nat.le_refl _)
    obtain ⟨ℓ, f1, f2, f3⟩ := fin (L i).slice w [] (by simp) (fun k row hk => by simp at hk) (by simp) (by simpa using hown) ⟨rfl, rfl, rfl, Nat.le_refl _, fun _ _ _ => rfl⟩ (.inl rfl)
    exact ⟨_, w, ℓ, hrun, f1, ⟨rfl, rfl, rfl, Nat.le_refl _, fun _ _ _ => rfl⟩, f2, f3⟩
  | row fs a cap _ us hn hcap hsz hc hr =>
    obtain ⟨news, n1, n2, n3, n4⟩ := row_cells (w := w) (A := A) hp hsz (us := us) (g := fun j => w.cell? (a.add j)) (fun k row hk j p hj => ⟨(hc k row hk j p hj).1, hr k row hk j p hj⟩)
    obtain ⟨v', w', r1, r2, r3, r4, r5⟩ := run_append_own_at (P := P) w 0 t ty e i' z' d.size d.bytes hI.under hI'.info hI'.zero hI'.size hI'.bytes (by rw [hI'.zsize, hz]) hp (L i).slice es.length xs hown a fs.length cap news n1 n2 n3
      (by simp only [maxLen]; omega) hbytes (Nat.zero_le _)
    obtain ⟨ℓ, f1, f2, f3⟩ := fin v' w' news n1 n4 hsz r2 r3 r5
    exact ⟨v', w', ℓ, r1, f1, r3, f2, f3⟩
end Go.KV
namespace Go.KV
variable {P : Program} {T : TEnv} {N : Nat}
def Stp.or : Stp → Stp → Stp
  | .no, b => b
  | a, _ => a
theorem Stp.has_or {a b : Stp} {r : Rec} (h : (a.or b).Has r) : a.Has r ∨ b.Has r := by
  cases a with
  | no => exact .inr h
  | does q => exact .inl h
  | bnd cs o k => exact .inl h
structure Env where
  T : TEnv
  ct : TypeId → List CT
  N : Nat
  Γ : List Ctr
  pu : List Nat
  eq : TypeId → Option (Bool × List CT) := fun _ => none
  sy : List Nat := []
  gl : List (Nat × List PV) := []
/-- The element type of a slice type. -/
def elemOf (T : TEnv) (t : TypeId) : Option (TypeId × TD) :=
  match T t with
  | some ⟨.slice e, _, _, _⟩ => match T e with
    | some d => some (e, d)
    | none => none
  | _ => none
theorem elemOf_spec {t e : TypeId} {d : TD} (h : elemOf T t = some (e, d)) : ∃ td, T t = some td ∧ td.k = .slice e ∧ T e = some d := by
  unfold elemOf at h
  split at h
  · rename_i e' _ _ _ ht
    split at h
    · rename_i d' hd
      cases h
      exact ⟨_, ht, rfl, hd⟩
    · cases h
  · cases h
/-- What all steps know. -/
structure Know (st : St) (o : Oper) (d : Nat) (vals : List VV) (rs : List (Nat × VV)) (N : Nat) : Prop where
  hd : o.dst = some d
  hN : d < N
  ev : evs st o.op.operands.toList = some vals
  rs : rsOf st (tmpsOf o.op.operands.toList) = some rs
theorem Know.get {st : St} {o : Oper} {d : Nat} {vals : List VV} {rs : List (Nat × VV)} (h : Know st o d vals rs N) : ∀ p ∈ rs, st.get p.1 = some p.2 := (rsOf_spec h.rs).1
theorem Know.evs' {st st' : St} {o : Oper} {d : Nat} {vals : List VV} {rs : List (Nat × VV)} (h : Know st o d vals rs N) (hs : ∀ p ∈ rs, st'.get p.1 = some p.2) : evs st' o.op.operands.toList = some vals := by
  rw [evs_local ((rsOf_spec h.rs).2 st' hs)]; exact h.ev
/-! Elements of slices. -/
def idxS (E : Env) (st : St) (o : Oper) (d : Nat) (vals : List VV) (rs : List (Nat × VV)) : Stp :=
  match o.op, vals with
  | .indexAddr t _ _, [x, .pv (.int _ i)] => match elemOf E.T t with
    | none => .no
    | some (e, td) => match x with
      | .pv (.sl _ sz es) => bif Nat.beq sz td.size then .val rs [] d (slNone st d) (E.ct e) (nthR (E.ct e) es i) fun y => .prow (encs (E.ct e) y) else .no
      | .own id => match st.obj id with
        | some (.arr sz e' es) => bif Nat.beq sz td.size then .bnd [] (inR es i) fun _ => { rs, ro := [], ws := [(d, .ptrE id sz i.toNat 0)], ab := slNone st d, rl := [(id, .arr sz e' es)] } else .no
        | _ => .no
      | _ => .no
  | _, _ => .no
theorem idxS_ok {E : Env} (hT : TOk P E.T) {st : St} {o : Oper} {d : Nat} {vals : List VV} {rs : List (Nat × VV)} (hk : Know st o d vals rs N) {r : Rec} (h : (idxS E st o d vals rs).Has r) : r.pre st ∧ RecOk P N o r := by
  unfold idxS at h
  split at h
  · rename_i t X Y x k i hop
    split at h
    · exact h.elim
    · rename_i e td he
      obtain ⟨tt, h1, h2, h3⟩ := elemOf_spec he
      split at h
      · rename_i nl sz es
        cases hb : Nat.beq sz td.size with
        | false => rw [hb] at h; exact h.elim
        | true =>
          rw [hb] at h
          have := Nat.eq_of_beq_eq_true hb
          subst this
          refine StpVal_ok hk.hd hk.hN hk.get (by simp) (fun y hy st' c L a w hrs hro hL => ?_) h
          have hrel := evs_rel hL (hk.evs' hrs)
          rw [hop] at hrel
          obtain ⟨v, u, ee, g1, g2⟩ := RelL.two hrel
          simp [Op.operands] at ee
          obtain ⟨rfl, rfl⟩ := ee
          have e2 := g2.int
          cases g1 with
          | pv g1 =>
            obtain ⟨u, r1, r2⟩ := index_pv (L := L) hT h1 h2 h3 g1 (k := k) hy
            refine ⟨u, ?_, r2⟩
            simp only [execOp, hop, e2, Sem.run_bind, r1, Result.andThen_ok, Sem.run_pure]
      · rename_i id
        split at h
        · rename_i sz e' es ho
          cases hb : Nat.beq sz td.size with
          | false => rw [hb] at h; exact h.elim
          | true =>
            rw [hb] at h
            have := Nat.eq_of_beq_eq_true hb
            subst this
            obtain ⟨y, hy, rfl⟩ := h
            refine ⟨⟨hk.get, by simp, by simp, by simp, fun hab p hp => by simp at hp; subst hp; exact slNone_spec hab, ?_, by simp⟩, ?_⟩
            · intro p hp
              simp at hp
              subst hp
              exact ⟨_, ho, rfl, rfl, rfl⟩
            intro st' c a w K Q hpre hcN ⟨L, hL⟩ hK
            have hrel := evs_rel hL (hk.evs' hpre.rs)
            rw [hop] at hrel
            obtain ⟨v, u, ee, g1, g2⟩ := RelL.two hrel
            simp [Op.operands] at ee
            obtain ⟨rfl, rfl⟩ := ee
            have e2 := g2.int
            obtain ⟨o', f1, f2⟩ := hpre.rl (id, .arr td.size e' es) (by simp [Rec.bare])
            cases o' with
            | arr sz2 e2' es2 =>
              obtain ⟨rfl, rfl, f3⟩ := f2
              have ho' := hL.rel id _ f1
              have e1 : a.eval X = (L id).slice := by
                generalize a.eval X = v at g1
                cases g1
                rfl
              have hin : inR es2 i = some () := by
                cases y
                cases i with
                | negSucc n => exact hy
                | ofNat n =>
                  show (bif Nat.blt n es2.length then some () else none) = some ()
                  rw [f3]
                  exact hy
              have r1 := index_own (P := P) (k := k) hT h1 h2 h3 rfl ho' (i := i) hin
              unfold Oper.wp
              have hex : (execOp a.eval o).run P w = .ok (.value (.pointer (some ⟨(L id).φ, i.toNat * td.size + 0, none⟩))) w := by
                simp only [execOp, hop, e1, e2, Sem.run_bind, r1, Result.andThen_ok, Sem.run_pure]
              rw [hex, Oper.upon_value, hk.hd]
              exact hK _ _ ⟨L, hL.put (.ptrE id td.size i.toNat 0) (by have := hcN.1; have := hk.hN; omega)⟩
            | _ => exact f2.elim
        · exact h.elim
      · exact h.elim
  · exact h.elim
end Go.KV
namespace Go.KV
variable {P : Program} {T : TEnv} {N : Nat} {E : Env}
/-! Fields of elements of owned slices. -/
def loadS (E : Env) (st : St) (o : Oper) (d : Nat) (vals : List VV) (rs : List (Nat × VV)) : Stp :=
  match o.op, vals with
  | .load t _, [.ptrE id sz i f] => match E.T t, st.obj id with
    | some td, some (.arr sz' e es) =>
      bif Nat.beq sz sz' && (bif td.k.agg then Nat.ble (f + td.size) (E.ct e).length else Nat.blt f (E.ct e).length) then
        .val rs [(id, .arr sz' e es)] d (slNone st d) (E.ct e) (nthN (E.ct e) es i) fun y => (loadE td f (encs (E.ct e) y)).getD .any
      else .no
    | _, _ => .no
  | _, _ => .no
theorem loadS_ok (hT : TOk P E.T) {st : St} {o : Oper} {d : Nat} {vals : List VV} {rs : List (Nat × VV)} (hk : Know st o d vals rs N) {r : Rec} (h : (loadS E st o d vals rs).Has r) : r.pre st ∧ RecOk P N o r := by
  unfold loadS at h
  split at h
  · rename_i t X id sz i f hop
    split at h
    · rename_i td sz' e es ht ho
      cases hb : (Nat.beq sz sz' && (bif td.k.agg then Nat.ble (f + td.size) (E.ct e).length else Nat.blt f (E.ct e).length)) with
      | false => rw [hb] at h; exact h.elim
      | true =>
        rw [hb] at h
        rw [Bool.and_eq_true] at hb
        have := Nat.eq_of_beq_eq_true hb.1
        subst this
        refine StpVal_ok hk.hd hk.hN hk.get (by simpa using ho) (fun y hy st' c L a w hrs hro hL => ?_) h
        have hrel := evs_rel hL (hk.evs' hrs)
        rw [hop] at hrel
        obtain ⟨v, ee, g1⟩ := RelL.one hrel
        simp [Op.operands] at ee
        subst ee
        have ho' := hL.rel id _ (hro (id, .arr sz e es) (by simp))
        obtain ⟨row, h1, h2, h3⟩ := nthN_some hy
        have e1 : a.eval X = .pointer (some ⟨(L id).φ, i * sz + f, none⟩) := by
          generalize a.eval X = v at g1
          cases g1
          rfl
        have hsome : ∃ x, loadE td f (encs (E.ct e) y) = some x := by
          have hl := encs_length (E.ct e) y
          unfold loadE
          have hb2 := hb.2
          cases hag : td.k.agg with
          | true =>
            rw [hag] at hb2
            simp only [cond_true] at hb2 ⊢
            rw [hl, hb2]
            exact ⟨_, rfl⟩
          | false =>
            rw [hag] at hb2
            simp only [cond_false] at hb2 ⊢
            have := Nat.le_of_ble_eq_true hb2
            rw [List.getElem?_eq_getElem (by omega)]
            exact ⟨_, rfl⟩
        obtain ⟨x, hx⟩ := hsome
        obtain ⟨u, r1, r2⟩ := loadE_run hT ht ho' h1 (h2.mono fun a b => Dq.le) hx
        refine ⟨u, ?_, by rw [hx]; exact r2⟩
        simp only [execOp, hop, e1, Sem.run_bind, r1, Result.andThen_ok, Sem.run_pure]
    · exact h.elim
  · exact h.elim
/-- A row with some cells new. -/
def patch (row : List PV) (f : Nat) (qs : List PV) : List PV := row.take f ++ (qs ++ row.drop (f + qs.length))
def storeS (E : Env) (st : St) (o : Oper) (vals : List VV) (rs : List (Nat × VV)) : Stp :=
  match o.op, vals with
  | .store t _ _, [.ptrE id sz i f, x] => match E.T t, st.obj id, mapO unpv (cellsV x) with
    | some td, some (.arr sz' e es), some qs =>
      bif Nat.beq sz sz' && Nat.beq qs.length td.size && Nat.ble (f + td.size) (E.ct e).length && Nat.beq (E.ct e).length sz && !isAny x then
        .bnd (E.ct e) (nthN (E.ct e) es i) fun y => { rs, ro := [(id, .arr sz' e es)], wo := [(id, .arr sz' e (es.set i (patch (encs (E.ct e) y) f qs)))], lk := [id] }
      else .no
    | _, _, _ => .no
  | _, _ => .no
theorem storeS_ok (hT : TOk P E.T) {st : St} {o : Oper} {vals : List VV} {rs : List (Nat × VV)} (hd : o.dst = none) (hev : evs st o.op.operands.toList = some vals)
    (hrs : rsOf st (tmpsOf o.op.operands.toList) = some rs) {r : Rec} (h : (storeS E st o vals rs).Has r) : r.pre st ∧ RecOk P N o r := by
  unfold storeS at h
  split at h
  · rename_i t X Y id sz i f x hop
    split at h
    · rename_i td sz' e es qs ht ho hq
      cases hb : (Nat.beq sz sz' && Nat.beq qs.length td.size && Nat.ble (f + td.size) (E.ct e).length && Nat.beq (E.ct e).length sz && !isAny x) with
      | false => rw [hb] at h; exact h.elim
      | true =>
        rw [hb] at h
        simp only [Bool.and_eq_true, Bool.not_eq_true'] at hb
        obtain ⟨⟨⟨⟨b1, b2⟩, b3⟩, b4⟩, b5⟩ := hb
        have := Nat.eq_of_beq_eq_true b1
        subst this
        have b2 := Nat.eq_of_beq_eq_true b2
        have b3 := Nat.le_of_ble_eq_true b3
        have b4 := Nat.eq_of_beq_eq_true b4
        obtain ⟨y, hy, rfl⟩ := h
        obtain ⟨hr1, hr2⟩ := rsOf_spec hrs
        refine ⟨⟨hr1, by simpa using ho, by simp, by simp, by simp, by simp, fun p hp _ => by simp at hp; subst hp; exact ⟨_, ho, rfl, rfl, by simp⟩⟩, ?_⟩
        intro st' c a w K Q hp hcN ⟨L, hL⟩ hK
        have hrel := evs_rel hL (by rw [evs_local (hr2 st' hp.rs)]; exact hev)
        rw [hop] at hrel
        obtain ⟨v, u, ee, g1, g2⟩ := RelL.two hrel
        simp [Op.operands] at ee
        obtain ⟨rfl, rfl⟩ := ee
        have hobj := hp.ro (id, .arr sz e es) (by simp [Rec.bare])
        have ho' := hL.rel id _ hobj
        obtain ⟨row, h1, h2, h3⟩ := nthN_some hy
        obtain ⟨hν, cc, k1, k2, k3, k4⟩ := arr_cell ho' h1
        have e1 : a.eval X = .pointer (some ⟨(L id).φ, i * sz + f, none⟩) := by
          generalize a.eval X = v at g1
          cases g1
          rfl
        obtain ⟨c1, c2⟩ := cellsV_rel g2 b5
        obtain ⟨q1, q2⟩ := mapO_spec hq
        have hcl : (a.eval Y).cells.size = td.size := by rw [c1, ← b2, q1]
        have hcell : ∀ j p, qs[j]? = some p → Reads w (st'.mut c L) p ((a.eval Y).cells.getD j undef) := by
          intro j p hj
          have := c2 j _ (unpv_spec hq j p hj)
          cases this with
          | pv h => exact h
        have hone : ∀ u ∈ (a.eval Y).cells.toList, u.oneCell' = true := by
          intro u hu
          obtain ⟨j, hj, rfl⟩ := List.mem_iff_getElem.1 hu
          have hjl : j < qs.length := by simp at hj; omega
          have := reads_one (hcell j _ (List.getElem?_eq_getElem hjl))
          simp at hj
          simpa [Array.getD_eq_getD_getElem?, hj] using this
        have hrun := store_run (P := P) hT ht k1 (v := a.eval Y) (off := i * sz + f) hcl (by omega) hone
        have hin : i < es.length := (List.getElem?_eq_some_iff.1 h1).1
        have hyl : (encs (E.ct e) y).length = sz := by rw [encs_length, b4]
        unfold Oper.wp
        have hex : (execOp a.eval o).run P w = .ok .skip (putRow w (L id).φ (writeAt cc (i * sz + f) (a.eval Y).cells.toList) e) := by
          simp only [execOp, hop, e1, Sem.run_bind, hrun, Result.andThen_ok, Sem.run_pure]
        rw [hex, Oper.upon_skip, hd]
        refine hK _ _ ⟨L, ?_⟩
        refine hL.change (o' := .arr sz e (es.set i (patch (encs (E.ct e) y) f qs))) hobj (by simp [Lay.off, VO.isArr, hν]) rfl rfl rfl (putRow_size ..) (fun b hb => putRow_ne _ _ _ _ _ hb) (fun A' hr hrd => ?_)
        obtain ⟨o1, o2, o3⟩ := ho'
        obtain ⟨c0, m1, m2, m3, m6, m4, m5⟩ := o3 hν
        have : c0 = cc := by
          rw [m1] at k1
          injection k1 with k1
          injection k1
        subst this
        refine ⟨by simpa using o1, fun h => (by have h5 := hν.symm.trans h; cases h5), fun _ => ⟨writeAt c0 (i * sz + f) (a.eval Y).cells.toList, putRow_heap _ _ _ _ (Array.getElem?_eq_some_iff.1 m1).1, by rw [writeAt_size]; exact m2, by simpa using m3, m6, ?_, ?_⟩⟩
        · intro row' hrow'
          rcases List.mem_or_eq_of_mem_set hrow' with h5 | h5
          · exact m4 row' h5
          · subst h5
            simp [patch, hyl]
            omega
        · intro k row' hk' j p hj
          rw [List.getElem?_set] at hk'
          have hwl : i * sz + f + (a.eval Y).cells.toList.length ≤ c0.size := by simp; omega
          rw [writeAt_get _ _ _ _ hwl]
          by_cases hki : i = k
          · subst hki
            simp only [if_true, hin] at hk'
            cases hk'
            unfold patch at hj
            by_cases hjf : j < f
            · rw [List.getElem?_append_left (by simp [hyl]; omega), List.getElem?_take, if_pos hjf] at hj
              rw [if_neg (by omega)]
              obtain ⟨q, hq', hle⟩ := h2.get j p hj
              exact hrd _ _ (hle.le _ _ _ (m5 i row h1 j q hq'))
            · rw [List.getElem?_append_right (by simp [hyl]; omega)] at hj
              have hmin : (List.take f (encs (E.ct e) y)).length = f := by simp [hyl]; omega
              rw [hmin] at hj
              by_cases hjq : j - f < qs.length
              · rw [List.getElem?_append_left hjq] at hj
                rw [if_pos (by simp; omega)]
                have := hcell _ _ hj
                have e2 : (a.eval Y).cells.toList.getD (i * sz + j - (i * sz + f)) undef = (a.eval Y).cells.getD (j - f) undef := by
                  rw [show i * sz + j - (i * sz + f) = j - f by omega]
                  simp [Array.getD_eq_getD_getElem?, List.getD_eq_getElem?_getD]
                rw [e2]
                exact hrd _ _ this
              · rw [List.getElem?_append_right (by omega), List.getElem?_drop] at hj
                rw [show f + qs.length + (j - f - qs.length) = j by omega] at hj
                rw [if_neg (by simp; omega)]
                obtain ⟨q, hq', hle⟩ := h2.get j p hj
                exact hrd _ _ (hle.le _ _ _ (m5 i row h1 j q hq'))
          · rw [if_neg hki] at hk'
            have hj' : j < sz := by
              have := (List.getElem?_eq_some_iff.1 hj).1
              rwa [m4 row' (List.mem_of_getElem? hk')] at this
            have hne : ¬ (i * sz + f ≤ k * sz + j ∧ k * sz + j < i * sz + f + (a.eval Y).cells.toList.length) := by
              rintro ⟨n1, n2⟩
              simp only [Array.length_toList] at n2
              rcases Nat.lt_or_ge k i with h6 | h6
              · have : (k + 1) * sz ≤ i * sz := Nat.mul_le_mul_right _ h6
                rw [Nat.add_mul] at this
                omega
              · have : (i + 1) * sz ≤ k * sz := Nat.mul_le_mul_right _ (by omega)
                rw [Nat.add_mul] at this
                omega
            rw [if_neg hne]
            exact hrd _ _ (m5 k row' hk' j p hj)
    · exact h.elim
  · exact h.elim
end Go.KV
namespace Go.KV
variable {P : Program} {T : TEnv} {N : Nat} {E : Env}
/-! Arithmetic that may fail. -/
def arithV (op : BinOp) (k : IntKind) (x y : Int) : Option (Bool × PV) :=
  match op with
  | .quo => some (!decide (y = 0), .int k (k.wrap (x.tdiv y)))
  | .rem => some (!decide (y = 0), .int k (x.tmod y))
  | .shl => some (decide (0 ≤ y), .int k (k.wrap (2 ^ (min y.toNat k.bits) * x)))
  | .shr => some (decide (0 ≤ y), .int k (x.fdiv (2 ^ (min y.toNat k.bits))))
  | _ => none
theorem arithV_int {op : BinOp} {k : IntKind} {x y : Int} {b : Bool} {p : PV} (h : arithV op k x y = some (b, p)) (hb : b = true) : binInt op k x y = some p := by
  subst hb
  unfold arithV at h
  split at h <;> simp only [Option.some.injEq, Prod.mk.injEq, reduceCtorEq, Bool.not_eq_true', decide_eq_false_iff_not, decide_eq_true_eq] at h
  · simp [binInt, h.1, h.2]
  · simp [binInt, h.1, h.2]
  · have : ¬ y < 0 := by omega
    simp [binInt, this, h.2]
  · have : ¬ y < 0 := by omega
    simp [binInt, this, h.2]
def arithS (E : Env) (st : St) (o : Oper) (d : Nat) (vals : List VV) (rs : List (Nat × VV)) : Stp :=
  match o.op, vals with
  | .binOp op _ _ _ _, [.pv (.int k x), .pv (.int j y)] => match arithV op k x y with
    | some (b, p) => bif isShift op || kindEq k j then .val rs [] d (slNone st d) [] (intB b) fun _ => .pv p else .no
    | none => .no
  | _, _ => .no
theorem arithS_ok {st : St} {o : Oper} {d : Nat} {vals : List VV} {rs : List (Nat × VV)} (hk : Know st o d vals rs N) {r : Rec} (h : (arithS E st o d vals rs).Has r) : r.pre st ∧ RecOk P N o r := by
  unfold arithS at h
  split at h
  · rename_i op xt X Y yt k x j y hop
    split at h
    · rename_i b p hp
      cases hb : (isShift op || kindEq k j) with
      | false => rw [hb] at h; exact h.elim
      | true =>
        rw [hb] at h
        refine StpVal_ok hk.hd hk.hN hk.get (by simp) (fun z hz st' c L a w hrs hro hL => ?_) h
        have hrel := evs_rel hL (hk.evs' hrs)
        rw [hop] at hrel
        obtain ⟨v, u, ee, g1, g2⟩ := RelL.two hrel
        simp [Op.operands] at ee
        obtain ⟨rfl, rfl⟩ := ee
        have hbt : b = true := by
          unfold intB at hz
          cases b <;> simp_all
        have hkk : isShift op = true ∨ k = j := by
          rw [Bool.or_eq_true] at hb
          exact hb.imp id kindEq_eq
        obtain ⟨v, r1, r2⟩ := binInt_run (P := P) (w := w) (t := xt) hkk (arithV_int hp hbt)
        refine ⟨v, ?_, .pv (r2 _)⟩
        have hg : ∀ u v, eqGuard op xt X Y u v = pure () := by
          intro u v
          cases op <;> first | rfl | (simp [arithV] at hp)
        simp only [execOp, hop, g1.int, g2.int, hg, Sem.run_bind, r1, Result.andThen_ok, Sem.run_pure]
    · exact h.elim
  · exact h.elim
/-! Parts of slices and strings. -/
def bndsOf (lo hi : Option Operand) (vals : List VV) (n : Int) : Option (Int × Int) :=
  match lo, hi, vals with
  | some _, some _, [.pv (.int _ l), .pv (.int _ h)] => some (l, h)
  | some _, none, [.pv (.int _ l)] => some (l, n)
  | none, some _, [.pv (.int _ h)] => some (0, h)
  | none, none, [] => some (0, n)
  | _, _, _ => none
def partS (E : Env) (st : St) (o : Oper) (d : Nat) (vals : List VV) (rs : List (Nat × VV)) : Stp :=
  match o.op, vals with
  | .slice t _ lo hi none, .pv (.sl _ sz es) :: vs => match elemOf E.T t, bndsOf lo hi vs es.length with
    | some (_, td), some (l, h) => bif Nat.beq sz td.size then .val rs [] d (slNone st d) [.sl sz] (subR es l h) fun es' => .pv (.sl none sz es') else .no
    | _, _ => .no
  | .slice t _ lo hi none, .pv (.str s) :: vs => match E.T t, bndsOf lo hi vs s.size with
    | some ⟨.str, _, _, _⟩, some (l, h) => .val rs [] d (slNone st d) [.str] (subS s l h) fun s' => .pv (.str s')
    | _, _ => .no
  | _, _ => .no
theorem bndsOf_vals {w : World} {A : Nat → Prop} {L : Lay} {lo hi : Option Operand} {vs : List VV} {n l h : Int} (hb : bndsOf lo hi vs n = some (l, h)) {ρ : Operand → Value} (hr : RelL w A L vs ((lo.toList ++ hi.toList).map ρ)) :
    ((∃ k, lo.map ρ = some (.int k l)) ∨ lo.map ρ = none ∧ l = 0) ∧ ((∃ k, hi.map ρ = some (.int k h)) ∨ hi.map ρ = none ∧ h = n) := by
  unfold bndsOf at hb
  split at hb
  · cases hb
    obtain ⟨v, u, ee, g1, g2⟩ := RelL.two hr
    simp at ee
    exact ⟨.inl ⟨_, congrArg some (ee.1.trans g1.int)⟩, .inl ⟨_, congrArg some (ee.2.trans g2.int)⟩⟩
  · cases hb
    obtain ⟨v, ee, g1⟩ := RelL.one hr
    simp at ee
    exact ⟨.inl ⟨_, congrArg some (ee.trans g1.int)⟩, .inr ⟨rfl, rfl⟩⟩
  · cases hb
    obtain ⟨v, ee, g1⟩ := RelL.one hr
    simp at ee
    exact ⟨.inr ⟨rfl, rfl⟩, .inl ⟨_, congrArg some (ee.trans g1.int)⟩⟩
  · cases hb
    exact ⟨.inr ⟨rfl, rfl⟩, .inr ⟨rfl, rfl⟩⟩
  · cases hb
theorem sub_str (hT : TOk P T) {w : World} {t : TypeId} {td : TD} (ht : T t = some td) (hk : td.k = .str) {s s' : ByteArray} {lo hi : Int} (h : subS s lo hi = some s') (lov hiv : Option Value)
    (hlo : (∃ k, lov = some (.int k lo)) ∨ lov = none ∧ lo = 0) (hhi : (∃ k, hiv = some (.int k hi)) ∨ hiv = none ∧ hi = s.size) :
    (Instr.sliceAt t (.string s) lov hiv none).run P w = .ok (.string s') w := by
  obtain ⟨_, ut, zv, hI⟩ := tdOf_spec (hT _ _ ht)
  have hku := hI.k
  rw [hk] at hku
  cases ut <;> simp [tkOf] at hku
  unfold subS at h
  obtain ⟨hb, rfl⟩ := bif_some h
  obtain ⟨b1, b2, b3⟩ := and3 hb
  have c1 := of_decide_eq_true b1
  have c2 := of_decide_eq_true b2
  have c3 := of_decide_eq_true b3
  obtain ⟨l, rfl⟩ := Int.eq_ofNat_of_zero_le c1
  obtain ⟨m, rfl⟩ := Int.eq_ofNat_of_zero_le (Int.le_trans c1 c2)
  have d1 : l ≤ m := by exact_mod_cast c2
  have d2 : m ≤ s.size := by exact_mod_cast c3
  rcases hlo with ⟨k1, rfl⟩ | ⟨rfl, h0⟩ <;> rcases hhi with ⟨k2, rfl⟩ | ⟨rfl, h1⟩
  · simp [Instr.sliceAt, Instr.slice, hI.run_under, Instr.sliceBounds, Instr.sliceBound, asIntOf, d1, d2]
  · have hm : m = s.size := by exact_mod_cast h1
    subst hm
    simp [Instr.sliceAt, Instr.slice, hI.run_under, Instr.sliceBounds, Instr.sliceBound, asIntOf, d1, d2]
  · have hl : l = 0 := by exact_mod_cast h0
    subst hl
    simp [Instr.sliceAt, Instr.slice, hI.run_under, Instr.sliceBounds, Instr.sliceBound, asIntOf, d1, d2]
  · have hl : l = 0 := by exact_mod_cast h0
    have hm : m = s.size := by exact_mod_cast h1
    subst hl; subst hm
    simp [Instr.sliceAt, Instr.slice, hI.run_under, Instr.sliceBounds, Instr.sliceBound, asIntOf, d1, d2]
theorem partS_ok (hT : TOk P E.T) {st : St} {o : Oper} {d : Nat} {vals : List VV} {rs : List (Nat × VV)} (hk : Know st o d vals rs N) {r : Rec} (h : (partS E st o d vals rs).Has r) : r.pre st ∧ RecOk P N o r := by
  unfold partS at h
  have hops : ∀ (t : TypeId) (X : Operand) (lo hi : Option Operand), (Op.slice t X lo hi none).operands.toList = X :: (lo.toList ++ hi.toList) := by
    intro t X lo hi
    cases lo <;> cases hi <;> rfl
  have tail : ∀ {w : World} {A : Nat → Prop} {L : Lay} {x : VV} {vs : List VV} {X : Operand} {l : List Operand} {ρ : Operand → Value}, RelL w A L (x :: vs) ((X :: l).map ρ) → RelV w A L x (ρ X) ∧ RelL w A L vs (l.map ρ) := by
    intro w A L x vs X l ρ hr
    exact ⟨by simpa using hr.2 0 x rfl, by simpa using hr.1, fun i y hi => by simpa using hr.2 (i + 1) y (by simpa using hi)⟩
  split at h
  · rename_i t X lo hi nl sz es vs hop
    split at h
    · rename_i e td l u he hb
      obtain ⟨tt, h1, h2, h3⟩ := elemOf_spec he
      cases hz : Nat.beq sz td.size with
      | false => rw [hz] at h; exact h.elim
      | true =>
        rw [hz] at h
        have := Nat.eq_of_beq_eq_true hz
        subst this
        refine StpVal_ok hk.hd hk.hN hk.get (by simp) (fun y hy st' c L a w hrs hro hL => ?_) h
        have hrel := evs_rel hL (hk.evs' hrs)
        rw [hop, hops] at hrel
        obtain ⟨g1, g2⟩ := tail hrel
        obtain ⟨b1, b2⟩ := bndsOf_vals hb g2
        cases g1 with
        | pv g1 =>
          obtain ⟨v, r1, r2⟩ := sub_pv hT h1 h2 h3 g1 hy _ _ b1 b2
          refine ⟨v, ?_, .pv r2⟩
          simp only [execOp, hop, Option.map_none, Sem.run_bind, r1, Result.andThen_ok, Sem.run_pure]
    · exact h.elim
  · rename_i t X lo hi s vs hop
    split at h
    · rename_i _ _ _ l u ht hb
      refine StpVal_ok hk.hd hk.hN hk.get (by simp) (fun y hy st' c L a w hrs hro hL => ?_) h
      have hrel := evs_rel hL (hk.evs' hrs)
      rw [hop, hops] at hrel
      obtain ⟨g1, g2⟩ := tail hrel
      obtain ⟨b1, b2⟩ := bndsOf_vals hb g2
      have r1 := sub_str (P := P) (w := w) hT ht rfl hy _ _ b1 b2
      refine ⟨_, ?_, .pv (.str _)⟩
      simp only [execOp, hop, g1.str, Option.map_none, Sem.run_bind, r1, Result.andThen_ok, Sem.run_pure]
    · exact h.elim
  · exact h.elim
/-- A byte of a string. -/
def byteS (E : Env) (st : St) (o : Oper) (d : Nat) (vals : List VV) (rs : List (Nat × VV)) : Stp :=
  match o.op, vals with
  | .index t _ _, [.pv (.str s), .pv (.int _ i)] => match E.T t with
    | some ⟨.str, _, _, _⟩ => .val rs [] d (slNone st d) [.int .u8] (byteR s i) fun b => .pv (.int .u8 b)
    | _ => .no
  | _, _ => .no
theorem byteS_ok (hT : TOk P E.T) {st : St} {o : Oper} {d : Nat} {vals : List VV} {rs : List (Nat × VV)} (hk : Know st o d vals rs N) {r : Rec} (h : (byteS E st o d vals rs).Has r) : r.pre st ∧ RecOk P N o r := by
  unfold byteS at h
  split at h
  · rename_i t X Y s k i hop
    split at h
    · rename_i _ _ _ ht
      refine StpVal_ok hk.hd hk.hN hk.get (by simp) (fun y hy st' c L a w hrs hro hL => ?_) h
      have hrel := evs_rel hL (hk.evs' hrs)
      rw [hop] at hrel
      obtain ⟨v, u, ee, g1, g2⟩ := RelL.two hrel
      simp [Op.operands] at ee
      obtain ⟨rfl, rfl⟩ := ee
      obtain ⟨_, ut, zv, hI⟩ := tdOf_spec (hT _ _ ht)
      have hku := hI.kind rfl
      cases ut <;> simp [tkOf] at hku
      cases i with
      | negSucc n => cases hy
      | ofNat n =>
        simp only [byteR] at hy
        split at hy
        · rename_i b hb
          cases hy
          refine ⟨.int .u8 b.toNat, ?_, .pv (.int _ _)⟩
          simp [execOp, hop, g1.str, g2.int, Instr.index, asIntOf, hI.run_under, hb]
        · cases hy
    · exact h.elim
  · exact h.elim
/-! Calls. -/
def callS (E : Env) (st : St) (o : Oper) (d : Nat) (vals : List VV) (rs : List (Nat × VV)) : Stp :=
  match o.op with
  | .call ⟨.value _, _, _⟩ => match calleeOf vals with
    | some (f, xs) => tryAll E.N st d f xs rs E.Γ
    | none => .no
  | _ => .no
theorem tryAll_ok {st : St} {o : Oper} {d : Nat} {F : Operand} {args : Array Operand} {ts : Array TypeId} (ho : o.op = .call ⟨.value F, args, ts⟩) {vals xs : List VV} {rs : List (Nat × VV)} (hk : Know st o d vals rs N)
    {f : FuncId} (hc : calleeOf vals = some (f, xs)) : ∀ {Γ : List Ctr}, (∀ C ∈ Γ, CtrOk P C) → ∀ {r : Rec}, (tryAll N st d f xs rs Γ).Has r → r.pre st ∧ RecOk P N o r
  | [], _, r, h => h.elim
  | C :: Γ, hΓ, r, h => by
    simp only [tryAll] at h
    cases hb : Nat.beq C.f f with
    | false =>
      rw [hb] at h
      exact tryAll_ok ho hk hc (fun C hC => hΓ C (List.mem_cons_of_mem _ hC)) h
    | true =>
      rw [hb] at h
      simp only [cond_true] at h
      have hf := Nat.eq_of_beq_eq_true hb
      subst hf
      split at h
      · exact tryAll_ok ho hk hc (fun C hC => hΓ C (List.mem_cons_of_mem _ hC)) h
      · exact callC_ok (hΓ C (by simp)) ho hk.hd hk.ev hk.rs hc h
theorem callS_ok (hN : E.N = N) (hΓ : ∀ C ∈ E.Γ, CtrOk P C) {st : St} {o : Oper} {d : Nat} {vals : List VV} {rs : List (Nat × VV)} (hk : Know st o d vals rs N) {r : Rec} (h : (callS E st o d vals rs).Has r) : r.pre st ∧ RecOk P N o r := by
  unfold callS at h
  split at h
  · rename_i F args ts hop
    split at h
    · rename_i f xs hc
      rw [hN] at h
      exact tryAll_ok hop hk hc hΓ h
    · exact h.elim
  · exact h.elim
end Go.KV
namespace Go.KV
variable {P : Program} {T : TEnv} {N : Nat} {E : Env}
/-! Composite literals as pure values. -/
def buildS (E : Env) (st : St) (o : Oper) (d : Nat) (vals : List VV) (rs : List (Nat × VV)) : Stp :=
  bif E.pu.any (Nat.beq d) then (match newOf E.T d o.op vals with
    | some (_, .arr sz e es) => bif objNone st d && st.soleB d [] [] && Nat.blt d impBase then
        .does { rs, ro := [], no := [d], ws := [(d, .pv (.sl none sz es))], ab := slNone st d } else .no
    | _ => .no) else .no
theorem newOf_arr {d : Nat} {op : Op} {vals : List VV} {x : VV} {sz : Nat} {e : TypeId} {es : List (List PV)} (h : newOf T d op vals = some (x, .arr sz e es)) : x = .own d := by
  unfold newOf at h
  split at h
  · rename_i y
    cases hb : isAny y <;> rw [hb] at h <;> cases h
  · split at h <;> cases h
  · split at h
    · split at h <;> cases h
    · cases h
  · split at h
    · split at h
      · rename_i td _
        cases hc : (Nat.beq td.size 0 || _ || _ || _) <;> rw [hc] at h
        · simp only [cond_false] at h
          split at h
          · split at h
            · cases h; rfl
            · cases h
          · cases h
        · cases h
      · cases h
    · cases h
  · cases h
theorem buildS_ok (hT : TOk P E.T) {st : St} {o : Oper} {d : Nat} {vals : List VV} {rs : List (Nat × VV)} (hk : Know st o d vals rs N) {r : Rec} (h : (buildS E st o d vals rs).Has r) : r.pre st ∧ RecOk P N o r := by
  unfold buildS at h
  cases hp : E.pu.any (Nat.beq d) with
  | false => rw [hp] at h; exact h.elim
  | true =>
    rw [hp] at h
    simp only [cond_true] at h
    split at h
    · rename_i x sz e es hnew
      cases hb : (objNone st d && st.soleB d [] [] && Nat.blt d impBase) with
      | false => rw [hb] at h; exact h.elim
      | true =>
        rw [hb] at h
        simp only [Bool.and_eq_true] at hb
        have hr : r = _ := Eq.symm h
        subst hr
        refine ⟨⟨hk.get, by simp, fun i hi => by simp at hi; subst hi; exact ⟨objNone_spec hb.1.1, St.soleB_spec hb.1.2⟩, by simp, fun hab p hp => by simp at hp; subst hp; exact slNone_spec hab, by simp, by simp⟩, ?_⟩
        intro st' c a w K Q hpre hcN ⟨L, hL⟩ hK
        have hev' := hk.evs' hpre.rs
        obtain ⟨hn, hs⟩ := hpre.no d (by simp [Rec.bare])
        obtain rfl := newOf_arr hnew
        obtain ⟨r, O, L', e1, e2, e3⟩ := newOf_run hT hL (evs_rel hL hev') hnew (Nat.le_of_ble_eq_true hb.2) hn hs (evs_sole hs hev')
        unfold Oper.wp
        rw [e1, Oper.upon_value, hk.hd]
        refine hK _ _ ⟨L', ?_⟩
        have hle : (st'.setObj d (.arr sz e es)).le st' := by
          refine ⟨fun k y hky => .inr ⟨y, hky, VLe.refl y⟩, fun i p hip => ⟨p, ?_, OLe.refl p⟩⟩
          rw [St.obj_setObj]
          by_cases hi : i = d
          · subst hi; rw [hn] at hip; cases hip
          · rw [if_neg hi]; exact hip
        have h2 := e2.le hle
        refine h2.put ?_ (by rw [hcN.1]; exact hk.hN)
        have ho := e2.rel d (.arr sz e es) (by rw [St.obj_setObj, if_pos rfl])
        have hrd := own_reads ho (B := st'.mut c L') (fun b hb' => mut_le hle b hb') (fun hν hmem => by
          have hoff : L'.off d (.arr sz e es) = false := by simp [Lay.off, VO.isArr, hν]
          rcases hmem with hS | ⟨i, p, hi, hpf, hφ⟩
          · exact (e2.own d _ (by rw [St.obj_setObj, if_pos rfl]) hoff).1 hS
          · have hid : i ≠ d := fun e => by subst e; rw [hn] at hi; cases hi
            exact hid (e2.inj i d p _ (by rw [St.obj_setObj, if_neg hid]; exact hi) (by rw [St.obj_setObj, if_pos rfl]) hpf hoff hφ))
        cases e3
        exact .pv hrd
    · exact h.elim
/-! Append. -/
def neR : List (List PV) → Option Unit
  | [] => none
  | _ :: _ => some ()
theorem Reads.tight {w : World} {A : Nat → Prop} {sz : Nat} {es : List (List PV)} {v : Value} (h : Reads w A (.sl none sz es) v) (hn : neR es = some ()) : Reads w A (.sl (some false) sz es) v := by
  cases h with
  | nils h => cases hn
  | row es a cap sz us h hcap hsz hc hr => exact .row es a cap sz us (by simp) hcap hsz hc hr
def VV.kill (i : Nat) (x : VV) : VV := bif VV.has i 6 x then .any else x
def VO.kill (i : Nat) : VO → VO
  | .box vs => .box (vs.map (VV.kill i))
  | .mpr kn vn es d => bif Nat.beq d i then .mp kn vn es else .mpr kn vn es d
  | .itr m b => bif Nat.beq m i then .blk else .itr m b
  | o => o
theorem kill_le (i : Nat) (x : VV) : VLe x (x.kill i) := by
  unfold VV.kill
  cases VV.has i 6 x with
  | true => exact VLe.any x
  | false => exact VLe.refl x
theorem kill_has (i : Nat) (x : VV) : VV.has i 6 (x.kill i) = false := by
  unfold VV.kill
  cases h : VV.has i 6 x with
  | true => rfl
  | false => exact h
theorem killO_le (i : Nat) (o : VO) : OLe o (o.kill i) := by
  cases o with
  | box vs =>
    refine OLe.box ?_
    induction vs with
    | nil => exact .nil
    | cons x vs ih => exact .cons (kill_le i x) ih
  | arr => exact OLe.refl _
  | mp => exact OLe.refl _
  | mpr kn vn es d =>
    simp only [VO.kill]
    cases Nat.beq d i with
    | true => exact OLe.mpr _ _ _ _
    | false => exact OLe.refl _
  | itr m b =>
    simp only [VO.kill]
    cases Nat.beq m i with
    | true => exact ⟨rfl, fun w A L id h => h.side rfl⟩
    | false => exact OLe.refl _
  | blk => exact OLe.refl _
theorem killO_has (i : Nat) (o : VO) : VO.has i (o.kill i) = false := by
  cases o with
  | box vs =>
    simp only [VO.kill, VO.has, List.any_eq_false, Bool.not_eq_true, List.mem_map]
    rintro x ⟨y, _, rfl⟩
    exact kill_has i y
  | arr => rfl
  | mp => rfl
  | mpr kn vn es d =>
    simp only [VO.kill]
    cases h : Nat.beq d i with
    | true => rfl
    | false => exact h
  | itr m b =>
    simp only [VO.kill]
    cases h : Nat.beq m i with
    | true => rfl
    | false => exact h
  | blk => rfl
def killL (i : Nat) : List (Nat × VO) → List (Nat × VO)
  | [] => []
  | (k, o) :: l => (k, o.kill i) :: killL i l
/-- Objects but i that speak of it. -/
def speakO (st : St) (i : Nat) : List Nat := (st.hp.filter fun p => !Nat.beq p.1 i && VO.has i p.2).map (·.1)
def appR (st : St) (d : Nat) (rs : List (Nat × VV)) (i sz : Nat) (e : TypeId) (es : List (List PV)) (X Y : List Nat) (es' : List (List PV)) : Rec :=
  { rs, ro := (i, .arr sz e es) :: roCall st Y, uq := [(i, d :: X, Y)], ws := (d, .own i) :: anys X, wo := (i, .arr sz e es') :: killL i (roCall st Y), ab := bif empty X then slNone st d else false }
def appS (E : Env) (st : St) (o : Oper) (d : Nat) (vals : List VV) (rs : List (Nat × VV)) : Stp :=
  match o.op, vals with
  | .call ⟨.builtin .append, as, ts⟩, [.own i, .pv (.sl _ sz fs)] => match ts.toList, st.obj i with
    | [t, t'], some (.arr sz' e es) => match elemOf E.T t with
      | some (e', td) =>
        let X := speak st d [i]
        let Y := speakO st i
        bif Nat.beq t t' && Nat.beq as.size 2 && Nat.beq e e' && Nat.beq sz td.size && Nat.beq sz' td.size && Nat.beq td.zero.length td.size && Nat.blt 0 td.size && Nat.blt 0 td.bytes && st.soleB i (d :: X) Y && !Y.any (Nat.beq i) &&
          (Nat.blt i impBase || Nat.ble (2 * impBase) i) then
          .bnd [.sl sz] (appE td.bytes es fs) (fun es' => appR st d rs i sz' e es X Y es')
        else .no
      | none => .no
    | _, _ => .no
  | .call ⟨.builtin .append, as, ts⟩, [.pv (.sl (some b0) _ _), .pv (.sl _ sz fs)] => match ts.toList with
    | [t, t'] => match elemOf E.T t with
      | some (e, td) =>
        bif Nat.beq t t' && Nat.beq as.size 2 && Nat.beq sz td.size && Nat.beq td.zero.length td.size && Nat.blt 0 td.size && Nat.blt 0 td.bytes && objNone st d && st.soleB d [] [] && Nat.blt d impBase then
          (bif E.pu.any (Nat.beq d) then .bnd [.sl sz] (((intB b0).bind fun _ => appE td.bytes [] fs).bind fun es' => (neR es').bind fun _ => some es') fun es' => { rs, ro := [], no := [d], ws := [(d, .pv (.sl (some false) sz es'))], ab := slNone st d }
          else .bnd [.sl sz] ((intB b0).bind fun _ => appE td.bytes [] fs) fun es' => { rs, ro := [], no := [d], ws := [(d, .own d)], wo := [(d, .arr sz e es')], ab := slNone st d })
        else .no
      | none => .no
    | _ => .no
  | _, _ => .no
theorem killL_mem {i : Nat} : ∀ {l : List (Nat × VO)} {k : Nat} {x : VO}, (k, x) ∈ killL i l ↔ ∃ o, (k, o) ∈ l ∧ x = o.kill i
  | [], k, x => by simp [killL]
  | (j, p) :: l, k, x => by
    simp only [killL, List.mem_cons, killL_mem, Prod.mk.injEq]
    constructor
    · rintro (⟨rfl, rfl⟩ | ⟨o, h1, h2⟩)
      · exact ⟨p, .inl ⟨rfl, rfl⟩, rfl⟩
      · exact ⟨o, .inr h1, h2⟩
    · rintro ⟨o, ⟨rfl, rfl⟩ | h1, h2⟩
      · exact .inl ⟨rfl, h2⟩
      · exact .inr ⟨o, h1, h2⟩
theorem append_exec {ρ : Operand → Value} {o : Oper} {as : Array Operand} {t : TypeId} {w w' : World} {u v x : Value} (ho : o.op = .call ⟨.builtin .append, as, #[t, t]⟩) (has : as.toList.map ρ = [u, x])
    (h : ∀ ty, (Builtin.append_ #[t, t] ty #[u, x]).run P w = .ok v w') : (execOp ρ o).run P w = .ok (.value v) w' := by
  have e : as.map ρ = #[u, x] := by
    apply Array.ext'
    simpa using has
  simp only [execOp, ho, resolve, invoke, builtin, Sem.run_bind, Sem.run_pure, Result.andThen_ok, e, h]
theorem two_toList {ts : Array TypeId} {t t' : TypeId} (h : ts.toList = [t, t']) : ts = #[t, t'] := by
  apply Array.ext'
  simpa using h
theorem appS_ok (hT : TOk P E.T) {st : St} {o : Oper} {d : Nat} {vals : List VV} {rs : List (Nat × VV)} (hk : Know st o d vals rs N) {r : Rec} (h : (appS E st o d vals rs).Has r) : r.pre st ∧ RecOk P N o r := by
  unfold appS at h
  split at h
  · rename_i as ts i nl sz fs hop
    split at h
    · rename_i t t' sz' e es hts ho
      split at h
      · rename_i e' td he
        simp only at h
        obtain ⟨tt, h1, h2, h3⟩ := elemOf_spec he
        generalize hX : speak st d [i] = X at h
        generalize hY : speakO st i = Y at h
        cases hb : (Nat.beq t t' && Nat.beq as.size 2 && Nat.beq e e' && Nat.beq sz td.size && Nat.beq sz' td.size && Nat.beq td.zero.length td.size && Nat.blt 0 td.size && Nat.blt 0 td.bytes && st.soleB i (d :: X) Y && !Y.any (Nat.beq i) &&
          (Nat.blt i impBase || Nat.ble (2 * impBase) i)) with
        | false => rw [hb] at h; exact h.elim
        | true =>
          rw [hb] at h
          obtain ⟨es', hes, rfl⟩ := h
          simp only [Bool.and_eq_true, Bool.or_eq_true, Bool.not_eq_true'] at hb
          obtain ⟨⟨⟨⟨⟨⟨⟨⟨⟨⟨b1, b2⟩, b3⟩, b4⟩, b5⟩, b6⟩, b7⟩, b8⟩, b9⟩, b10⟩, b11⟩ := hb
          obtain rfl := Nat.eq_of_beq_eq_true b1
          obtain rfl := Nat.eq_of_beq_eq_true b3
          obtain rfl := Nat.eq_of_beq_eq_true b4
          obtain rfl := Nat.eq_of_beq_eq_true b5
          have b6 := Nat.eq_of_beq_eq_true b6
          have b7 : 0 < td.size := Nat.le_of_ble_eq_true b7
          have b8 : 0 < td.bytes := Nat.le_of_ble_eq_true b8
          have hsole := St.soleB_spec b9
          have him : i < impBase ∨ 2 * impBase ≤ i := b11.imp Nat.le_of_ble_eq_true Nat.le_of_ble_eq_true
          have hiY : i ∉ Y := fun hm => by
            have : Y.any (Nat.beq i) = true := by rw [List.any_eq_true]; exact ⟨i, hm, by simp⟩
            rw [this] at b10; cases b10
          have hdX : d ∉ X := by
            rw [← hX]
            unfold speak
            rw [List.mem_map]
            rintro ⟨p, hp', rfl⟩
            rw [List.mem_filter] at hp'
            simp at hp'
          have hYo : ∀ k ∈ Y, ∃ p, st.obj k = some p := by
            intro k hk
            rw [← hY] at hk
            unfold speakO at hk
            rw [List.mem_map] at hk
            obtain ⟨q, hq, rfl⟩ := hk
            exact look_of_key (mem_keys.2 ⟨q.2, (List.mem_filter.1 hq).1⟩)
          refine ⟨⟨hk.get, fun p hp => ?_, by simp [appR], fun p hp => by simp [appR] at hp; subst hp; exact hsole, fun hab p hp => ?_, by simp [appR], by simp [appR]⟩, ?_⟩
          · rcases List.mem_cons.1 hp with rfl | hp
            · exact ho
            · exact roCall_obj hp
          · simp only [appR] at hab hp
            cases hx : empty X with
            | false => rw [hx] at hab; cases hab
            | true =>
              rw [hx] at hab
              rw [empty_eq hx] at hp
              simp [anys] at hp
              subst hp
              exact slNone_spec hab
          · intro st' c a w K Q hpre hcN ⟨L, hL⟩ hK
            have hrel := evs_rel hL (hk.evs' hpre.rs)
            rw [hop] at hrel
            have hops : (Op.call ⟨.builtin .append, as, ts⟩).operands.toList = as.toList := by simp [Op.operands, Call.operands]
            rw [hops] at hrel
            obtain ⟨v, u, ee, g1, g2⟩ := RelL.two hrel
            have hobj : st'.obj i = some (.arr td.size e es) := hpre.ro (i, .arr td.size e es) (by simp [Rec.bare, appR])
            have ho' := hL.rel i _ hobj
            have hv : v = (L i).slice := by cases g1; rfl
            subst hv
            cases g2 with
            | pv g2 =>
            have hrun := fun ty => append_run (P := P) (L := L) (ty := ty) hT h1 h2 h3 b6 b7 ho' g2 hes b8
            obtain ⟨v', w', ℓ, r1, r2, r3, r4, r5⟩ := hrun o.type
            have hts' := two_toList hts
            subst hts'
            have hex : (execOp a.eval o).run P w = .ok (.value v') w' := append_exec hop ee (by
              intro ty
              exact r1)
            unfold Oper.wp
            rw [hex, Oper.upon_value, hk.hd]
            refine hK _ _ ⟨L.set i ℓ, ?_⟩
            have hsole' := hpre.uq (i, d :: X, Y) (by simp [Rec.bare, appR])
            have hro' : ∀ k p, (k, p) ∈ roCall st Y → st'.obj k = some p := fun k p hkp => hpre.ro (k, p) (by
              simp only [Rec.bare, appR]
              exact List.mem_cons_of_mem _ hkp)
            refine own_main hL hobj him r2 r3 r4 r5 (by rw [hcN.1]; exact hk.hN) (fun k p hkp => ?_) (fun k x hkx => ?_)
            · by_cases hw : ∃ x, (k, x) ∈ (appR st d rs i td.size e es X Y es').wo
              · obtain ⟨x, m1, m2⟩ := (app_obj_mem (appR st d rs i td.size e es X Y es') st' st' k hw).2
                rw [hkp] at m1
                cases m1
                rcases List.mem_cons.1 m2 with m2 | m2
                · cases m2; exact .inl ⟨rfl, rfl⟩
                · obtain ⟨q, q1, rfl⟩ := killL_mem.1 m2
                  have hkY : k ∈ Y := by
                    have key : ∀ (l : List Nat), (k, q) ∈ roCall st l → k ∈ l := by
                      intro l
                      induction l with
                      | nil => intro h; cases h
                      | cons j l ih =>
                        intro h
                        simp only [roCall] at h
                        split at h
                        · rcases List.mem_cons.1 h with h | h
                          · cases h; exact List.mem_cons_self
                          · exact List.mem_cons_of_mem _ (ih h)
                        · exact List.mem_cons_of_mem _ (ih h)
                    exact key Y q1
                  exact .inr ⟨fun e => hiY (by rw [← e]; exact hkY), q, hro' k q q1, killO_le i q, killO_has i q⟩
              · rw [app_obj _ _ _ fun x hx => hw ⟨x, hx⟩] at hkp
                have hki : k ≠ i := fun e => hw ⟨.arr td.size _ es', by subst e; exact List.mem_cons_self⟩
                have hkY : k ∉ Y := by
                  intro hm
                  obtain ⟨q, hq⟩ := hYo k hm
                  exact hw ⟨q.kill i, List.mem_cons_of_mem _ (killL_mem.2 ⟨q, roCall_mem hm hq, rfl⟩)⟩
                exact .inr ⟨hki, p, hkp, OLe.refl p, hsole'.2 k p hkp hkY⟩
            · have e1 : ((appR st d rs i td.size e es X Y es').app st').get k = if k ∈ X then some .any else (st'.put d (.own i)).get k := by
                unfold Rec.app
                rw [setObjs_get]
                show (puts (st'.put d _) (anys X)).get k = _
                rw [anys_get]
              rw [e1] at hkx
              by_cases hkX : k ∈ X
              · rw [if_pos hkX] at hkx
                cases hkx
                exact .inr ⟨fun e => hdX (by rw [← e]; exact hkX), .inl rfl⟩
              · rw [if_neg hkX, St.get_put] at hkx
                by_cases hkd : k = d
                · rw [if_pos hkd] at hkx
                  cases hkx
                  exact .inl ⟨hkd, rfl⟩
                · rw [if_neg hkd] at hkx
                  exact .inr ⟨hkd, .inr ⟨hkx, hsole'.1 k x hkx (by simp [hkd, hkX])⟩⟩
      · exact h.elim
    · exact h.elim
  · rename_i as ts b0 n0 es0 nl sz fs hop
    split at h
    · rename_i t t' hts
      split at h
      · rename_i e td he
        obtain ⟨tt, h1, h2, h3⟩ := elemOf_spec he
        cases hb : (Nat.beq t t' && Nat.beq as.size 2 && Nat.beq sz td.size && Nat.beq td.zero.length td.size && Nat.blt 0 td.size && Nat.blt 0 td.bytes && objNone st d && st.soleB d [] [] && Nat.blt d impBase) with
        | false => rw [hb] at h; exact h.elim
        | true =>
          rw [hb] at h
          simp only [Bool.and_eq_true] at hb
          obtain ⟨⟨⟨⟨⟨⟨⟨⟨b1, b2⟩, b4⟩, b6⟩, b7⟩, b8⟩, b9⟩, b10⟩, b11⟩ := hb
          obtain rfl := Nat.eq_of_beq_eq_true b1
          obtain rfl := Nat.eq_of_beq_eq_true b4
          have b6 := Nat.eq_of_beq_eq_true b6
          have b7 : 0 < td.size := Nat.le_of_ble_eq_true b7
          have b8 : 0 < td.bytes := Nat.le_of_ble_eq_true b8
          have hdi : d < impBase := Nat.le_of_ble_eq_true b11
          -- what holds behind it
          have main : ∀ (es' : List (List PV)), ((intB b0).bind fun _ => appE td.bytes [] fs) = some es' → ∀ (st' : St) (c : Ctx) (a : Act) (w : World), (∀ p ∈ rs, st'.get p.1 = some p.2) → st'.obj d = none → Sole st' d [] [] → COk P N c → Holds c st' a w →
              ∃ v' w', (execOp a.eval o).run P w = .ok (.value v') w' ∧ Holds c ((st'.put d (.own d)).setObj d (.arr td.size e es')) (a.put (some d) v') w' := by
            intro es' hes st' c a w hrs hn hs hcN ⟨L, hL⟩
            rw [Option.bind_eq_some_iff] at hes
            obtain ⟨q0, hq0, hes⟩ := hes
            have hbt : b0 = true := by
              unfold intB at hq0
              cases b0 <;> simp_all
            subst hbt
            have hv := hL.virt hdi hn hs td.size e
            have hrel := evs_rel hv (hk.evs' (st' := st'.setObj d (.arr td.size e [])) hrs)
            rw [hop] at hrel
            have hops : (Op.call ⟨.builtin .append, as, ts⟩).operands.toList = as.toList := by simp [Op.operands, Call.operands]
            rw [hops] at hrel
            obtain ⟨v, u, ee, g1, g2⟩ := RelL.two hrel
            have hobj : (st'.setObj d (.arr td.size e [])).obj d = some (.arr td.size e []) := by rw [St.obj_setObj, if_pos rfl]
            have ho' := hv.rel d _ hobj
            have hvn : v = ((L.set d { φ := 0, ν := true }) d).slice := by
              rw [Lay.set_eq]
              cases g1 with
              | pv g1 =>
                cases g1 with
                | nils => rfl
                | row es a cap sz us h => exact absurd rfl h
            subst hvn
            cases g2 with
            | pv g2 =>
            obtain ⟨v', w', ℓ, r1, r2, r3, r4, r5⟩ := append_run (P := P) (L := L.set d { φ := 0, ν := true }) (ty := o.type) hT h1 h2 h3 b6 b7 ho' g2 hes b8
            have hts' := two_toList hts
            subst hts'
            have hex : (execOp a.eval o).run P w = .ok (.value v') w' := append_exec hop ee (fun ty => r1)
            refine ⟨v', w', hex, (L.set d { φ := 0, ν := true }).set d ℓ, ?_⟩
            refine own_main hv hobj (.inl hdi) r2 r3 r4 r5 (by rw [hcN.1]; exact hk.hN) (fun k p hkp => ?_) (fun k x hkx => ?_)
            · rw [St.obj_setObj] at hkp
              by_cases hkd : k = d
              · rw [if_pos hkd] at hkp
                cases hkp
                exact .inl ⟨hkd, rfl⟩
              · rw [if_neg hkd] at hkp
                exact .inr ⟨hkd, p, by rw [St.obj_setObj, if_neg hkd]; exact hkp, OLe.refl p, hs.2 k p hkp (by simp)⟩
            · rw [St.get_setObj, St.get_put] at hkx
              by_cases hkd : k = d
              · rw [if_pos hkd] at hkx
                cases hkx
                exact .inl ⟨hkd, rfl⟩
              · rw [if_neg hkd] at hkx
                exact .inr ⟨hkd, .inr ⟨hkx, hs.1 k x hkx (by simp)⟩⟩
          have hpre0 : ∀ (ws : VV) (wo : List (Nat × VO)), (Rec.mk rs [] [d] [] [(d, ws)] wo (slNone st d) [] []).pre st := fun ws wo =>
            ⟨hk.get, by simp, fun j hj => by simp at hj; subst hj; exact ⟨objNone_spec b9, St.soleB_spec b10⟩, by simp, fun hab p hp => by simp at hp; subst hp; exact slNone_spec hab, by simp, by simp⟩
          cases hpu : E.pu.any (Nat.beq d) with
          | true =>
            rw [hpu] at h
            obtain ⟨es', hes, rfl⟩ := h
            rw [Option.bind_eq_some_iff] at hes
            obtain ⟨es1, hes, hes1⟩ := hes
            rw [Option.bind_eq_some_iff] at hes1
            obtain ⟨q1, hne, hes1⟩ := hes1
            cases hes1
            refine ⟨hpre0 _ _, ?_⟩
            intro st' c a w K Q hpre hcN hH hK
            obtain ⟨hn, hs⟩ := hpre.no d (by simp [Rec.bare])
            obtain ⟨v', w', hex, L2, hL2⟩ := main es' hes st' c a w hpre.rs hn hs hcN hH
            unfold Oper.wp
            rw [hex, Oper.upon_value, hk.hd]
            refine hK _ _ ⟨L2, ?_⟩
            have hle : ((st'.put d (.own d)).setObj d (.arr td.size e es')).le (st'.put d .any) := by
              refine ⟨fun k y hky => ?_, fun i p hip => ⟨p, ?_, OLe.refl p⟩⟩
              · rw [St.get_put] at hky
                by_cases hkd : k = d
                · rw [if_pos hkd] at hky
                  cases hky
                  exact .inl fun w A L v => .any v
                · rw [if_neg hkd] at hky
                  exact .inr ⟨y, by rw [St.get_setObj, St.get_put, if_neg hkd]; exact hky, VLe.refl y⟩
              · have hip2 : st'.obj i = some p := hip
                rw [St.obj_setObj]
                by_cases hi : i = d
                · rw [hi, hn] at hip2; cases hip2
                · rw [if_neg hi]; exact hip2
            have h2 := hL2.le hle
            have ho := hL2.rel d (.arr td.size e es') (by rw [St.obj_setObj, if_pos rfl])
            have hrd := own_reads ho (B := (st'.put d .any).mut c L2) (fun b hb' => mut_le hle b hb') (fun hν hmem => by
              have hoff : L2.off d (.arr td.size e es') = false := by simp [Lay.off, VO.isArr, hν]
              rcases hmem with hS | ⟨i, p, hi, hpf, hφ⟩
              · exact (hL2.own d _ (by rw [St.obj_setObj, if_pos rfl]) hoff).1 hS
              · have hi' : st'.obj i = some p := hi
                have hid : i ≠ d := fun e => by rw [e, hn] at hi'; cases hi'
                exact hid (hL2.inj i d p _ (by rw [St.obj_setObj, if_neg hid]; exact hi') (by rw [St.obj_setObj, if_pos rfl]) hpf hoff hφ))
            have hsl := hL2.slots d (.own d) (by rw [St.get_setObj, St.get_put, if_pos rfl])
            have hval : (a.put (some d) v').tmps.getD d undef = (L2 d).slice := by
              generalize (a.put (some d) v').tmps.getD d undef = z at hsl
              cases hsl
              rfl
            exact {
              own := h2.own, inj := h2.inj, rel := h2.rel, os := h2.os, tape := h2.tape, output := h2.output, size := h2.size, same := h2.same, old := h2.old, stay := h2.stay, impId := h2.impId, glob := h2.glob
              slots := fun k x hkx => by
                have hkx : (st'.put d (.pv (.sl (some false) td.size es'))).get k = some x := hkx
                rw [St.get_put] at hkx
                by_cases hkd : k = d
                · rw [if_pos hkd] at hkx
                  cases hkx
                  rw [hkd, hval]
                  exact .pv (hrd.tight hne)
                · rw [if_neg hkd] at hkx
                  exact h2.slots k x (by rw [St.get_put, if_neg hkd]; exact hkx)
              tsize := h2.tsize
              defers := h2.defers }
          | false =>
            rw [hpu] at h
            obtain ⟨es', hes, rfl⟩ := h
            refine ⟨hpre0 _ _, ?_⟩
            intro st' c a w K Q hpre hcN hH hK
            obtain ⟨hn, hs⟩ := hpre.no d (by simp [Rec.bare])
            obtain ⟨v', w', hex, L2, hL2⟩ := main es' hes st' c a w hpre.rs hn hs hcN hH
            unfold Oper.wp
            rw [hex, Oper.upon_value, hk.hd]
            exact hK _ _ ⟨L2, hL2⟩
      · exact h.elim
    · exact h.elim
  · exact h.elim
end Go.KV
