/-
  RestrictWordsMatchReference: Words returns what the reference implementation returns, for any plain text and offsets.
-/
import Derived.Test.YtecmmhngjjhieaaGreatDoorL10
import Derived.Test.YtecmmhngjjhieaaGreatDoorR1
import Derived.Test.YtecmmhngjjhieaaGreatDoorZ10k
import Derived.Test.YtecmmhngjjhieaaGreatDoorZ10m
import Derived.Test.YtecmmhngjjhieaaGreatDoorCards
import Derived.Test.YtecmmhngjjhieaaGreatDoorTie
import Derived.WalkKit
import Derived.ProofKit
import Derived.OpenShut
import Derived.SevenTiedAt
import Derived.Deep.DeepHandedRow
import Derived.Lib.LaidTab
import Derived.ChangeStays
import Derived.ChangeBook
set_option maxRecDepth 100000
set_option maxHeartbeats 4000000
set_option linter.unusedSimpArgs false
set_option linter.unusedVariables false
namespace Go.Proofs.YtecmmhngjjhieaaGreatDoor
open Go Go.KV Go.ChangeShapes Go.WideShapes Go.ChangeAt Go.RowKit
theorem own : ownKnob Tryz.prog.godebug = none := by kernel_rfl
def zs64 : List Int := [0, 1, 56, 2, 57, 49, 28, 3, 61, 58, 42, 50, 38, 29, 17, 4, 62, 47, 59, 36, 45, 43, 51, 22, 53, 39, 33, 30, 24, 18, 12, 5, 63, 55, 48, 27, 60, 41, 37, 16, 46, 35, 44, 21, 52, 32, 23, 11, 54, 26, 40, 15, 34, 20, 31, 10, 25, 14, 19, 9, 13, 8, 7, 6]
theorem gTab : Tryz.prog.globalNamed "math/bits.deBruijn64tab" = some 0 := by kernel_rfl
theorem gTabType : (Tryz.prog.globals[0]?).map (·.type) = some 507 := by kernel_rfl
theorem uTab : Tryz.prog.underlying 507 = some (.array 64 5) := by kernel_rfl
theorem u8T : Tryz.prog.underlying 5 = some (.int .u8) := by kernel_rfl
theorem cells8 : Tryz.prog.cellsOf 5 = 1 := by kernel_rfl
theorem cellsTab : Tryz.prog.cellsOf 507 = 64 := by kernel_rfl
/-- What the row's list gives: the table's cells hold its numbers. -/
theorem table {W : World} (h : laidMetH Tryz.prog Rows.restrictWordsMatchReferenceRow.laid W) : Lib.TabIs Tryz.prog W "math/bits.deBruijn64tab" .u8 zs64 :=
  Lib.tabIs_of_head (rest := []) gTab gTabType uTab u8T cells8 cellsTab h
theorem glTab_is : glTab = zs64.map (PV.int .u8) := by kernel_rfl
theorem globs {W : World} (h : laidMetH Tryz.prog Rows.restrictWordsMatchReferenceRow.laid W) (c : Ctx) (hc : c.gl = glT Tryz.prog) (A : Nat → Prop) (hA : ∀ b, ¬ A b) : GlobOk c W A := by
  intro g ps hg j p hj
  rw [hc, glTab_ok] at hg
  have hg : (bif Nat.beq 0 g then some glTab else none) = some ps := hg
  cases hb : Nat.beq 0 g with
  | false => rw [hb] at hg; cases hg
  | true =>
    rw [hb] at hg
    obtain rfl := Nat.eq_of_beq_eq_true hb
    injection hg with hg
    subst hg
    rw [glTab_is, List.getElem?_map, Option.map_eq_some_iff] at hj
    obtain ⟨n, hn, rfl⟩ := hj
    obtain ⟨hlt, hn'⟩ := List.getElem?_eq_some_iff.1 hn
    have hc := (table h).cell gTab j hlt
    have e : zs64.getD j 0 = n := by rw [List.getD_eq_getElem?_getD, hn]; rfl
    rw [e] at hc
    exact ⟨_, hc, hA _, .int _ _⟩
/-- A reading of an argument stands. -/
theorem trod_again {H : Type} {enc : TypeId × Value → H} {t : TypeId} (hl : laidOutB Tryz.prog = true) (hr : Tryz.prog.readableRec t = true) (hrow : t < Tryz.prog.types.size) {W W' : World}
    (hb : ∀ b, b < W.heap.size → W'.heap[b]? = W.heap[b]?) {v : Value} {d : DataW H} {p : List MemPlace} (h : DataW.Trod enc Tryz.prog W 0 (fun _ => true) true t v d p) {sp : Nat → Bool} (hs : ∀ q ∈ p, sp q.block = true) :
    DataW.Trod enc Tryz.prog W' 0 sp true t v d p := by
  obtain ⟨n, hn⟩ := h
  refine ⟨n, DataW.trod_stays (kids_book hl hr) (book_sized hr) (fun h => by cases h) ⟨hrow, book_self t⟩ hn (fun q hq => ?_) hs⟩
  have hlt := DataW.trod_lt n t _ _ hn q hq
  cases q with
  | cell b off => exact cell_of_block (a := ⟨b, off, none⟩) (hb b hlt)
  | map b => exact hb b hlt
theorem post_of_same2 {H : Type} {enc : TypeId × Value → H} {P : Program} {f : Func} {s : ChangeSpec} {apart fresh handsOn again : Bool} {W W' : World} {args : Array Value} {v : Value} {ds gs : List (DataW H)} {before pa pv : List MemPlace}
    (hW : DataW.Whole enc P f.params.toList s.vars apart W args.toList ds gs before)
    (hres : ∀ (b : Nat) (sp : Nat → Bool) (hd : Bool), DataW.TrodAll enc P W' b sp hd f.resultTypes.toList (v.resultList f.resultTypes.size) (s.fn H (ds ++ gs)).results [])
    (hargs : ∀ sp : Nat → Bool, (∀ p ∈ before, sp p.block = true) → DataW.TrodAll enc P W' 0 sp true f.params.toList args.toList (s.fn H (ds ++ gs)).args pa)
    (hvars : ∀ sp : Nat → Bool, (∀ p ∈ before, sp p.block = true) → DataW.TrodVars enc P W' sp s.vars (s.fn H (ds ++ gs)).vars pv)
    (hps : before = pa ++ pv) (hk : W.keptBut W' (· ∈ before)) (hb : ∀ b, b < W.heap.size → W'.heap[b]? = W.heap[b]?)
    (hok : ∀ (j : Nat) (t : TypeId) (r : Value), f.resultTypes[j]? = some t → (v.resultList f.resultTypes.size)[j]? = some r → Value.okWide P W' .any 0 t r) :
    s.post enc P f apart fresh handsOn again W args v W' := by
  have hold : ∀ p ∈ before, (fun b => decide (b < W.heap.size)) p.block = true := fun p hp => by simpa using hW.lt p hp
  refine ⟨ds, gs, before, [], pa, pv, hW, hres _ _ _, hargs _ hold, hvars _ hold, World.keptBut_mono (fun p hp => ⟨hp, ?_⟩) hk, fun _ => ?_⟩
  · rw [hps, List.mem_append] at hp
    exact Or.inr hp
  · have hlt := hW.lt
    obtain ⟨_, _, _, _, _, hz, hn⟩ := hW
    refine ⟨hok, _, _, ([] ++ pa) ++ pv, ⟨[] ++ pa, pv, trodAll_append (hargs _ (fun _ _ => rfl)) (hres _ _ _), hvars _ (fun _ _ => rfl), rfl, ?_, ?_⟩, ?_⟩
    · intro b off hp
      have hm : MemPlace.cell b off ∈ before := by rw [hps]; simpa using hp
      have hl := hlt _ hm
      have e : W'.frozen? ⟨b, off, none⟩ = W.frozen? ⟨b, off, none⟩ := by unfold World.frozen?; rw [hb b hl]
      rw [e]
      exact hz b off hm
    · intro ha
      have := hn ha
      rw [hps] at this
      simpa using this
    · intro p hp _
      rw [hps]
      simpa using hp
theorem all2_nil {α β : Type} {R : α → β → Prop} {l : List β} (h : All2 R [] l) : l = [] := by cases h; rfl
theorem all2_cons {α β : Type} {R : α → β → Prop} {x : α} {xs : List α} {l : List β} (h : All2 R (x :: xs) l) : ∃ y ys, l = y :: ys ∧ R x y ∧ All2 R xs ys := by cases h with | cons h1 h2 => exact ⟨_, _, rfl, h1, h2⟩
abbrev TT : TEnv := tab [(3, d3), (4, d4), (43, d43), (45, d45), (65, d65), (86, d86)]
theorem TT_ok : TOk Tryz.prog TT := tab_cons t3 <| tab_cons t4 <| tab_cons t43 <| tab_cons t45 <| tab_cons t65 <| tab_cons t86 tab_nil
theorem pt_int {D : Nat} {ps : List PV} (h : PT TT (D + 1) 3 ps) : ∃ n, ps = [.int .i64 n] := by
  obtain ⟨n, h, _⟩ : ∃ n, ps = [.int .i64 n] ∧ (Lit.int .i64 n).wf = true := h
  exact ⟨n, h⟩
theorem pt_bool {D : Nat} {ps : List PV} (h : PT TT (D + 1) 4 ps) : ∃ b, ps = [.bool b] := h
theorem pt_ints {D : Nat} {ps : List PV} (h : PT TT (D + 1) 65 ps) : ∃ es, ps = [.sl none 1 es] := by
  obtain ⟨sz, es, h1, ⟨de, h2, h3⟩, _⟩ : ∃ sz es, ps = [.sl none sz es] ∧ (∃ de, TT 3 = some de ∧ sz = de.size) ∧ _ := h
  cases h2
  subst h3
  exact ⟨es, h1⟩
theorem pt_word {D : Nat} {ps : List PV} (h : PT TT (D + 2) 86 ps) : ∃ f t c b tk, ps = [.int .i64 f, .int .i64 t, .int .i64 c, .bool b, .sl none 1 tk] := by
  obtain ⟨pss, rfl, h⟩ : ∃ pss : List (List PV), ps = pss.flatten ∧ All2 (fun (f : Nat × TypeId) q => PT TT (D + 1) f.2 q) [(0, 3), (1, 3), (2, 3), (3, 4), (4, 65)] pss := h
  obtain ⟨y1, l1, rfl, g1, h⟩ := all2_cons h
  obtain ⟨y2, l2, rfl, g2, h⟩ := all2_cons h
  obtain ⟨y3, l3, rfl, g3, h⟩ := all2_cons h
  obtain ⟨y4, l4, rfl, g4, h⟩ := all2_cons h
  obtain ⟨y5, l5, rfl, g5, h⟩ := all2_cons h
  obtain rfl := all2_nil h
  obtain ⟨f, rfl⟩ := pt_int g1
  obtain ⟨t, rfl⟩ := pt_int g2
  obtain ⟨c, rfl⟩ := pt_int g3
  obtain ⟨b, rfl⟩ := pt_bool g4
  obtain ⟨tk, rfl⟩ := pt_ints g5
  exact ⟨f, t, c, b, tk, rfl⟩
theorem pt_words {D : Nat} {ps : List PV} (h : PT TT (D + 3) 43 ps) : ∃ ws, ps = [.sl none 5 ws] ∧ ∀ x ∈ ws, ∃ f t c b tk, x = [.int .i64 f, .int .i64 t, .int .i64 c, .bool b, .sl none 1 tk] := by
  obtain ⟨sz, es, h1, ⟨de, h2, h3⟩, _, h4⟩ : ∃ sz es, ps = [.sl none sz es] ∧ (∃ de, TT 86 = some de ∧ sz = de.size) ∧ _ ∧ ∀ x ∈ es, PT TT (D + 2) 86 x := h
  cases h2
  subst h3
  exact ⟨es, h1, fun x hx => pt_word (h4 x hx)⟩
theorem pt_plain {D : Nat} {ps : List PV} (h : PT TT (D + 4) 45 ps) : ∃ ws rm e s, ps = [.sl none 5 ws, .sl none 5 rm, .int .i64 e, .int .i64 s] ∧ ∀ x ∈ ws, ∃ f t c b tk, x = [.int .i64 f, .int .i64 t, .int .i64 c, .bool b, .sl none 1 tk] := by
  obtain ⟨pss, rfl, h⟩ : ∃ pss : List (List PV), ps = pss.flatten ∧ All2 (fun (f : Nat × TypeId) q => PT TT (D + 3) f.2 q) [(0, 43), (1, 43), (2, 3), (3, 3)] pss := h
  obtain ⟨y1, l1, rfl, g1, h⟩ := all2_cons h
  obtain ⟨y2, l2, rfl, g2, h⟩ := all2_cons h
  obtain ⟨y3, l3, rfl, g3, h⟩ := all2_cons h
  obtain ⟨y4, l4, rfl, g4, h⟩ := all2_cons h
  obtain rfl := all2_nil h
  obtain ⟨ws, rfl, hw⟩ := pt_words g1
  obtain ⟨rm, rfl, _⟩ := pt_words g2
  obtain ⟨e, rfl⟩ := pt_int g3
  obtain ⟨s, rfl⟩ := pt_int g4
  exact ⟨ws, rm, e, s, rfl, hw⟩
theorem froms_of {ws : List (List PV)} (h : ∀ x ∈ ws, ∃ f t c b tk, x = [.int .i64 f, .int .i64 t, .int .i64 c, .bool b, .sl none 1 tk]) : ∃ fs, Froms ws fs := by
  induction ws with
  | nil => exact ⟨[], rfl, fun n f h => by simp at h⟩
  | cons x ws ih =>
    obtain ⟨fs, h1, h2⟩ := ih fun y hy => h y (by simp [hy])
    obtain ⟨f, t, c, b, tk, rfl⟩ := h x (by simp)
    refine ⟨f :: fs, by simp [h1], fun n g hg => ?_⟩
    cases n with
    | zero => simp at hg; subst hg; exact ⟨t, c, b, tk, rfl⟩
    | succ n => exact h2 n g (by simpa using hg)
/-- What the walks give: for every argument and every world that holds the table. -/
theorem contract (H : Type) (enc : TypeId × Value → H) (W : World) (base : Nat) (args : Array Value) (ds gs : List (DataW H)) (before : List MemPlace)
    (hval : ∀ (j : Nat) t v, Tryz.f10.params[j]? = some t → args[j]? = some v → Value.okWide Tryz.prog W .any base t v)
    (hW : DataW.Whole enc Tryz.prog Tryz.f10.params.toList Rows.restrictWordsMatchReferenceSpec.vars false W args.toList ds gs before) (hL : laidMetH Tryz.prog Rows.restrictWordsMatchReferenceRow.laid W) :
    Calls Tryz.prog 10 args W fun e W' => ∃ v, e = .returned v ∧ Rows.restrictWordsMatchReferenceSpec.post enc Tryz.prog Tryz.f10 false true false false W args v W' := by
  have hW' := hW
  obtain ⟨p, q, hA0, hV, rfl, hfz, hnd⟩ := hW
  have hA : DataW.TrodAll enc Tryz.prog W 0 (fun _ => true) true [45, 3, 3] args.toList ds p := hA0
  obtain ⟨v0, vs0, e0, es0, p0, q0, hargs, rfl, rfl, h0, r0⟩ := trodAll_cons hA
  obtain ⟨v1, vs1, e1, es1, p1, q1, hargs1, rfl, rfl, h1, r1⟩ := trodAll_cons r0
  obtain ⟨v2, vs2, e2, es2, p2, q2, hargs2, rfl, rfl, h2, r2⟩ := trodAll_cons r1
  obtain ⟨rfl, rfl, rfl⟩ := trodAll_nil r2
  subst hargs2; subst hargs1
  obtain rfl : args = #[v0, v1, v2] := by cases args; simp_all
  obtain ⟨rfl, rfl⟩ := trodVars_none hV
  have u3 : Tryz.prog.underlying 3 = some (.int .i64) := by kernel_rfl
  obtain ⟨a, rfl, rfl, rfl, ha⟩ := open_int u3 (hval 1 3 v1 (by kernel_rfl) rfl) h1
  obtain ⟨b, rfl, rfl, rfl, hb⟩ := open_int u3 (hval 2 3 v2 (by kernel_rfl) rfl) h2
  have hv0 := hval 0 45 v0 (by kernel_rfl) rfl
  obtain ⟨cs, rfl⟩ : ∃ cs, v0 = .agg cs := by
    obtain ⟨ti, u, z, hI⟩ := tdOf_spec t45
    have hk := hI.k
    unfold Value.okWide at hv0
    rw [hI.under] at hv0
    cases u <;> simp only [tkOf, d45, reduceCtorEq] at hk
    obtain ⟨cs, h, _⟩ := hv0
    exact ⟨cs, h⟩
  obtain ⟨n, hn⟩ := h0
  obtain ⟨ps, g1, g2, _, g3⟩ := trod_reads TT_ok enc W (fun _ => true) true 5 n 45 _ _ (by kernel_rfl) hn
  obtain ⟨ws, rm, e, s, rfl, hw⟩ := pt_plain g1
  obtain ⟨fs, hfs⟩ := froms_of hw
  have hcc : (Value.agg cs).cells = cs := rfl
  rw [hcc] at g2 g3
  have hcs : cs.size = 4 := by simpa using g2.symm
  -- the call
  let c : Ctx := { N := 0, w0 := W, S := fun _ => False, I := fun _ => False, imp := fun _ => none, gl := glT Tryz.prog }
  let L : Lay := fun _ => ⟨0, 0, 0, false⟩
  have hmut : ∀ b, ¬ (St.ofHp []).mut c L b := by
    rintro b (hb | ⟨id, o, ho, _⟩)
    · exact hb
    · cases ho
  have hinv : KV.Inv c (St.ofHp []) L W := {
    own := fun id o ho => by cases ho
    inj := fun i j o p ho => by cases ho
    rel := fun id o ho => by cases ho
    os := rfl
    tape := rfl
    output := rfl
    size := Nat.le_refl _
    same := fun _ _ _ => rfl
    old := fun b hb => hb.elim
    stay := fun id o b ho => by cases ho
    impId := fun id b hb => by cases hb
    glob := globs hL c rfl _ hmut }
  have hhd : Handed c [] L W := ⟨rfl, fun b => ⟨fun h => h.elim, fun ⟨id, o, ho, _⟩ => by cases ho⟩, fun id => by
    show (none : Option LE) = _
    split <;> rfl, hinv⟩
  have hrd : ∀ (p : PV) (v : Value), Reads W (fun _ => False) p v → Reads W ((St.ofHp []).mut c L) p v := fun p v h => h.mono (Stands.weak W fun b hb => hmut b hb)
  have hrel : RelL W ((St.ofHp []).mut c L) L ((C10 101).xs (encs (C10 101).ict (ws, rm, e, s, a, b))) [.agg cs, .int .i64 a, .int .i64 b] := by
    refine ⟨rfl, fun i x hx => ?_⟩
    match i, hx with
    | 0, hx =>
      obtain rfl : VV.agg [.pv (.sl none 5 ws), .pv (.sl none 5 rm), .pv (.int .i64 e), .pv (.int .i64 s)] = x := Option.some.inj hx
      refine .agg cs (by simp [hcs]) fun j y hy => ?_
      have h4 : ∀ q, ([.sl none 5 ws, .sl none 5 rm, .int .i64 e, .int .i64 s] : List PV)[j]? = some q → RelV W ((St.ofHp []).mut c L) L (.pv q) (cs.getD j undef) := fun q hq => by
        have := g3 j q hq
        have e2 : cs.toList.getD j undef = cs.getD j undef := by simp [Array.getD_eq_getD_getElem?, List.getD_eq_getElem?_getD]
        rw [e2] at this
        exact .pv (hrd _ _ this)
      match j, hy with
      | 0, hy => obtain rfl := Option.some.inj hy; exact h4 _ rfl
      | 1, hy => obtain rfl := Option.some.inj hy; exact h4 _ rfl
      | 2, hy => obtain rfl := Option.some.inj hy; exact h4 _ rfl
      | 3, hy => obtain rfl := Option.some.inj hy; exact h4 _ rfl
      | j + 4, hy => simp at hy
    | 1, hx => obtain rfl := Option.some.inj hx; exact .pv (.int _ _)
    | 2, hx => obtain rfl := Option.some.inj hx; exact .pv (.int _ _)
    | i + 3, hx => cases hx
  have hcall := (ok10 101 (ws, rm, e, s, a, b) true (law10 hfs rm e s a b)).2 c L W _ rfl hhd hrel
  refine hcall.mono ?_
  rintro en W' ⟨v, L', rfl, hi, hr⟩
  have hv : v = .bool true := by
    have hr : RelV W' ((St.ofHp []).mut c L') L' (.pv (.bool true)) v := hr
    exact hr.bool
  subst hv
  have hblk : ∀ b, b < W.heap.size → W'.heap[b]? = W.heap[b]? := fun b hb => hi.same b hb fun h => h
  have hkb : W.keptBut W' (fun _ => False) := by
    refine ⟨hi.os, hi.output, fun i hlt => ?_⟩
    rw [hblk i hlt]
    cases h : W.heap[i]? with
    | none => rfl
    | some o => cases o <;> first | exact ⟨rfl, rfl, rfl, fun _ _ => rfl⟩ | exact .inr ⟨rfl, rfl⟩ | rfl
  have u4 : Tryz.prog.underlying 4 = some .bool := by kernel_rfl
  simp only [List.append_nil] at hW'
  refine ⟨_, rfl, post_of_same2 (pa := p0) (pv := []) hW' (fun _ _ _ => trodAll_cons_mk (shut_bool u4 _) trodAll_mk0) (fun sp hsp => ?_) (fun _ _ => rfl) (by simp) (World.keptBut_mono (fun p hp => hp.elim) hkb) hblk (ok_one (by kernel_rfl) rfl (okWide_bool_mk u4 _))⟩
  have e0 : DataW.Trod enc Tryz.prog W' 0 sp true 45 (.agg cs) e0 p0 := trod_again (by kernel_rfl) (by kernel_rfl) (of_decide_eq_true (by kernel_rfl)) hblk ⟨n, hn⟩ fun q hq => hsp q (by simp [hq])
  have hh := trodAll_cons_mk e0 (trodAll_cons_mk (shut_int (enc := enc) (w := W') (base := 0) (spare := sp) (held := true) u3 ha) (trodAll_cons_mk (shut_int (enc := enc) (w := W') (base := 0) (spare := sp) (held := true) u3 hb) trodAll_mk0))
  simp only [List.append_nil] at hh
  have hp : Tryz.f10.params.toList = [45, 3, 3] := by kernel_rfl
  rw [hp]
  exact hh
/-- A world for the witness: the settled one, the table holding what its initialiser lays. -/
noncomputable def laidWorld (os : Os) : World :=
  { World.holding Tryz.prog os ⟨#[], #[], []⟩ with heap := (World.holding Tryz.prog os ⟨#[], #[], []⟩).heap.modify 0 fun
      | .cells _ t frozen => .cells (zs64.map fun z => Value.int .u8 z).toArray t frozen
      | o => o }
abbrev wargs : Array Value := #[.agg #[.slice none 0 0, .slice none 0 0, .int .i64 0, .int .i64 0], .int .i64 0, .int .i64 0]
theorem laid_met (os : Os) : laidMet Tryz.prog Rows.restrictWordsMatchReferenceRow.laid ((laidWorld os).forCall (fun _ _ => 0) ⟨#[], wargs, []⟩).memory :=
  laidMet_of_run' 8 (by kernel_rfl) (by kernel_rfl)
theorem reads (os : Os) {H : Type} (enc : TypeId × Value → H) : ∃ places, DataW.whole enc Tryz.prog ((laidWorld os).forCall (fun _ _ => 0) ⟨#[], wargs, []⟩).memory Tryz.f10.params.toList Rows.restrictWordsMatchReferenceSpec.vars false wargs.toList 8 = some ([.agg [.nil, .nil, .lit (.int .i64 0), .lit (.int .i64 0)], .lit (.int .i64 0), .lit (.int .i64 0)], [], places) :=
  ⟨[], by kernel_rfl⟩
theorem lifted (os : Os) (started : os.Started) (H : Type) (enc : TypeId × Value → H) (F : Stop.Interp) :
    ReturnsInHanded {} Tryz.checked os 10 .any ((OpenSpec.ofChange Rows.restrictWordsMatchReferenceSpec).preRow enc Tryz.prog Tryz.f10 Rows.restrictWordsMatchReferenceRow.domain false Rows.restrictWordsMatchReferenceRow.laid) (((OpenSpec.ofChange Rows.restrictWordsMatchReferenceSpec).at F).post enc Tryz.prog Tryz.f10 false true false false) := by
  obtain ⟨places, hx⟩ := reads os enc
  refine returnsInHanded_of_row (C := Tryz.checked) (s := OpenSpec.ofChange Rows.restrictWordsMatchReferenceSpec) own started (by kernel_rfl) Tryz.func10
    (witness_row_at (enc := enc) (C := Tryz.checked) false (laidWorld os) wargs rfl (by kernel_rfl) (by kernel_rfl) (by kernel_rfl)
      (OpenSpec.preRow_of_cond 8 hx (by kernel_rfl) (fun k hk => by cases hk) (by kernel_rfl) (laid_met os))) ?_
  intro W base args ds gs before hval hW _ _ _ hL _ _
  exact contract H enc W base args ds gs before hval hW hL
theorem said : Rows.RestrictWordsMatchReferenceSaid :=
  OpenClaim.holds_of_cond 10 Tryz.f10 rfl rfl rfl rfl rfl rfl rfl ⟨rfl, rfl, rfl, rfl, rfl⟩ rfl rfl rfl rfl rfl hfn10 Tryz.func10 closed10
    inst10 wrap10
    (fun os started H enc _ F => by rw [OpenClaim.pre_eq_preRow]; exact lifted os started H enc F)
theorem plain (f : FuncId) (fn : Func) (hf : Tryz.pinned.checked.prog.funcNamed "koine/koinelaw14.RestrictWordsMatchReference" = some f) (hfn : Tryz.pinned.checked.prog.funcs[f]? = some fn) :
    true = Tryz.pinned.checked.prog.looks [] ∧ ∀ (j : Nat) t, fn.params[j]? = some t → Tryz.pinned.checked.prog.wantsStandIn t = false := by
  obtain rfl : f = 10 := Option.some.inj (k_f.symm.trans hf) |>.symm
  obtain rfl : fn = Tryz.f10 := (Option.some.inj (Tryz.func10.symm.trans hfn)).symm
  refine ⟨k_looks, fun j t ht => ?_⟩
  have hm : t ∈ Tryz.f10.params.toList := by simpa using Array.mem_of_getElem? ht
  rw [k_params] at hm
  simp only [List.mem_cons, List.not_mem_nil, or_false, or_self] at hm
  rcases hm with rfl | rfl
  · exact k_s45
  · exact k_s3
/-- The card. -/
theorem card : Rows.RestrictWordsMatchReferenceCardSaid :=
  Claim7.holds_tied_plain_at .later [] _ _ _ _ said (fun _ h => by cases h) k_wf (fun _ h => by cases h) restrictWordsMatchReference_row_tie rfl ⟨rfl, rfl⟩ k_main rfl plain k_goes
#print axioms card
end Go.Proofs.YtecmmhngjjhieaaGreatDoor
