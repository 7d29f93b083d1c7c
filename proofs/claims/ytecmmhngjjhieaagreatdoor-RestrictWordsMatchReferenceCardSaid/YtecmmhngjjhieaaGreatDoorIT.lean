/- A layer of symbolic execution over the kit's weakest preconditions, part IT; no conditions. -/
import Derived.Test.YtecmmhngjjhieaaGreatDoorVD
import Derived.Test.YtecmmhngjjhieaaGreatDoorProg
import Derived.RangeFuncBox
import Derived.RangeFuncLeaves
import Derived.Shelf.Abstract
import Derived.Shelf.RegionOpen
import Derived.WalkKit
import Derived.OwnWalkIn
import Derived.TacticsInMore
import Derived.LoopNIn
import Derived.LoopIn
set_option maxRecDepth 100000
set_option linter.unusedSimpArgs false
set_option linter.unusedVariables false
set_option linter.unnecessarySimpa false
open Go Go.Proofs Go.RowKit Go.Shelf
namespace Go.KV
attribute [local go_sem] Oper.semAt_some
/-! Iterators. -/
def kidsL (es : List (List PV)) (e : Int) : Nat → Int → Option (List Int)
  | 0, _ => none
  | n + 1, k => bif decide (k < e) then (nthR [.int .i64] es k).bind fun k2 => (kidsL es e n k2).bind fun l => some (k :: l) else some []
/-- The children of node i: from i + 1 on, by their ends. -/
def itKids (es : List (List PV)) (i : Int) : Option (List Int) := (nthR [.int .i64] es i).bind fun e => kidsL es e (es.length + 1) (IntKind.i64.wrap (i + 1))
theorem kidsL_mono {es : List (List PV)} {e : Int} : ∀ {n : Nat} {k : Int} {l : List Int}, kidsL es e n k = some l → kidsL es e (n + 1) k = some l
  | 0, _, _, h => by cases h
  | n + 1, k, l, h => by
    rw [kidsL] at h ⊢
    cases hb : decide (k < e) with
    | false => rw [hb] at h; exact h
    | true =>
      rw [hb] at h
      simp only [cond_true, Option.bind_eq_some_iff] at h ⊢
      obtain ⟨k2, h1, l', h2, h3⟩ := h
      exact ⟨k2, h1, l', kidsL_mono h2, h3⟩
theorem nthR_int {es : List (List PV)} {i k : Int} (h : nthR [.int .i64] es i = some k) : ∃ m : Nat, i = (m : Int) ∧ es[m]? = some [.int .i64 k] := by
  cases i with
  | negSucc n => cases h
  | ofNat m =>
    obtain ⟨e, h1, h2, h3⟩ := nthN_some (cs := [.int .i64]) h
    refine ⟨m, rfl, ?_⟩
    rw [h1]
    have h2 : All2 Dq e [.int .i64 k] := h2
    cases h2 with
    | cons g1 g2 =>
      cases g2
      obtain ⟨c, x, e1, e2⟩ := g1
      cases c <;> simp only [CT.enc, reduceCtorEq] at e2
      · rename_i kk
        cases e2
        rename_i p
        cases p <;> simp only [CT.dec, reduceCtorEq] at e1
        rename_i k0 n0
        cases hk : kindEq .i64 k0 with
        | false => rw [hk] at e1; cases e1
        | true =>
          rw [hk] at e1
          cases e1
          rw [← kindEq_eq hk]
      · cases e1
        rw [e2]
theorem td65 : tdOf Tryz.prog 65 = some ⟨.slice 3, 1, 24, [.sl (some true) 0 []]⟩ := by kernel_rfl
theorem td3 : tdOf Tryz.prog 3 = some ⟨.int .i64, 1, 8, [.int .i64 0]⟩ := by kernel_rfl
/-- What a captured slice of numbers is in the worlds of the loop. -/
theorem ints_read {w : World} {A : Nat → Prop} {nl : Option Bool} {es : List (List PV)} {sv : Value} (h : Reads w A (.sl nl 1 es) sv) {j x : Int} (hj : nthR [.int .i64] es j = some x) :
    ∃ p : Addr, (∀ W, (Instr.indexAt 65 sv (.int .i64 j)).run Tryz.prog W = .ok (.pointer (some p)) W) ∧ ∀ W : World, (∀ b, b < w.heap.size → ¬ A b → W.heap[b]? = w.heap[b]?) → W.cell? p = some (.int .i64 x) := by
  obtain ⟨m, rfl, hm⟩ := nthR_int hj
  cases h with
  | nils h => simp at hm
  | row es a cap sz us h hcap hsz hc hr =>
    obtain ⟨h1, h2⟩ := hc m _ hm 0 _ rfl
    have h3 := hr m _ hm 0 _ rfl
    refine ⟨a.add (m * 1 + 0), fun W => ?_, fun W hW => ?_⟩
    · exact indexAt_slice (t := 65) (e := 3) (td := ⟨.slice 3, 1, 24, [.sl (some true) 0 []]⟩) (d := ⟨.int .i64, 1, 8, [.int .i64 0]⟩) (T := tab [(65, ⟨.slice 3, 1, 24, [.sl (some true) 0 []]⟩), (3, ⟨.int .i64, 1, 8, [.int .i64 0]⟩)]) (tab_cons td65 (tab_cons td3 tab_nil)) rfl rfl rfl (List.getElem?_eq_some_iff.1 hm).1
    · have hb := block_lt_of_cell h1
      rw [cell_of_block (w := w) (by rw [add_block] at hb ⊢; exact hW _ hb h2), h1]
      generalize us m 0 = v at h3
      cases h3
      rfl
set_option maxHeartbeats 2000000 in
theorem kids_it {es : List (List PV)} {i : Int} {items : List Int} {nl : Option Bool} (h : itKids es i = some items) : ItOk Tryz.prog 116 [.prow [.int .i64 i], .prow [.sl nl 1 es]] (items.map fun k => [.pv (.int .i64 k)]) := by
  refine ⟨?_, ?_⟩
  · exact enters_of Tryz.func116 (by kernel_rfl) rfl
  intro A w vs hvs l J Jx hJ hJx hK hY W h0
  obtain ⟨ai, ae, rfl, hi, sv, hev, hread⟩ : ∃ ai ae : Addr, vs = [.pointer (some ai), .pointer (some ae)] ∧ (∀ k W, J k W → W.cell? ai = some (.int .i64 i)) ∧ ∃ sv, (∀ k W, J k W → W.cell? ae = some sv) ∧
      ∀ j x : Int, nthR [.int .i64] es j = some x → ∃ p : Addr, (∀ W, (Instr.indexAt 65 sv (.int .i64 j)).run Tryz.prog W = .ok (.pointer (some p)) W) ∧ ∀ k W, J k W → W.cell? p = some (.int .i64 x) := by
    obtain ⟨hl, hr⟩ := hvs (fun _ => ⟨0, 0, 0, false⟩)
    match vs, hl with
    | [v1, v2], _ =>
      have h1 := hr 0 _ rfl
      have h2 := hr 1 _ rfl
      simp only [List.getD_cons_zero, List.getD_cons_succ] at h1 h2
      cases h1 with
      | prow ai us hc1 hr1 =>
        cases h2 with
        | prow ae us2 hc2 hr2 =>
          have c1 := hc1 0 _ rfl
          have c2 := hc2 0 _ rfl
          have r1 := hr1 0 _ rfl
          have r2 := hr2 0 _ rfl
          have keep : ∀ (p : Addr) (v : Value), w.cell? (p.add 0) = some v → ¬ A p.block → ∀ k W, J k W → W.cell? p = some v := by
            intro p v hp hA k W hW
            have e : p.add 0 = p := by simp [Addr.add]
            rw [e] at hp
            rw [cell_of_block (w := w) ((hK k W hW).2 _ (block_lt_of_cell hp) hA)]
            exact hp
          refine ⟨ai, ae, rfl, ?_, us2 0, ?_, ?_⟩
          · have := keep ai _ c1.1 c1.2
            generalize us 0 = v at this r1
            cases r1
            exact this
          · exact keep ae _ c2.1 c2.2
          · intro j x hj
            obtain ⟨p, g1, g2⟩ := ints_read r2 hj
            exact ⟨p, g1, fun k W hW => g2 W (hK k W hW).2⟩
  obtain ⟨e, he, h⟩ : ∃ e : Int, nthR [.int .i64] es i = some e ∧ kidsL es e (es.length + 1) (IntKind.i64.wrap (i + 1)) = some items := by
    unfold itKids at h
    rw [Option.bind_eq_some_iff] at h
    exact h
  have h : kidsL es e (es.length + 1) (wrap64 (i + 1)) = some items := by
    have e1 : IntKind.i64.wrap (i + 1) = wrap64 (i + 1) := by simp only [wrap64]; exact IntKind.wrap_i64 _
    rw [← e1]; exact h
  obtain ⟨pi, hpi, hci⟩ := hread i e he
  obtain ⟨F, hF, hro, hdp, hfn⟩ : ∃ F, FW none = F ∧ F.round = none ∧ F.depth = none ∧ ∀ f, F.fn f := ⟨_, rfl, rfl, rfl, fun _ => trivial⟩
  rw [hF] at hY ⊢
  refine callsIn_of_wp Tryz.func116 rfl (hfn _) ?_ hro
  simp only [Tryz.ntmps116, List.size_toArray, List.length_cons, List.length_nil, Nat.reduceAdd, Nat.reduceSub, Array.replicate_succ, Array.replicate_zero, List.push_toArray, List.append_toArray, List.nil_append, List.cons_append]
  have hi0 := hi 0 W h0
  have he0 := hev 0 W h0
  gi_wp2
  gi_loopw [4] (fun k wr => ∃ (m : Nat) (n : Int) (rest : List Int), k = .int .i64 n ∧ kidsL es e (es.length + 1) n = some rest ∧ items.drop m = rest ∧ m ≤ items.length ∧ J m wr)
    (fun k _ => ((kidsL es e (es.length + 1) (intOf k)).getD []).length)
  case atStart => exact ⟨0, _, items, rfl, h, rfl, Nat.zero_le _, h0⟩
  case round =>
    obtain ⟨m, n, rest, rfl, hk, hd, hm, hJm⟩ := hrel
    have hi1 := hi m wr hJm
    have he1 := hev m wr hJm
    have hc1 := hci m wr hJm
    cases hne : decide (n < e) with
    | false =>
      have hge : e ≤ n := by simpa using hne
      rw [kidsL, hne] at hk
      cases hk
      gi_wp2
      go_end0
      have hml : m = items.length := by
        have := List.drop_eq_nil_iff.1 hd
        omega
      subst hml
      exact ⟨⟨_, rfl⟩, .inl (by simpa using hJm)⟩
    | true =>
      have hlt : n < e := by simpa using hne
      have hk0 := hk
      rw [kidsL, hne] at hk
      obtain ⟨k2, hk2, r, hr, rfl⟩ : ∃ k2 : Int, nthR [.int .i64] es n = some k2 ∧ ∃ r, kidsL es e es.length k2 = some r ∧ rest = n :: r := by
        simp only [cond_true, Option.bind_eq_some_iff] at hk
        obtain ⟨k2, h1, r, h2, h3⟩ := hk
        injection h3 with h3
        exact ⟨k2, h1, r, h2, h3.symm⟩
      have hr' := kidsL_mono hr
      have hlt' : m < items.length := by
        apply Nat.lt_of_not_le
        intro hle
        rw [List.drop_eq_nil_iff.2 hle] at hd
        cases hd
      rw [List.drop_eq_getElem_cons hlt'] at hd
      injection hd with hd1 hd2
      obtain ⟨pk, hpk, hck⟩ := hread n k2 hk2
      obtain ⟨fn, tmps, assign, body, hy, hR⟩ := hY m [.pv (.int .i64 n)] wr [.int .i64 n] (by simp [hlt', hd1]) hJm (fun L => ⟨rfl, fun i x hx => by
        rcases i with _ | i
        · simp at hx; subst hx; exact .pv (.int _ _)
        · simp at hx⟩)
      have hd0 : F.depth.isSome = true → 1 ≤ 0 := by rw [hdp]; intro hh; cases hh
      gi_wp2
      refine hR.mono ?_
      rintro en W3 (⟨rfl, hJ3⟩ | ⟨rfl, hJx3⟩)
      · have he3 := hev (m + 1) W3 hJ3
        have hc3 := hck (m + 1) W3 hJ3
        gi_wp2
        go_roundw
        case rel => exact ⟨m + 1, k2, r, rfl, hr', hd2, hlt', hJ3⟩
        case measure =>
          show ((kidsL es e (es.length + 1) k2).getD []).length < ((kidsL es e (es.length + 1) n).getD []).length
          rw [hr', hk0]
          simp
      · gi_wp2
        refine bodyPost_ret (results_none rfl _ _ _) rfl ?_
        exact ⟨⟨_, rfl⟩, .inr hJx3⟩
theorem goes_alloc (w : World) (o : Obj) : Goes w (w.alloc o) := ⟨rfl, rfl, rfl, by simp, fun b hb => Go.RowKit.Below.heap_alloc _ _ _ hb⟩
def leavesL : Nat → List (List PV) → Option (List Int)
  | _, [] => some []
  | i, r :: rs => match r with
    | [.int .i64 p, .int .i64 _, .int .i64 _, .int .i64 _] => (leavesL (i + 1) rs).bind fun l => some (bif decide (p < 0) then (i : Int) :: l else l)
    | _ => none
/-- The leaves of a tree: the nodes without a production. -/
def itLeaves (es : List (List PV)) : Option (List Int) := bif Nat.ble es.length 4611686018427387904 then leavesL 0 es else none
theorem leavesL_some {i : Nat} {r : List PV} {rs : List (List PV)} {l : List Int} (h : leavesL i (r :: rs) = some l) :
    ∃ x y z u r', r = [.int .i64 x, .int .i64 y, .int .i64 z, .int .i64 u] ∧ leavesL (i + 1) rs = some r' ∧ (bif decide (x < 0) then (i : Int) :: r' else r') = l := by
  unfold leavesL at h
  split at h
  · rename_i p a b c
    rw [Option.bind_eq_some_iff] at h
    obtain ⟨r', h1, h2⟩ := h
    injection h2 with h2
    exact ⟨p, a, b, c, r', rfl, h1, h2⟩
  · cases h
theorem td56 : tdOf Tryz.prog 56 = some ⟨.slice 77, 1, 24, [.sl (some true) 0 []]⟩ := by kernel_rfl
theorem td77 : tdOf Tryz.prog 77 = some ⟨.strct [(0, 3), (1, 3), (2, 3), (3, 3)], 4, 32, [.int .i64 0, .int .i64 0, .int .i64 0, .int .i64 0]⟩ := by kernel_rfl
theorem nodes_read {w : World} {A : Nat → Prop} {nl : Option Bool} {es : List (List PV)} {sv : Value} (h : Reads w A (.sl nl 4 es) sv) {m : Nat} {x y z u : Int} (hm : es[m]? = some [.int .i64 x, .int .i64 y, .int .i64 z, .int .i64 u]) :
    ∃ p : Addr, (∀ W, (Instr.indexAt 56 sv (.int .i64 m)).run Tryz.prog W = .ok (.pointer (some p)) W) ∧ ∀ W : World, (∀ b, b < w.heap.size → ¬ A b → W.heap[b]? = w.heap[b]?) →
      W.cell? (p.add 0) = some (.int .i64 x) ∧ W.cell? (p.add 1) = some (.int .i64 y) ∧ W.cell? (p.add 2) = some (.int .i64 z) ∧ W.cell? (p.add 3) = some (.int .i64 u) := by
  cases h with
  | nils h => simp at hm
  | row es a cap sz us h hcap hsz hc hr =>
    refine ⟨a.add (m * 4), fun W => ?_, fun W hW => ?_⟩
    · exact indexAt_slice (t := 56) (e := 77) (td := ⟨.slice 77, 1, 24, [.sl (some true) 0 []]⟩) (d := ⟨.strct [(0, 3), (1, 3), (2, 3), (3, 3)], 4, 32, [.int .i64 0, .int .i64 0, .int .i64 0, .int .i64 0]⟩)
        (T := tab [(56, ⟨.slice 77, 1, 24, [.sl (some true) 0 []]⟩), (77, ⟨.strct [(0, 3), (1, 3), (2, 3), (3, 3)], 4, 32, [.int .i64 0, .int .i64 0, .int .i64 0, .int .i64 0]⟩)]) (tab_cons td56 (tab_cons td77 tab_nil)) rfl rfl rfl (List.getElem?_eq_some_iff.1 hm).1
    · have one : ∀ (j : Nat) (n : Int), ([.int .i64 x, .int .i64 y, .int .i64 z, .int .i64 u] : List PV)[j]? = some (.int .i64 n) → W.cell? ((a.add (m * 4)).add j) = some (.int .i64 n) := by
        intro j n hj
        obtain ⟨h1, h2⟩ := hc m _ hm j _ hj
        have h3 := hr m _ hm j _ hj
        have hb := block_lt_of_cell h1
        rw [add_add]
        rw [cell_of_block (w := w) (by rw [add_block] at hb ⊢; exact hW _ hb h2), h1]
        generalize us m j = v at h3
        cases h3
        rfl
      exact ⟨one 0 x rfl, one 1 y rfl, one 2 z rfl, one 3 u rfl⟩
set_option maxHeartbeats 2000000 in
theorem leaves_it {es : List (List PV)} {items : List Int} {nl : Option Bool} (h : itLeaves es = some items) : ItOk Tryz.prog 251 [.prow [.sl nl 4 es]] (items.map fun k => [.pv (.int .i64 k)]) := by
  refine ⟨?_, ?_⟩
  · exact enters_of Tryz.func251 (by kernel_rfl) rfl
  intro A w vs hvs l J Jx hJ hJx hK hY W h0
  obtain ⟨ae, rfl, sv, hsv, hev, hread⟩ : ∃ ae : Addr, vs = [.pointer (some ae)] ∧ ∃ sv, (sv = .slice none 0 0 ∧ es = [] ∨ ∃ a cap, sv = .slice (some a) es.length cap) ∧ (∀ k W, J k W → W.cell? ae = some sv) ∧
      ∀ (m : Nat) (x y z u : Int), es[m]? = some [.int .i64 x, .int .i64 y, .int .i64 z, .int .i64 u] → ∃ p : Addr, (∀ W, (Instr.indexAt 56 sv (.int .i64 m)).run Tryz.prog W = .ok (.pointer (some p)) W) ∧ ∀ k W, J k W →
        W.cell? (p.add 0) = some (.int .i64 x) ∧ W.cell? (p.add 1) = some (.int .i64 y) ∧ W.cell? (p.add 2) = some (.int .i64 z) ∧ W.cell? (p.add 3) = some (.int .i64 u) := by
    obtain ⟨hl, hr⟩ := hvs (fun _ => ⟨0, 0, 0, false⟩)
    match vs, hl with
    | [v2], _ =>
      have h2 := hr 0 _ rfl
      simp only [List.getD_cons_zero, List.getD_cons_succ] at h2
      cases h2 with
      | prow ae us2 hc2 hr2 =>
        have c2 := hc2 0 _ rfl
        have r2 := hr2 0 _ rfl
        refine ⟨ae, rfl, us2 0, ?_, ?_, ?_⟩
        · generalize us2 0 = v at r2
          cases r2 with
          | nils h => exact .inl ⟨rfl, rfl⟩
          | row es a cap sz us h hcap hsz hc hr => exact .inr ⟨a, cap, rfl⟩
        · intro k W hW
          have hp := c2.1
          have e : ae.add 0 = ae := by simp [Addr.add]
          rw [e] at hp
          rw [cell_of_block (w := w) ((hK k W hW).2 _ (block_lt_of_cell hp) c2.2)]
          exact hp
        · intro m x y z u hm
          obtain ⟨p, g1, g2⟩ := nodes_read r2 hm
          exact ⟨p, g1, fun k W hW => g2 W (hK k W hW).2⟩
  obtain ⟨F, hF, hro, hdp, hfn⟩ : ∃ F, FW none = F ∧ F.round = none ∧ F.depth = none ∧ ∀ f, F.fn f := ⟨_, rfl, rfl, rfl, fun _ => trivial⟩
  rw [hF] at hY ⊢
  have hlen : sv = .slice none 0 0 ∨ ∃ a cap, sv = .slice (some a) es.length cap := by
    rcases hsv with ⟨h1, h2⟩ | h1
    · exact .inl h1
    · exact .inr h1
  refine callsIn_of_wp Tryz.func251 rfl (hfn _) ?_ hro
  simp only [Tryz.ntmps251, List.size_toArray, List.length_cons, List.length_nil, Nat.reduceAdd, Nat.reduceSub, Array.replicate_succ, Array.replicate_zero, List.push_toArray, List.append_toArray, List.nil_append, List.cons_append]
  have he0 := hev 0 W h0
  have hbig : es.length ≤ 4611686018427387904 ∧ leavesL 0 es = some items := by
    unfold itLeaves at h
    cases hb : Nat.ble es.length 4611686018427387904 with
    | false => rw [hb] at h; cases h
    | true => rw [hb] at h; exact ⟨Nat.le_of_ble_eq_true hb, h⟩
  obtain ⟨hbig, h⟩ := hbig
  rcases hsv with ⟨rfl, rfl⟩ | ⟨a, cap, rfl⟩
  · have hnil : items = [] := by
      rw [leavesL] at h
      injection h with h
      exact h.symm
    subst hnil
    gi_wp2
    gi_loopw [7] (fun k wr => k = .int .i64 0 ∧ J 0 wr) (fun _ _ => 0)
    case atStart => exact ⟨rfl, h0⟩
    case round =>
      obtain ⟨rfl, hJm⟩ := hrel
      gi_wp2
      go_end0
      exact ⟨⟨_, rfl⟩, .inl hJm⟩
  · gi_wp2
    gi_loopw [7] (fun k wr => ∃ (m i : Nat) (rest : List Int), k = .int .i64 (i : Int) ∧ i ≤ es.length ∧ leavesL i (es.drop i) = some rest ∧ items.drop m = rest ∧ m ≤ items.length ∧ J m wr)
      (fun k _ => es.length - (intOf k).toNat)
    case atStart => exact ⟨0, 0, items, rfl, Nat.zero_le _, h, rfl, Nat.zero_le _, h0⟩
    case round =>
      obtain ⟨m, i, rest, rfl, hi, hk, hd, hm, hJm⟩ := hrel
      by_cases hlt : i < es.length
      · have hrow := List.drop_eq_getElem_cons hlt
        rw [hrow] at hk
        · obtain ⟨x, y, z, u, r, hx, hr, hk⟩ := leavesL_some hk
          obtain ⟨p, hp, hcp⟩ := hread i x y z u (by rw [List.getElem?_eq_getElem hlt, hx])
          obtain ⟨c0, c1, c2, c3⟩ := hcp m wr hJm
          have hpa : p.add 0 = p := by simp [Addr.add]
          rw [hpa] at c0
          have c1 : wr.cell? { block := p.block, off := p.off + 1 } = some (.int .i64 y) := c1
          have c2 : wr.cell? { block := p.block, off := p.off + 2 } = some (.int .i64 z) := c2
          have c3 : wr.cell? { block := p.block, off := p.off + 3 } = some (.int .i64 u) := c3
          have hw1 : wrap64 ((i : Int) + 1) = ((i + 1 : Nat) : Int) := by unfold wrap64; omega
          have hltI : (i : Int) < (es.length : Int) := by omega
          cases hne : decide (x < 0) with
          | false =>
            have hge : 0 ≤ x := by simpa using hne
            rw [hne] at hk
            have hk : r = rest := hk
            gi_wp2
            exact ⟨⟨m, i + 1, rest, by simp, hlt, by rw [← hk]; exact hr, hd, hm, hJ _ _ _ hJm (goes_alloc _ _)⟩, by simp [intOf]; omega⟩
          | true =>
            have hlt0 : x < 0 := by simpa using hne
            rw [hne] at hk
            have hk : (i : Int) :: r = rest := hk
            subst hk
            have hlt' : m < items.length := by
              apply Nat.lt_of_not_le
              intro hle
              rw [List.drop_eq_nil_iff.2 hle] at hd
              cases hd
            rw [List.drop_eq_getElem_cons hlt'] at hd
            injection hd with hd1 hd2
            have hJ2 := hJ _ _ _ hJm (goes_alloc wr (.cells #[.int .i64 x, .int .i64 y, .int .i64 z, .int .i64 u] 77))
            obtain ⟨fn, tmps, assign, body, hy, hR⟩ := hY m [.pv (.int .i64 i)] _ [.int .i64 i] (by simp [hlt', hd1]) hJ2 (fun L => ⟨rfl, fun i x hx => by
              rcases i with _ | i
              · simp at hx; subst hx; exact .pv (.int _ _)
              · simp at hx⟩)
            have hd0 : F.depth.isSome = true → 1 ≤ 0 := by rw [hdp]; intro hh; cases hh
            gi_wp2
            refine hR.mono ?_
            rintro en W3 (⟨rfl, hJ3⟩ | ⟨rfl, hJx3⟩)
            · gi_wp2
              exact ⟨⟨m + 1, i + 1, r, by simp, hlt, hr, hd2, hlt', hJ3⟩, by simp [intOf]; omega⟩
            · gi_wp2
              refine bodyPost_ret (results_none rfl _ _ _) rfl ?_
              exact ⟨⟨_, rfl⟩, .inr hJx3⟩
      · obtain rfl : i = es.length := by omega
        rw [List.drop_eq_nil_iff.2 (Nat.le_refl _), leavesL] at hk
        injection hk with hk
        subst hk
        have hml : m = items.length := by
          have := List.drop_eq_nil_iff.1 hd
          omega
        subst hml
        gi_wp2
        go_end0
        exact ⟨⟨_, rfl⟩, .inl (by simpa using hJm)⟩
abbrev intSh : VShs := .cons (.leaf (.int .i64)) .nil
abbrev ItR := Option ((s : VShs) × Option (List (Ds s.cts)))
def itK : List VV → ItR
  | [.prow [.int k i], .prow [.sl _ n es]] => bif kindEq k .i64 && Nat.beq n 1 then some ⟨intSh, itKids es i⟩ else none
  | _ => none
def itL : List VV → ItR
  | [.prow [.sl _ n es]] => bif Nat.beq n 4 then some ⟨intSh, itLeaves es⟩ else none
  | _ => none
def itsZ : FuncId → List VV → ItR := fun f caps => bif Nat.beq f 116 then itK caps else bif Nat.beq f 251 then itL caps else none
theorem itK_ok {caps : List VV} {s : VShs} {l : List (Ds s.cts)} (h : itK caps = some ⟨s, some l⟩) : ItOk Tryz.prog 116 caps (l.map fun d => (s.mk (encs s.cts d)).1) := by
  unfold itK at h
  split at h
  · rename_i k i _ n es
    obtain ⟨hb, h2⟩ := bif_some' h
    rw [Bool.and_eq_true] at hb
    obtain rfl := kindEq_eq hb.1
    have := Nat.eq_of_beq_eq_true hb.2
    subst this
    have h2 := Option.some.inj h2
    injection h2 with g1 g2
    subst g1
    exact kids_it (eq_of_heq g2)
  · cases h
theorem itL_ok {caps : List VV} {s : VShs} {l : List (Ds s.cts)} (h : itL caps = some ⟨s, some l⟩) : ItOk Tryz.prog 251 caps (l.map fun d => (s.mk (encs s.cts d)).1) := by
  unfold itL at h
  split at h
  · rename_i _ n es
    obtain ⟨hb, h2⟩ := bif_some' h
    have := Nat.eq_of_beq_eq_true hb
    subst this
    have h2 := Option.some.inj h2
    injection h2 with g1 g2
    subst g1
    exact leaves_it (eq_of_heq g2)
  · cases h
theorem itsZ_ok : ItsOk Tryz.prog (pinX itsZ) := by
  intro f caps s l h
  have h : itsZ f caps = some ⟨s, some l⟩ := h
  unfold itsZ at h
  cases h1 : Nat.beq f 116 with
  | true =>
    rw [Nat.eq_of_beq_eq_true h1]
    rw [h1] at h
    exact itK_ok h
  | false =>
    rw [h1] at h
    cases h2 : Nat.beq f 251 with
    | true =>
      rw [Nat.eq_of_beq_eq_true h2]
      rw [h2] at h
      exact itL_ok h
    | false => rw [h2] at h; cases h
end Go.KV
