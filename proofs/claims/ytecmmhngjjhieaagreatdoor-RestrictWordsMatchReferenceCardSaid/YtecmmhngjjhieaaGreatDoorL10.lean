/- A layer of symbolic execution over the kit's weakest preconditions, part L10; no conditions. -/
import Derived.Test.YtecmmhngjjhieaaGreatDoorB3
import Derived.KernelRfl
set_option maxRecDepth 100000
set_option maxHeartbeats 8000000
set_option linter.unusedSimpArgs false
set_option linter.unusedVariables false
set_option linter.unnecessarySimpa false
open Go Go.Proofs
namespace Go.KV
/-! The plain law: Words against the reference's. -/
abbrev wordC : List CT := [.int .i64, .int .i64, .int .i64, .bool, .sl 1]
/-- The words' first offsets. -/
def Froms (ws : List (List PV)) (fs : List Int) : Prop := fs.length = ws.length ∧ ∀ (n : Nat) (f : Int), fs[n]? = some f → ∃ (t c : Int) (b : Bool) (tk : List (List PV)), nthN wordC ws n = some (f, t, c, b, tk)
def fnd (a : Int) : List Int → Nat → Int
  | [], _ => -1
  | x :: l, i => if x = a then (i : Int) else fnd a l (i + 1)
theorem fnd_ge (a : Int) : ∀ (l : List Int) (i : Nat), fnd a l i = -1 ∨ (i : Int) ≤ fnd a l i ∧ fnd a l i < i + l.length
  | [], _ => .inl rfl
  | x :: l, i => by
    unfold fnd
    split
    · right; simp only [List.length_cons]; omega
    · rcases fnd_ge a l (i + 1) with h | h
      · exact .inl h
      · right; simp only [List.length_cons]; omega
theorem fnd_append (a e : Int) : ∀ (l : List Int) (i : Nat), fnd a (l ++ [e]) i = if fnd a l i < 0 then (if e = a then ((i + l.length : Nat) : Int) else -1) else fnd a l i
  | [], i => by simp [fnd]
  | x :: l, i => by
    rw [List.cons_append, fnd, fnd]
    by_cases h : x = a
    · simp only [h, if_true]
      rw [if_neg (by omega)]
    · simp only [h, if_false]
      rw [fnd_append a e l (i + 1)]
      simp only [List.length_cons]
      congr 2
      · congr 1
        omega
theorem wrap_small {n : Int} (h : -9223372036854775808 ≤ n ∧ n < 9223372036854775808) : IntKind.i64.wrap n = n := by
  rw [IntKind.wrap_i64]
  omega
theorem nthR_ofNat (cs : List CT) (es : List (List PV)) (n : Nat) : nthR cs es (n : Int) = nthN cs es n := rfl
theorem F90_eq (k : Nat) (x6 x7 x8 : Int) (x9 : Bool) (x10 : List (List PV)) (u2 : Int) : F90 (k + 1) (x6, x7, x8, x9, x10, u2) = some (x6 == u2) := rfl
theorem index_loop (k : Nat) {ws : List (List PV)} {fs : List Int} (hf : Froms ws fs) (hl : ws.length ≤ 20) (a : Int) : ∀ (m n i : Nat), m = ws.length - i → i ≤ ws.length → m < n →
    loopE (α := List (List PV) × Int × Int × Int) (β := Int ⊕ Unit) n (fun go5 (u1, u2, u3, u4) => (bif (decide (u4 < u3)) then (Option.bind (α := Int × Int × Int × Bool × List (List PV)) (nthR [.int .i64, .int .i64, .int .i64, .bool, .sl 1] u1 u4) fun (x6, x7, x8, x9, x10) => (Option.bind (α := Bool) (F90 (k + 1) (x6, x7, x8, x9, x10, u2)) fun x11 => (bif x11 then (some (.inl u4)) else (go5 (u1, u2, u3, (IntKind.i64.wrap (u4 + 1))))))) else (some (.inr ())))) (ws, a, (ws.length : Int), (i : Int)) =
      some (if fnd a (fs.drop i) i < 0 then .inr () else .inl (fnd a (fs.drop i) i))
  | m, 0, i, _, _, h => by omega
  | 0, n + 1, i, hm, hi, _ => by
    have : i = ws.length := by omega
    subst this
    have hd : fs.drop ws.length = [] := by rw [List.drop_eq_nil_iff]; have := hf.1; omega
    rw [hd, loopE]
    have : decide (((ws.length : Nat) : Int) < (ws.length : Int)) = false := by simp
    simp only [this, cond_false]
    rfl
  | m + 1, n + 1, i, hm, hi, hn => by
    have hlt : i < ws.length := by omega
    have hfl : i < fs.length := by rw [hf.1]; exact hlt
    obtain ⟨t, c, b, tk, hnth⟩ := hf.2 i fs[i] (List.getElem?_eq_getElem hfl)
    rw [loopE]
    have h1 : decide ((i : Int) < (ws.length : Int)) = true := by simp; omega
    have h2 : nthR [.int .i64, .int .i64, .int .i64, .bool, .sl 1] ws (i : Int) = some (fs[i], t, c, b, tk) := hnth
    simp only [h1, cond_true, h2, Option.bind_some, F90_eq]
    rw [List.drop_eq_getElem_cons hfl, fnd]
    have hw : IntKind.i64.wrap ((i : Int) + 1) = ((i + 1 : Nat) : Int) := by rw [wrap_small (by omega)]; omega
    by_cases he : fs[i] = a
    · simp only [he, beq_self_eq_true, cond_true, if_true]
      rw [if_neg (by omega)]
    · have hbq : (fs[i] == a) = false := by simpa using he
      simp only [hbq, cond_false, he, if_false, hw]
      exact index_loop k hf hl a m n (i + 1) (by omega) (by omega) (by omega)
theorem F89_eq (k : Nat) (hk : 21 ≤ k) {ws : List (List PV)} {fs : List Int} (hf : Froms ws fs) (hl : ws.length ≤ 20) (a : Int) : F89 (k + 2) (ws, a) = some (fnd a fs 0) := by
  have h := index_loop k hf hl a ws.length (k + 1) 0 (by omega) (by omega) (by omega)
  rw [List.drop_zero] at h
  show (Option.bind (Option.bind (loopE (k + 1) _ (ws, a, (ws.length : Int), ((0 : Nat) : Int))) _) _) = _
  rw [h]
  rcases fnd_ge a fs 0 with h0 | h0
  · rw [h0]; rfl
  · rw [if_neg (by omega)]; rfl
theorem F47_eq (k : Nat) (hk : 21 ≤ k) {ws : List (List PV)} {fs : List Int} (hf : Froms ws fs) (hl : ws.length ≤ 20) (rm : List (List PV)) (e s a : Int) :
    F47 (k + 3) (ws, rm, e, s, a) = some (if fnd a fs 0 < 0 then ((ws.length : Int), a == e) else (fnd a fs 0, true)) := by
  show (Option.bind (Option.bind (F89 (k + 2) (ws, a)) _) _) = _
  rw [F89_eq k hk hf hl a]
  show (Option.bind (bif decide (fnd a fs 0 < 0) then _ else _) _) = _
  by_cases h : fnd a fs 0 < 0
  · simp only [h, decide_true, cond_true, if_true]; rfl
  · simp only [h, decide_false, cond_false, if_false]; rfl
theorem F117_eq (k : Nat) {ws : List (List PV)} {fs : List Int} (hf : Froms ws fs) (rm : List (List PV)) (e s : Int) (i : Nat) (hi : i ≤ ws.length) : F117 (k + 1) (ws, rm, e, s, (i : Int)) = (fs ++ [e])[i]? := by
  show (Option.bind (bif decide ((i : Int) < (ws.length : Int)) then _ else _) _) = _
  by_cases hlt : i < ws.length
  · have hfl : i < fs.length := by rw [hf.1]; exact hlt
    obtain ⟨t, c, b, tk, hnth⟩ := hf.2 i fs[i] (List.getElem?_eq_getElem hfl)
    have h1 : decide ((i : Int) < (ws.length : Int)) = true := by simp; omega
    have h2 : nthR [.int .i64, .int .i64, .int .i64, .bool, .sl 1] ws (i : Int) = some (fs[i], t, c, b, tk) := hnth
    rw [h1, cond_true, h2, List.getElem?_append_left hfl, List.getElem?_eq_getElem hfl]
    rfl
  · have h1 : decide ((i : Int) < (ws.length : Int)) = false := by simp; omega
    have : i = fs.length := by rw [hf.1]; omega
    rw [h1, cond_false]
    subst this
    simp
theorem number_loop (k : Nat) {ws : List (List PV)} {fs : List Int} (hf : Froms ws fs) (hl : ws.length ≤ 20) (rm : List (List PV)) (e s a : Int) : ∀ (m n i : Nat), m = ws.length + 1 - i → i ≤ ws.length + 1 → m < n →
    loopE (α := Int × List (List PV) × List (List PV) × Int × Int × Int) (β := Int ⊕ Unit) n (fun go7 (u1, u2, u3, u4, u5, u6) => (bif (decide (u6 ≤ (u2.length : Int))) then (Option.bind (α := Int) (F117 (k + 1) (u2, u3, u4, u5, u6)) fun x8 => (bif (x8 == u1) then (some (.inl u6)) else (go7 (u1, u2, u3, u4, u5, (IntKind.i64.wrap (u6 + 1)))))) else (some (.inr ())))) (a, ws, rm, e, s, (i : Int)) =
      some (if fnd a ((fs ++ [e]).drop i) i < 0 then .inr () else .inl (fnd a ((fs ++ [e]).drop i) i))
  | m, 0, i, _, _, h => by omega
  | 0, n + 1, i, hm, hi, _ => by
    have : i = ws.length + 1 := by omega
    subst this
    have hd : (fs ++ [e]).drop (ws.length + 1) = [] := by rw [List.drop_eq_nil_iff]; simp [hf.1]
    rw [hd, loopE]
    have : decide (((ws.length + 1 : Nat) : Int) ≤ (ws.length : Int)) = false := by simp; omega
    simp only [this, cond_false]
    rfl
  | m + 1, n + 1, i, hm, hi, hn => by
    have hlt : i < (fs ++ [e]).length := by simp [hf.1]; omega
    have hil : i ≤ ws.length := by omega
    rw [loopE]
    have h1 : decide ((i : Int) ≤ (ws.length : Int)) = true := by simp; omega
    simp only [h1, cond_true, F117_eq k hf rm e s i hil, List.getElem?_eq_getElem hlt, Option.bind_some]
    rw [List.drop_eq_getElem_cons hlt, fnd]
    have hw : IntKind.i64.wrap ((i : Int) + 1) = ((i + 1 : Nat) : Int) := by rw [wrap_small (by omega)]; omega
    by_cases he : (fs ++ [e])[i] = a
    · simp only [he, beq_self_eq_true, cond_true, if_true]
      rw [if_neg (by omega)]
    · have hbq : ((fs ++ [e])[i] == a) = false := by simpa using he
      simp only [hbq, cond_false, he, if_false, hw]
      exact number_loop k hf hl rm e s a m n (i + 1) (by omega) (by omega) (by omega)
theorem F63_eq (k : Nat) (hk : 22 ≤ k) {ws : List (List PV)} {fs : List Int} (hf : Froms ws fs) (hl : ws.length ≤ 20) (rm : List (List PV)) (e s a : Int) : F63 (k + 2) (ws, rm, e, s, a) = some (fnd a (fs ++ [e]) 0) := by
  have h := number_loop k hf hl rm e s a (ws.length + 1) (k + 1) 0 (by omega) (by omega) (by omega)
  rw [List.drop_zero] at h
  show (Option.bind (Option.bind (loopE (k + 1) _ (a, ws, rm, e, s, ((0 : Nat) : Int))) _) _) = _
  rw [h]
  rcases fnd_ge a (fs ++ [e]) 0 with h0 | h0
  · rw [h0]; rfl
  · rw [if_neg (by omega)]; rfl
theorem words_same (k : Nat) (hk : 30 ≤ k) {ws : List (List PV)} {fs : List Int} (hf : Froms ws fs) (hl : ws.length ≤ 20) (rm : List (List PV)) (e s a b : Int) :
    ∃ x, F24 (k + 4) (ws, rm, e, s, a, b) = some x ∧ F26 (k + 4) (ws, rm, e, s, a, b) = some x := by
  have hg1 := F47_eq k (by omega) hf hl rm e s a
  have hg2 := F47_eq k (by omega) hf hl rm e s b
  have hn1 := F63_eq (k + 1) (by omega) hf hl rm e s a
  have hn2 := F63_eq (k + 1) (by omega) hf hl rm e s b
  rw [fnd_append] at hn1 hn2
  have hlen := hf.1
  have e24 : F24 (k + 4) (ws, rm, e, s, a, b) = (Option.bind (Option.bind (F47 (k + 3) (ws, rm, e, s, a)) fun p => Option.bind (F47 (k + 3) (ws, rm, e, s, b)) fun q =>
      (Option.bind (bif !p.2 then some true else some (!q.2)) fun b5 => Option.bind (bif b5 then some true else some (decide (p.1 ≥ q.1))) fun b6 => bif b6 then some (0, 0, false) else some (p.1, IntKind.i64.wrap (q.1 - 1), true))) fun z => some z) := rfl
  have e26 : F26 (k + 4) (ws, rm, e, s, a, b) = (Option.bind (Option.bind (F63 (k + 3) (ws, rm, e, s, a)) fun p => Option.bind (F63 (k + 3) (ws, rm, e, s, b)) fun q =>
      (Option.bind (bif decide (p < 0) then some true else some (decide (p ≥ q))) fun b3 => bif b3 then some (0, 0, false) else some (p, IntKind.i64.wrap (q - 1), true))) fun z => some z) := rfl
  rw [e24, e26, hg1, hg2, hn1, hn2]
  simp only [Option.bind_some]
  have key : ∀ (x y : Int) (n : Nat), (x = -1 ∨ (0 : Int) ≤ x ∧ x < n) → (y = -1 ∨ (0 : Int) ≤ y ∧ y < n) → ∀ (A B : Bool) (p q n1 n2 : Int) (c : Int → Option (Int × Int × Bool)),
      p = (if x < 0 then (n : Int) else x) → A = (if x < 0 then (a == e) else true) → q = (if y < 0 then (n : Int) else y) → B = (if y < 0 then (b == e) else true) →
      n1 = (if x < 0 then (if e = a then (n : Int) else -1) else x) → n2 = (if y < 0 then (if e = b then (n : Int) else -1) else y) →
      (∃ z, ((Option.bind (bif !A then some true else some (!B)) fun b5 => Option.bind (bif b5 then some true else some (decide (p ≥ q))) fun b6 => bif b6 then some ((0 : Int), (0 : Int), false) else some (p, IntKind.i64.wrap (q - 1), true))) = some z ∧
        ((Option.bind (bif decide (n1 < 0) then some true else some (decide (n1 ≥ n2))) fun b3 => bif b3 then some ((0 : Int), (0 : Int), false) else some (n1, IntKind.i64.wrap (n2 - 1), true))) = some z) := by
    intro x y n hx hy A B p q n1 n2 c hp hA hq hB h1 h2
    rcases hx with hx | ⟨hx1, hx2⟩
    · -- the first gap is that behind the words, or none
      have hp' : p = n := by rw [hp, if_pos (by omega)]
      have hge : decide (p ≥ q) = true := by
        rw [decide_eq_true_eq, hq, hp']
        split <;> omega
      refine ⟨(0, 0, false), ?_, ?_⟩
      · cases A <;> cases B <;> simp [hge]
      · have : (decide (n1 < 0) || decide (n1 ≥ n2)) = true := by
          rw [Bool.or_eq_true, decide_eq_true_eq, decide_eq_true_eq, h1, h2, if_pos (by omega)]
          split <;> split <;> (try split) <;> omega
        cases hd : decide (n1 < 0) with
        | true => rfl
        | false => rw [hd, Bool.false_or] at this; simp [this]
    · have hp' : p = x := by rw [hp, if_neg (by omega)]
      have hA' : A = true := by rw [hA, if_neg (by omega)]
      have h1' : n1 = x := by rw [h1, if_neg (by omega)]
      have hn : decide (n1 < 0) = false := by rw [decide_eq_false_iff_not, h1']; omega
      subst hA'
      rw [hn]
      rcases hy with hy | ⟨hy1, hy2⟩
      · have hB' : B = (b == e) := by rw [hB, if_pos (by omega)]
        have hq' : q = n := by rw [hq, if_pos (by omega)]
        by_cases hbe : e = b
        · have h2' : n2 = n := by rw [h2, if_pos (by omega), if_pos hbe]
          have hB2 : B = true := by rw [hB', hbe]; simp
          subst hB2
          rw [h1', h2', hp', hq']
          generalize decide (x ≥ (n : Int)) = bb
          cases bb <;> exact ⟨_, rfl, rfl⟩
        · have h2' : n2 = -1 := by rw [h2, if_pos (by omega), if_neg hbe]
          have hB2 : B = false := by rw [hB']; simp; exact fun h => hbe h.symm
          subst hB2
          have hge : decide (n1 ≥ n2) = true := by rw [decide_eq_true_eq, h1', h2']; omega
          exact ⟨_, rfl, by rw [hge]; rfl⟩
      · have hB' : B = true := by rw [hB, if_neg (by omega)]
        have hq' : q = y := by rw [hq, if_neg (by omega)]
        have h2' : n2 = y := by rw [h2, if_neg (by omega)]
        subst hB'
        rw [h1', h2', hp', hq']
        generalize decide (x ≥ y) = bb
        cases bb <;> exact ⟨_, rfl, rfl⟩
  have hl0 : ((0 + fs.length : Nat) : Int) = (ws.length : Int) := by omega
  rw [hl0]
  obtain ⟨z, z1, z2⟩ := key (fnd a fs 0) (fnd b fs 0) ws.length (by rcases fnd_ge a fs 0 with h | h <;> omega) (by rcases fnd_ge b fs 0 with h | h <;> omega) _ _ _ _ _ _ (fun _ => none) rfl rfl rfl rfl rfl rfl
  refine ⟨z, ?_, by rw [z2]; rfl⟩
  rw [← z1]
  by_cases h1 : fnd a fs 0 < 0 <;> by_cases h2 : fnd b fs 0 < 0 <;> simp only [h1, h2, if_true, if_false, Option.bind_fun_some]
theorem san : F11 100 () = some true := by kernel_rfl
/-- The law: true, for whatever words of at most 20, and beyond. -/
theorem law10 {ws : List (List PV)} {fs : List Int} (hf : Froms ws fs) (rm : List (List PV)) (e s a b : Int) : F10 101 (ws, rm, e, s, a, b) = some true := by
  have e10 : F10 101 (ws, rm, e, s, a, b) = (Option.bind (Option.bind (F11 100 ()) fun x1 => bif decide ((ws.length : Int) > 20) then some x1 else Option.bind (F24 100 (ws, rm, e, s, a, b)) fun x => Option.bind (F26 100 (ws, rm, e, s, a, b)) fun y =>
      (Option.bind (bif x.1 == y.1 then some (x.2.1 == y.2.1) else some false) fun b8 => Option.bind (bif b8 then some (x.2.2 == y.2.2) else some false) fun b9 => Option.bind (bif b9 then some x1 else some false) fun b10 => some b10)) fun z => some z) := rfl
  rw [e10, san]
  simp only [Option.bind_some]
  by_cases hl : ws.length ≤ 20
  · have h1 : decide ((ws.length : Int) > 20) = false := by simp; omega
    obtain ⟨x, x1, x2⟩ := words_same 96 (by omega) hf hl rm e s a b
    rw [h1, x1, x2]
    simp
  · have h1 : decide ((ws.length : Int) > 20) = true := by simp; omega
    rw [h1]
    rfl
end Go.KV
