/- A layer of symbolic execution over the kit's weakest preconditions, part B0; no conditions. -/
import Derived.Test.YtecmmhngjjhieaaGreatDoorDA
import Derived.Test.YtecmmhngjjhieaaGreatDoorIT
import Derived.Test.YtecmmhngjjhieaaGreatDoorProg
set_option linter.unusedVariables false
set_option maxRecDepth 100000
set_option maxHeartbeats 2000000
set_option linter.unnecessarySimpa false
open Go Go.Proofs
namespace Go.KV
theorem mixd : Tryz.prog.follows .mixedOrders = true := by kernel_rfl
def glTab : List PV := (glNamed "math/bits.deBruijn64tab").getD []
theorem glTab_ok : glT Tryz.prog = [(0, glTab)] := by kernel_rfl
abbrev LL := List (List PV)
abbrev pI (n : Int) : PV := .int .i64 n
abbrev wI (n : Int) : Int := IntKind.i64.wrap n
abbrev ci : CT := .int .i64
abbrev li : VSh := .leaf (.int .i64)
abbrev lb : VSh := .leaf .bool
abbrev ls (n : Nat) : VSh := .leaf (.sl n)
def vs : List VSh → VShs
  | [] => .nil
  | x :: l => .cons x (vs l)
abbrev rg (i n : Nat) : An := .reg [] (.run i n .nil)
/-- Fuel: nothing without any. -/
def rc {α β : Type} (f : Nat → (α → Option β) → α → Option β) (k : Nat) : α → Option β := Nat.rec (motive := fun _ => α → Option β) (fun _ => none) (fun k ih => f k ih) k
theorem rcOk {P : Program} {C : Nat → Ctr} (h0 : CtrOk P (C 0)) (h : ∀ k, CtrOk P (C k) → CtrOk P (C (k + 1))) (k : Nat) : CtrOk P (C k) := Nat.rec (motive := fun k => CtrOk P (C k)) h0 h k
abbrev mkE (n : Nat) (T : List (Nat × TD)) (ct : List (Nat × List CT)) (g : List Ctr) (pu : List Nat) (eq : List (Nat × (Bool × List CT))) (sy : List Nat) (gl : List (Nat × List PV)) : Env := { T := tab T, ct := ctab ct, N := n, Γ := g, pu := pu, eq := etab eq, sy := sy, gl := gl }
theorem tc {t : Nat} {d : TD} {l : List (Nat × TD)} (h : tdOf Tryz.prog t = some d) (hl : TOk Tryz.prog (tab l)) : TOk Tryz.prog (tab ((t, d) :: l)) := tab_cons h hl
theorem tn : TOk Tryz.prog (tab []) := tab_nil
theorem ec {t : Nat} {x : Bool × List CT} {l : List (Nat × (Bool × List CT))} (h : flatEq Tryz.prog t = some x) (hl : EqOk Tryz.prog (etab l)) : EqOk Tryz.prog (etab ((t, x) :: l)) := etab_cons h hl
theorem en : EqOk Tryz.prog (etab []) := etab_nil
theorem cc {C : Ctr} {l : List Ctr} (h : CtrOk Tryz.prog C) (hl : ∀ C ∈ l, CtrOk Tryz.prog C) : ∀ D ∈ C :: l, CtrOk Tryz.prog D := ctrs_cons h hl
theorem cn : ∀ C ∈ ([] : List Ctr), CtrOk Tryz.prog C := ctrs_nil
theorem fk {E : Env} (hT : TOk Tryz.prog E.T) (hQ : EqOk Tryz.prog E.eq) (hG : ∀ g ps, look g E.gl = some ps → look g (glT Tryz.prog) = some ps) (hΓ : ∀ C ∈ E.Γ, CtrOk Tryz.prog C) (an : An) (k : Nat) {C : Ctr} {fn : Func} (hf : Tryz.prog.funcs[C.f]? = some fn)
    (hname : (fn.name == "runtime.NumGoroutine") = false := by kernel_rfl) (hb : fn.body = some (fn.body.getD .skip) := by kernel_rfl) (hN : fn.ntmps = E.N := by kernel_rfl) (hl : Nat.ble C.ins.len E.N = true := by kernel_rfl)
    (hF : ∀ d : Ds C.ict, C.F d = evd (stepOf E) ghS px0 E.N k an true (fn.body.getD .skip) (Ds C.oct) (begins (C.H (encs C.ict d)) (C.xs (encs C.ict d))) (finE E.T fn.results.toList C.out C.hout) := by intro d; kernel_rfl) : CtrOk Tryz.prog C :=
  fnOk mixd hT hQ hG hΓ an k hf hname hb hN hl hF
theorem fkI {E : Env} (hT : TOk Tryz.prog E.T) (hQ : EqOk Tryz.prog E.eq) (hG : ∀ g ps, look g E.gl = some ps → look g (glT Tryz.prog) = some ps) (hΓ : ∀ C ∈ E.Γ, CtrOk Tryz.prog C) (an : An) (k : Nat) {C : Ctr} {fn : Func} (hf : Tryz.prog.funcs[C.f]? = some fn)
    (hname : (fn.name == "runtime.NumGoroutine") = false := by kernel_rfl) (hb : fn.body = some (fn.body.getD .skip) := by kernel_rfl) (hN : fn.ntmps = E.N := by kernel_rfl) (hl : Nat.ble C.ins.len E.N = true := by kernel_rfl)
    (hF : ∀ d : Ds C.ict, C.F d = evd (stepOf E) ghS (pinX itsZ) E.N k an true (fn.body.getD .skip) (Ds C.oct) (begins (C.H (encs C.ict d)) (C.xs (encs C.ict d))) (finE E.T fn.results.toList C.out C.hout) := by intro d; kernel_rfl) : CtrOk Tryz.prog C :=
  fnOkI itsZ itsZ_ok mixd hT hQ hG hΓ an k hf hname hb hN hl hF
theorem fkD {E : Env} {Δ : FuncId} (hΔ : DfrOk Tryz.prog Δ) (hT : TOk Tryz.prog E.T) (hQ : EqOk Tryz.prog E.eq) (hG : ∀ g ps, look g E.gl = some ps → look g (glT Tryz.prog) = some ps) (hΓ : ∀ C ∈ E.Γ, CtrOk Tryz.prog C) (an : AnD) (k : Nat) {C : Ctr} {fn : Func} (hf : Tryz.prog.funcs[C.f]? = some fn)
    (han : an.in Δ := by exact rfl) (hname : (fn.name == "runtime.NumGoroutine") = false := by kernel_rfl) (hb : fn.body = some (fn.body.getD .skip) := by kernel_rfl) (hN : fn.ntmps = E.N := by kernel_rfl) (hl : Nat.ble C.ins.len E.N = true := by kernel_rfl)
    (hF : ∀ d : Ds C.ict, C.F d = evdD (stepOf E) ghS px0 E.N k an (fn.body.getD .skip) (Ds C.oct) (begins (C.H (encs C.ict d)) (C.xs (encs C.ict d))) (finE E.T fn.results.toList C.out C.hout) := by intro d; kernel_rfl) : CtrOk Tryz.prog C :=
  fnOkD mixd hT hQ hG hΓ hΔ an han k hf hname hb hN hl hF
def d3 : TD := ⟨.int .i64, 1, 8, [PV.int .i64 0]⟩
theorem t3 : tdOf Tryz.prog 3 = some d3 := by kernel_rfl
def d4 : TD := ⟨.bool, 1, 1, [PV.bool false]⟩
theorem t4 : tdOf Tryz.prog 4 = some d4 := by kernel_rfl
def d5 : TD := ⟨.int .u8, 1, 1, [PV.int .u8 0]⟩
theorem t5 : tdOf Tryz.prog 5 = some d5 := by kernel_rfl
def d9 : TD := ⟨.str, 1, 16, [PV.str (ByteArray.mk #[])]⟩
theorem t9 : tdOf Tryz.prog 9 = some d9 := by kernel_rfl
def d31 : TD := ⟨.slice 9, 1, 24, [PV.sl (some true) 0 []]⟩
theorem t31 : tdOf Tryz.prog 31 = some d31 := by kernel_rfl
def d32 : TD := ⟨.slice 169, 1, 24, [PV.sl (some true) 0 []]⟩
theorem t32 : tdOf Tryz.prog 32 = some d32 := by kernel_rfl
def d34 : TD := ⟨.strct [(0, 32), (1, 3)], 2, 32, [PV.sl (some true) 0 [], PV.int .i64 0]⟩
theorem t34 : tdOf Tryz.prog 34 = some d34 := by kernel_rfl
def d35 : TD := ⟨.slice 123, 1, 24, [PV.sl (some true) 0 []]⟩
theorem t35 : tdOf Tryz.prog 35 = some d35 := by kernel_rfl
def d36 : TD := ⟨.slice 64, 1, 24, [PV.sl (some true) 0 []]⟩
theorem t36 : tdOf Tryz.prog 36 = some d36 := by kernel_rfl
def d37 : TD := ⟨.slice 132, 1, 24, [PV.sl (some true) 0 []]⟩
theorem t37 : tdOf Tryz.prog 37 = some d37 := by kernel_rfl
def d38 : TD := ⟨.slice 67, 1, 24, [PV.sl (some true) 0 []]⟩
theorem t38 : tdOf Tryz.prog 38 = some d38 := by kernel_rfl
def d40 : TD := ⟨.strct [(0, 31), (1, 34), (3, 35), (4, 31), (5, 36), (6, 3), (7, 37), (8, 38)], 9, 184, [PV.sl (some true) 0 [], PV.sl (some true) 0 [], PV.int .i64 0, PV.sl (some true) 0 [], PV.sl (some true) 0 [], PV.sl (some true) 0 [], PV.int .i64 0, PV.sl (some true) 0 [], PV.sl (some true) 0 []]⟩
theorem t40 : tdOf Tryz.prog 40 = some d40 := by kernel_rfl
def d41 : TD := ⟨.int .u64, 1, 8, [PV.int .u64 0]⟩
theorem t41 : tdOf Tryz.prog 41 = some d41 := by kernel_rfl
def d43 : TD := ⟨.slice 86, 1, 24, [PV.sl (some true) 0 []]⟩
theorem t43 : tdOf Tryz.prog 43 = some d43 := by kernel_rfl
def d45 : TD := ⟨.strct [(0, 43), (1, 43), (2, 3), (3, 3)], 4, 64, [PV.sl (some true) 0 [], PV.sl (some true) 0 [], PV.int .i64 0, PV.int .i64 0]⟩
theorem t45 : tdOf Tryz.prog 45 = some d45 := by kernel_rfl
def d49 : TD := ⟨.int .i64, 1, 8, [PV.int .i64 0]⟩
theorem t49 : tdOf Tryz.prog 49 = some d49 := by kernel_rfl
def d52 : TD := ⟨.slice 71, 1, 24, [PV.sl (some true) 0 []]⟩
theorem t52 : tdOf Tryz.prog 52 = some d52 := by kernel_rfl
def d56 : TD := ⟨.slice 77, 1, 24, [PV.sl (some true) 0 []]⟩
theorem t56 : tdOf Tryz.prog 56 = some d56 := by kernel_rfl
def d59 : TD := ⟨.slice 129, 1, 24, [PV.sl (some true) 0 []]⟩
theorem t59 : tdOf Tryz.prog 59 = some d59 := by kernel_rfl
def d60 : TD := ⟨.slice 90, 1, 24, [PV.sl (some true) 0 []]⟩
theorem t60 : tdOf Tryz.prog 60 = some d60 := by kernel_rfl
def d62 : TD := ⟨.strct [(0, 4), (1, 3), (2, 3), (3, 3), (4, 3)], 5, 40, [PV.bool false, PV.int .i64 0, PV.int .i64 0, PV.int .i64 0, PV.int .i64 0]⟩
theorem t62 : tdOf Tryz.prog 62 = some d62 := by kernel_rfl
def d64 : TD := ⟨.strct [(0, 9), (1, 3), (2, 59), (3, 34), (5, 4), (6, 3), (7, 60), (8, 62)], 13, 160, [PV.str (ByteArray.mk #[]), PV.int .i64 0, PV.sl (some true) 0 [], PV.sl (some true) 0 [], PV.int .i64 0, PV.bool false, PV.int .i64 0, PV.sl (some true) 0 [], PV.bool false, PV.int .i64 0, PV.int .i64 0, PV.int .i64 0, PV.int .i64 0]⟩
theorem t64 : tdOf Tryz.prog 64 = some d64 := by kernel_rfl
def d65 : TD := ⟨.slice 3, 1, 24, [PV.sl (some true) 0 []]⟩
theorem t65 : tdOf Tryz.prog 65 = some d65 := by kernel_rfl
def d67 : TD := ⟨.strct [(0, 3), (1, 3), (2, 3), (3, 3), (4, 3), (5, 3), (6, 65), (7, 34)], 9, 104, [PV.int .i64 0, PV.int .i64 0, PV.int .i64 0, PV.int .i64 0, PV.int .i64 0, PV.int .i64 0, PV.sl (some true) 0 [], PV.sl (some true) 0 [], PV.int .i64 0]⟩
theorem t67 : tdOf Tryz.prog 67 = some d67 := by kernel_rfl
def d71 : TD := ⟨.strct [(0, 3), (1, 3), (2, 3)], 3, 24, [PV.int .i64 0, PV.int .i64 0, PV.int .i64 0]⟩
theorem t71 : tdOf Tryz.prog 71 = some d71 := by kernel_rfl
def d77 : TD := ⟨.strct [(0, 3), (1, 3), (2, 3), (3, 3)], 4, 32, [PV.int .i64 0, PV.int .i64 0, PV.int .i64 0, PV.int .i64 0]⟩
theorem t77 : tdOf Tryz.prog 77 = some d77 := by kernel_rfl
def d86 : TD := ⟨.strct [(0, 3), (1, 3), (2, 3), (3, 4), (4, 65)], 5, 56, [PV.int .i64 0, PV.int .i64 0, PV.int .i64 0, PV.bool false, PV.sl (some true) 0 []]⟩
theorem t86 : tdOf Tryz.prog 86 = some d86 := by kernel_rfl
def d90 : TD := ⟨.strct [(0, 3), (1, 3), (2, 3)], 3, 24, [PV.int .i64 0, PV.int .i64 0, PV.int .i64 0]⟩
theorem t90 : tdOf Tryz.prog 90 = some d90 := by kernel_rfl
def d114 : TD := ⟨.fn, 1, 8, [PV.nilf]⟩
theorem t114 : tdOf Tryz.prog 114 = some d114 := by kernel_rfl
def d121 : TD := ⟨.slice 126, 1, 24, [PV.sl (some true) 0 []]⟩
theorem t121 : tdOf Tryz.prog 121 = some d121 := by kernel_rfl
def d123 : TD := ⟨.strct [(0, 9), (1, 3), (2, 9), (3, 121), (4, 9), (5, 34)], 7, 112, [PV.str (ByteArray.mk #[]), PV.int .i64 0, PV.str (ByteArray.mk #[]), PV.sl (some true) 0 [], PV.str (ByteArray.mk #[]), PV.sl (some true) 0 [], PV.int .i64 0]⟩
theorem t123 : tdOf Tryz.prog 123 = some d123 := by kernel_rfl
def d126 : TD := ⟨.strct [(0, 3), (1, 3), (2, 3), (3, 3), (4, 3)], 5, 40, [PV.int .i64 0, PV.int .i64 0, PV.int .i64 0, PV.int .i64 0, PV.int .i64 0]⟩
theorem t126 : tdOf Tryz.prog 126 = some d126 := by kernel_rfl
def d129 : TD := ⟨.strct [(0, 4), (1, 3)], 2, 16, [PV.bool false, PV.int .i64 0]⟩
theorem t129 : tdOf Tryz.prog 129 = some d129 := by kernel_rfl
def d132 : TD := ⟨.strct [(0, 65), (1, 3), (2, 34)], 4, 64, [PV.sl (some true) 0 [], PV.int .i64 0, PV.sl (some true) 0 [], PV.int .i64 0]⟩
theorem t132 : tdOf Tryz.prog 132 = some d132 := by kernel_rfl
def d166 : TD := ⟨.slice 114, 1, 24, [PV.sl (some true) 0 []]⟩
theorem t166 : tdOf Tryz.prog 166 = some d166 := by kernel_rfl
def d169 : TD := ⟨.strct [(0, 3), (1, 3), (2, 3)], 3, 24, [PV.int .i64 0, PV.int .i64 0, PV.int .i64 0]⟩
theorem t169 : tdOf Tryz.prog 169 = some d169 := by kernel_rfl
def d174 : TD := ⟨.fn, 1, 8, [PV.nilf]⟩
theorem t174 : tdOf Tryz.prog 174 = some d174 := by kernel_rfl
def d180 : TD := ⟨.slice 52, 1, 24, [PV.sl (some true) 0 []]⟩
theorem t180 : tdOf Tryz.prog 180 = some d180 := by kernel_rfl
def d187 : TD := ⟨.int .u64, 1, 8, [PV.int .u64 0]⟩
theorem t187 : tdOf Tryz.prog 187 = some d187 := by kernel_rfl
def d193 : TD := ⟨.ptr 300, 1, 8, [PV.nilp]⟩
theorem t193 : tdOf Tryz.prog 193 = some d193 := by kernel_rfl
def d194 : TD := ⟨.map 3 34, 1, 8, [PV.nilm]⟩
theorem t194 : tdOf Tryz.prog 194 = some d194 := by kernel_rfl
def d197 : TD := ⟨.fn, 1, 8, [PV.nilf]⟩
theorem t197 : tdOf Tryz.prog 197 = some d197 := by kernel_rfl
def d199 : TD := ⟨.strct [(0, 40), (9, 3), (10, 197)], 11, 200, [PV.sl (some true) 0 [], PV.sl (some true) 0 [], PV.int .i64 0, PV.sl (some true) 0 [], PV.sl (some true) 0 [], PV.sl (some true) 0 [], PV.int .i64 0, PV.sl (some true) 0 [], PV.sl (some true) 0 [], PV.int .i64 0, PV.nilf]⟩
theorem t199 : tdOf Tryz.prog 199 = some d199 := by kernel_rfl
def d269 : TD := ⟨.map 3 4, 1, 8, [PV.nilm]⟩
theorem t269 : tdOf Tryz.prog 269 = some d269 := by kernel_rfl
def d273 : TD := ⟨.map 169 4, 1, 8, [PV.nilm]⟩
theorem t273 : tdOf Tryz.prog 273 = some d273 := by kernel_rfl
def d275 : TD := ⟨.ptr 278, 1, 8, [PV.nilp]⟩
theorem t275 : tdOf Tryz.prog 275 = some d275 := by kernel_rfl
def d276 : TD := ⟨.map 169 3, 1, 8, [PV.nilm]⟩
theorem t276 : tdOf Tryz.prog 276 = some d276 := by kernel_rfl
def d278 : TD := ⟨.strct [(0, 32), (1, 276)], 2, 32, [PV.sl (some true) 0 [], PV.nilm]⟩
theorem t278 : tdOf Tryz.prog 278 = some d278 := by kernel_rfl
def d293 : TD := ⟨.slice 34, 1, 24, [PV.sl (some true) 0 []]⟩
theorem t293 : tdOf Tryz.prog 293 = some d293 := by kernel_rfl
def d297 : TD := ⟨.strct [(0, 49)], 1, 8, [PV.int .i64 0]⟩
theorem t297 : tdOf Tryz.prog 297 = some d297 := by kernel_rfl
def d300 : TD := ⟨.strct [(0, 40), (9, 293)], 10, 208, [PV.sl (some true) 0 [], PV.sl (some true) 0 [], PV.int .i64 0, PV.sl (some true) 0 [], PV.sl (some true) 0 [], PV.sl (some true) 0 [], PV.int .i64 0, PV.sl (some true) 0 [], PV.sl (some true) 0 [], PV.sl (some true) 0 []]⟩
theorem t300 : tdOf Tryz.prog 300 = some d300 := by kernel_rfl
def d305 : TD := ⟨.map 307 34, 1, 8, [PV.nilm]⟩
theorem t305 : tdOf Tryz.prog 305 = some d305 := by kernel_rfl
def d307 : TD := ⟨.arr 2 3, 2, 16, [PV.int .i64 0, PV.int .i64 0]⟩
theorem t307 : tdOf Tryz.prog 307 = some d307 := by kernel_rfl
def d309 : TD := ⟨.map 3 65, 1, 8, [PV.nilm]⟩
theorem t309 : tdOf Tryz.prog 309 = some d309 := by kernel_rfl
def d312 : TD := ⟨.slice 315, 1, 24, [PV.sl (some true) 0 []]⟩
theorem t312 : tdOf Tryz.prog 312 = some d312 := by kernel_rfl
def d315 : TD := ⟨.strct [(0, 3), (1, 59)], 2, 32, [PV.int .i64 0, PV.sl (some true) 0 []]⟩
theorem t315 : tdOf Tryz.prog 315 = some d315 := by kernel_rfl
def d344 : TD := ⟨.slice 4, 1, 24, [PV.sl (some true) 0 []]⟩
theorem t344 : tdOf Tryz.prog 344 = some d344 := by kernel_rfl
def d345 : TD := ⟨.arr 3 3, 3, 24, [PV.int .i64 0, PV.int .i64 0, PV.int .i64 0]⟩
theorem t345 : tdOf Tryz.prog 345 = some d345 := by kernel_rfl
def d360 : TD := ⟨.map 9 4, 1, 8, [PV.nilm]⟩
theorem t360 : tdOf Tryz.prog 360 = some d360 := by kernel_rfl
def d364 : TD := ⟨.ptr 370, 1, 8, [PV.nilp]⟩
theorem t364 : tdOf Tryz.prog 364 = some d364 := by kernel_rfl
def d367 : TD := ⟨.arr 8 41, 8, 64, [PV.int .u64 0, PV.int .u64 0, PV.int .u64 0, PV.int .u64 0, PV.int .u64 0, PV.int .u64 0, PV.int .u64 0, PV.int .u64 0]⟩
theorem t367 : tdOf Tryz.prog 367 = some d367 := by kernel_rfl
def d368 : TD := ⟨.slice 367, 1, 24, [PV.sl (some true) 0 []]⟩
theorem t368 : tdOf Tryz.prog 368 = some d368 := by kernel_rfl
def d370 : TD := ⟨.strct [(0, 121), (1, 367), (9, 367), (17, 368), (18, 4)], 19, 184, [PV.sl (some true) 0 [], PV.int .u64 0, PV.int .u64 0, PV.int .u64 0, PV.int .u64 0, PV.int .u64 0, PV.int .u64 0, PV.int .u64 0, PV.int .u64 0, PV.int .u64 0, PV.int .u64 0, PV.int .u64 0, PV.int .u64 0, PV.int .u64 0, PV.int .u64 0, PV.int .u64 0, PV.int .u64 0, PV.sl (some true) 0 [], PV.bool false]⟩
theorem t370 : tdOf Tryz.prog 370 = some d370 := by kernel_rfl
def d375 : TD := ⟨.map 3 3, 1, 8, [PV.nilm]⟩
theorem t375 : tdOf Tryz.prog 375 = some d375 := by kernel_rfl
def d377 : TD := ⟨.slice 43, 1, 24, [PV.sl (some true) 0 []]⟩
theorem t377 : tdOf Tryz.prog 377 = some d377 := by kernel_rfl
def d395 : TD := ⟨.fn, 1, 8, [PV.nilf]⟩
theorem t395 : tdOf Tryz.prog 395 = some d395 := by kernel_rfl
def d436 : TD := ⟨.fn, 1, 8, [PV.nilf]⟩
theorem t436 : tdOf Tryz.prog 436 = some d436 := by kernel_rfl
def d440 : TD := ⟨.fn, 1, 8, [PV.nilf]⟩
theorem t440 : tdOf Tryz.prog 440 = some d440 := by kernel_rfl
def d448 : TD := ⟨.int .u64, 1, 8, [PV.int .u64 0]⟩
theorem t448 : tdOf Tryz.prog 448 = some d448 := by kernel_rfl
def d462 : TD := ⟨.arr 3 34, 6, 96, [PV.sl (some true) 0 [], PV.int .i64 0, PV.sl (some true) 0 [], PV.int .i64 0, PV.sl (some true) 0 [], PV.int .i64 0]⟩
theorem t462 : tdOf Tryz.prog 462 = some d462 := by kernel_rfl
def d463 : TD := ⟨.fn, 1, 8, [PV.nilf]⟩
theorem t463 : tdOf Tryz.prog 463 = some d463 := by kernel_rfl
def d488 : TD := ⟨.map 345 3, 1, 8, [PV.nilm]⟩
theorem t488 : tdOf Tryz.prog 488 = some d488 := by kernel_rfl
def d489 : TD := ⟨.fn, 1, 8, [PV.nilf]⟩
theorem t489 : tdOf Tryz.prog 489 = some d489 := by kernel_rfl
def d507 : TD := ⟨.arr 64 5, 64, 64, [PV.int .u8 0, PV.int .u8 0, PV.int .u8 0, PV.int .u8 0, PV.int .u8 0, PV.int .u8 0, PV.int .u8 0, PV.int .u8 0, PV.int .u8 0, PV.int .u8 0, PV.int .u8 0, PV.int .u8 0, PV.int .u8 0, PV.int .u8 0, PV.int .u8 0, PV.int .u8 0, PV.int .u8 0, PV.int .u8 0, PV.int .u8 0, PV.int .u8 0, PV.int .u8 0, PV.int .u8 0, PV.int .u8 0, PV.int .u8 0, PV.int .u8 0, PV.int .u8 0, PV.int .u8 0, PV.int .u8 0, PV.int .u8 0, PV.int .u8 0, PV.int .u8 0, PV.int .u8 0, PV.int .u8 0, PV.int .u8 0, PV.int .u8 0, PV.int .u8 0, PV.int .u8 0, PV.int .u8 0, PV.int .u8 0, PV.int .u8 0, PV.int .u8 0, PV.int .u8 0, PV.int .u8 0, PV.int .u8 0, PV.int .u8 0, PV.int .u8 0, PV.int .u8 0, PV.int .u8 0, PV.int .u8 0, PV.int .u8 0, PV.int .u8 0, PV.int .u8 0, PV.int .u8 0, PV.int .u8 0, PV.int .u8 0, PV.int .u8 0, PV.int .u8 0, PV.int .u8 0, PV.int .u8 0, PV.int .u8 0, PV.int .u8 0, PV.int .u8 0, PV.int .u8 0, PV.int .u8 0]⟩
theorem t507 : tdOf Tryz.prog 507 = some d507 := by kernel_rfl
def q3 : Bool × List CT := (false, [.int .i64])
theorem e3 : flatEq Tryz.prog 3 = some q3 := by kernel_rfl
def q4 : Bool × List CT := (false, [.bool])
theorem e4 : flatEq Tryz.prog 4 = some q4 := by kernel_rfl
def q9 : Bool × List CT := (false, [.str])
theorem e9 : flatEq Tryz.prog 9 = some q9 := by kernel_rfl
def q62 : Bool × List CT := (true, [.bool, .int .i64, .int .i64, .int .i64, .int .i64])
theorem e62 : flatEq Tryz.prog 62 = some q62 := by kernel_rfl
def q71 : Bool × List CT := (true, [.int .i64, .int .i64, .int .i64])
theorem e71 : flatEq Tryz.prog 71 = some q71 := by kernel_rfl
def q129 : Bool × List CT := (true, [.bool, .int .i64])
theorem e129 : flatEq Tryz.prog 129 = some q129 := by kernel_rfl
def q169 : Bool × List CT := (true, [.int .i64, .int .i64, .int .i64])
theorem e169 : flatEq Tryz.prog 169 = some q169 := by kernel_rfl
def q307 : Bool × List CT := (true, [.int .i64, .int .i64])
theorem e307 : flatEq Tryz.prog 307 = some q307 := by kernel_rfl
def q345 : Bool × List CT := (true, [.int .i64, .int .i64, .int .i64])
theorem e345 : flatEq Tryz.prog 345 = some q345 := by kernel_rfl
def q367 : Bool × List CT := (true, [.int .u64, .int .u64, .int .u64, .int .u64, .int .u64, .int .u64, .int .u64, .int .u64])
theorem e367 : flatEq Tryz.prog 367 = some q367 := by kernel_rfl
end Go.KV
