/- Moves modulo a prime number are undone by themselves, and by moves all triples modulo it are got from 1 1 1. No condition. -/
import Derived.Test.YthkmbkibceojlaaPackFnMarkovModulo6
import Derived.Sort.Statements
import Derived.WideKeyPair
import Derived.Maps.OwnOps
import Derived.Maps.OwnSet
import Derived.Maps.Views
import Derived.KernelRfl
import Derived.Shelf.RegionOpenPlain
import Derived.WalkKit
import Derived.Deep.LoopGhost
import Derived.Deep.Draws
import Derived.Lib.Walk
import Derived.Sort.WalkB12
import Derived.Lib.SliceRun
import Derived.Lib.SlKept
import Derived.Shelf.SlicesE.Kit
import Derived.Sort.WalkA
import Derived.Test.YthkmbkibceojlaaLib
import Derived.Shelf.SlSortCmp.NoneTotal
-- Ucmp
namespace Go.Proofs.Ythkmbkibceojlaa.P
open Go.RowKit Go.Proofs.YthkmbkibceojlaaW.PrintWords Go.Proofs.YthkmbkibceojlaaW.PrintLast
set_option linter.unusedVariables false
set_option linter.unusedSimpArgs false

def cmpL : List Int → List Int → Int
  | [], [] => 0
  | [], _ :: _ => -1
  | _ :: _, [] => 1
  | x :: a, y :: b => if x < y then -1 else if y < x then 1 else cmpL a b
theorem cmpL_self : ∀ a, cmpL a a = 0
  | [] => rfl
  | x :: a => by simp [cmpL, cmpL_self a]
theorem cmpL_anti : ∀ a b, cmpL b a = - cmpL a b
  | [], [] => rfl
  | [], _ :: _ => rfl
  | _ :: _, [] => rfl
  | x :: a, y :: b => by
    simp only [cmpL, cmpL_anti a b]
    split <;> split <;> first | rfl | omega
theorem cmpL_eq : ∀ a b, cmpL a b = 0 → a = b
  | [], [], _ => rfl
  | [], _ :: _, h => by simp [cmpL] at h
  | _ :: _, [], h => by simp [cmpL] at h
  | x :: a, y :: b, h => by
    simp only [cmpL] at h
    split at h
    · omega
    · split at h
      · omega
      · rw [cmpL_eq a b h, show x = y by omega]
theorem cmpL_trans : ∀ a b c, cmpL a b < 0 → cmpL b c < 0 → cmpL a c < 0
  | [], [], _, h, _ => by simp [cmpL] at h
  | [], _ :: _, [], _, h => by simp [cmpL] at h
  | [], _ :: _, _ :: _, _, _ => by simp [cmpL]
  | _ :: _, [], _, h, _ => by simp [cmpL] at h
  | _ :: _, _ :: _, [], _, h => by simp [cmpL] at h
  | x :: a, y :: b, z :: c, h, g => by
    have ih := cmpL_trans a b c
    simp only [cmpL] at h g ⊢
    split at h <;> split at g <;> (try split at h) <;> (try split at g) <;> (try split) <;> (try split) <;> first | omega | (apply ih <;> assumption)
/-- A comparison that tells unequal ones apart and is a strict order makes a total order. -/
structure Total (cf : List Int → List Int → Int) : Prop where
  anti : ∀ a b, cf a b < 0 ↔ 0 < cf b a
  trans : ∀ a b c, cf a b < 0 → cf b c < 0 → cf a c < 0
  eq : ∀ a b, cf a b = 0 → a = b
  self : ∀ a, cf a a = 0
theorem Total.swo {cf : List Int → List Int → Int} (h : Total cf) : Go.Sort.SWO (fun a b => decide (cf a b < 0)) where
  irrefl := fun x => by have := h.self x; simp; omega
  trans := fun x y z hx hy => by simp only [decide_eq_true_eq] at *; exact h.trans x y z hx hy
  ntrans := fun x y z hx hy => by
    simp only [decide_eq_false_iff_not] at *
    intro hz
    by_cases e1 : cf x y = 0
    · exact hy (h.eq x y e1 ▸ hz)
    · by_cases e2 : cf y z = 0
      · exact hx (h.eq y z e2 ▸ hz)
      · have h1 : cf y x < 0 := by rw [h.anti]; omega
        have h2 : cf z y < 0 := by rw [h.anti]; omega
        have h3 := h.trans z y x h2 h1
        have h4 := (h.anti x z).1 hz
        omega
theorem cmpL_total : Total cmpL where
  anti := fun a b => by rw [cmpL_anti a b]; omega
  trans := cmpL_trans
  eq := cmpL_eq
  self := cmpL_self
/-- Two strictly sorted lists with the same elements are one. -/
theorem Total.uniqueS {cf : List Int → List Int → Int} (h : Total cf) : ∀ {xs ys : List (List Int)}, (xs.Pairwise fun a b => cf a b < 0) → (ys.Pairwise fun a b => cf a b < 0) → (∀ z, z ∈ xs ↔ z ∈ ys) → xs = ys
  | [], [], _, _, _ => rfl
  | [], y :: ys, _, _, hm => by have := (hm y).2 (by simp); simp at this
  | x :: xs, [], _, _, hm => by have := (hm x).1 (by simp); simp at this
  | x :: xs, y :: ys, hx, hy, hm => by
    rw [List.pairwise_cons] at hx hy
    have hxy : x = y := by
      rcases List.mem_cons.1 ((hm x).1 (by simp)) with e | h1
      · exact e
      · rcases List.mem_cons.1 ((hm y).2 (by simp)) with e | h2
        · exact e.symm
        · have h3 := hy.1 x h1
          have h4 := hx.1 y h2
          have := (h.anti x y).1 h4
          omega
    subst hxy
    congr 1
    refine h.uniqueS hx.2 hy.2 fun z => ?_
    constructor
    · intro hz
      rcases List.mem_cons.1 ((hm z).1 (List.mem_cons_of_mem _ hz)) with e | h1
      · subst e; have := hx.1 z hz; have := h.self z; omega
      · exact h1
    · intro hz
      rcases List.mem_cons.1 ((hm z).2 (List.mem_cons_of_mem _ hz)) with e | h1
      · subst e; have := hy.1 z hz; have := h.self z; omega
      · exact h1

theorem rd_app (pre : List Int) (x : Int) (a : List Int) : rd (pre ++ x :: a) (pre.length : Int) = x := by
  simp [rd]
theorem compare_loop (l m : List Int) (hl : l.length < 9223372036854775807) : ∀ (a b pre pre' : List Int) (k : Nat), l = pre ++ a → m = pre' ++ b → pre.length = pre'.length → a.length < k → slices_Compare_int_int.l0 k l m l (l.length : Int) (pre.length : Int) = some (cmpL a b)
  | a, b, pre, pre', 0, _, _, _, hk => by omega
  | [], b, pre, pre', k + 1, el, em, ep, _ => by
    have h1 : l.length = pre.length := by rw [el]; simp
    have h2 : m.length = pre'.length + b.length := by rw [em]; simp
    simp only [slices_Compare_int_int.l0]
    rw [if_neg (by omega)]
    cases b with
    | nil => rw [if_neg (by simp at h2; omega)]; rfl
    | cons y b => rw [if_pos (by simp at h2; omega)]; rfl
  | x :: a, b, pre, pre', k + 1, el, em, ep, hk => by
    have h1 : l.length = pre.length + (a.length + 1) := by rw [el]; simp
    have h2 : m.length = pre'.length + b.length := by rw [em]; simp
    simp only [slices_Compare_int_int.l0]
    rw [if_pos (by omega), if_pos (by omega), if_pos (by omega)]
    cases b with
    | nil => rw [if_pos (by simp at h2; omega)]; rfl
    | cons y b =>
      simp only [List.length_cons] at h2 hk
      rw [if_neg (by omega), if_pos (by omega)]
      have e1 : rd l (pre.length : Int) = x := by rw [el]; exact rd_app _ _ _
      have e2 : rd m (pre.length : Int) = y := by rw [em, ep]; exact rd_app _ _ _
      rw [e1, e2]
      have hw : wrap64 ((pre.length : Int) + 1) = ((pre ++ [x]).length : Int) := by
        rw [show wrap64 ((pre.length : Int) + 1) = (pre.length : Int) + 1 from ?_]
        · simp
        · unfold wrap64; omega
      have ih := compare_loop l m hl a b (pre ++ [x]) (pre' ++ [y]) k (by rw [el]; simp) (by rw [em]; simp) (by simp [ep]) (by omega)
      rw [hw]
      simp only [cmp_Compare_int.f, cmp_isNaN_int.f]
      simp only [cmpL]
      rcases Int.lt_trichotomy x y with hlt | heq | hgt
      · simp [hlt, show ¬ y < x by omega, cmp_isNaN_int.f]
      · subst heq
        simpa [cmp_isNaN_int.f] using ih
      · simp [hgt, show ¬ x < y by omega, cmp_isNaN_int.f]
theorem compare_ev (l m : List Int) (hl : l.length < 9223372036854775807) : slices_Compare_int_int.f (l.length + 1) l m = some (cmpL l m) := by
  have := compare_loop l m hl l m [] [] (l.length + 1) rfl rfl rfl (by omega)
  simpa [slices_Compare_int_int.f] using this
end Go.Proofs.Ythkmbkibceojlaa.P

-- UsortDedup
namespace Go.Proofs.Ythkmbkibceojlaa.P
set_option linter.unusedVariables false
set_option linter.unusedSimpArgs false

def insS (x : List Int) : List (List Int) → List (List Int)
  | [] => [x]
  | y :: t => if cmpL x y < 0 then x :: y :: t else if cmpL x y = 0 then y :: t else y :: insS x t
def sortDedup : List (List Int) → List (List Int)
  | [] => []
  | x :: t => insS x (sortDedup t)
theorem insS_mem (x z : List Int) : ∀ l, z ∈ insS x l ↔ z = x ∨ z ∈ l
  | [] => by simp [insS]
  | y :: t => by
    unfold insS
    split
    · simp
    · split
      · rename_i h
        have := cmpL_eq x y h
        subst this
        simp
      · simp only [List.mem_cons, insS_mem x z t]
        constructor
        · rintro (h | h | h) <;> simp [h]
        · rintro (h | h | h) <;> simp [h]
theorem insS_sorted (x : List Int) : ∀ l, (l.Pairwise fun a b => cmpL a b < 0) → (insS x l).Pairwise fun a b => cmpL a b < 0
  | [], _ => by simp [insS]
  | y :: t, h => by
    unfold insS
    rw [List.pairwise_cons] at h
    split
    · rename_i h1
      rw [List.pairwise_cons, List.pairwise_cons]
      refine ⟨fun z hz => ?_, h.1, h.2⟩
      rcases List.mem_cons.1 hz with e | hz
      · subst e; exact h1
      · exact cmpL_trans _ _ _ h1 (h.1 z hz)
    · split
      · rw [List.pairwise_cons]; exact h
      · rename_i h1 h2
        rw [List.pairwise_cons]
        refine ⟨fun z hz => ?_, insS_sorted x t h.2⟩
        rcases (insS_mem x z t).1 hz with e | hz
        · subst e
          rw [cmpL_anti]
          omega
        · exact h.1 z hz
theorem sortDedup_mem (z : List Int) : ∀ l, z ∈ sortDedup l ↔ z ∈ l
  | [] => by simp [sortDedup]
  | x :: t => by simp [sortDedup, insS_mem, sortDedup_mem z t]
theorem sortDedup_sorted : ∀ l, (sortDedup l).Pairwise fun a b => cmpL a b < 0
  | [] => by simp [sortDedup]
  | x :: t => insS_sorted x _ (sortDedup_sorted t)
theorem sortDedup_is {l m : List (List Int)} (h1 : m.Pairwise fun a b => cmpL a b < 0) (h2 : ∀ z, z ∈ m ↔ z ∈ l) : m = sortDedup l :=
  cmpL_total.uniqueS h1 (sortDedup_sorted l) (fun z => (h2 z).trans (sortDedup_mem z l).symm)
end Go.Proofs.Ythkmbkibceojlaa.P

-- Umet
namespace Go.Proofs.Ythkmbkibceojlaa.P
open Go Go.Maps Go.WideMaps Go.RowKit
set_option linter.unusedVariables false
set_option linter.unusedSimpArgs false
theorem arr3 : ArrKey Try.prog 69 3 3 := ⟨Try.underlying69, by kernel_rfl, by kernel_rfl, by kernel_rfl⟩
theorem law3 : Keyed Try.prog 69 := Keyed.of_law arr3.law
theorem types_pos : ∃ m, Try.prog.types.size = m + 1 := by
  have h : 0 < Try.prog.types.size := of_decide_eq_true (by kernel_rfl)
  exact ⟨Try.prog.types.size - 1, by omega⟩
theorem intU : Try.prog.underlying 3 = some (.int .i64) := by kernel_rfl
theorem boolU : Try.prog.underlying 4 = some .bool := by kernel_rfl
theorem zeroB (w : World) : (zeroValue 4).run Try.prog w = .ok (.bool false) w := by kernel_rfl
theorem key3 {a b c : Int} (wa : (Lit.int .i64 a).wf = true) (wb : (Lit.int .i64 b).wf = true) (wc : (Lit.int .i64 c).wf = true) :
    keyOf Try.prog 69 (.agg #[.int .i64 a, .int .i64 b, .int .i64 c]) = some (.string (keyBytes [.int .i64 a, .int .i64 b, .int .i64 c])) := by
  have hkt := arr3.keyType types_pos
  obtain ⟨m, hm⟩ := types_pos
  unfold keyOf
  simp only [arr3.hu]
  rw [if_pos (by simp [hkt, Value.formed, arr3.hu, arr3.size]), hm]
  unfold Program.keyLits
  simp only [arr3.hu, Value.cells]
  rw [if_pos (by rw [arr3.size]; rfl), show List.range 3 = [0, 1, 2] from rfl, List.mapM_cons, List.mapM_cons, List.mapM_cons, List.mapM_nil]
  simp [arr3.one, Program.keyLits, intU, wa, wb, wc]
/-- The set. -/
def Met (W : World) (B : Nat) (ks : List (List Int)) : Prop :=
  ∃ (n : Nat) (D : DataW Unit), W.ownsMap Try.prog 69 (plainElem Try.prog 4) B n D ∧ n ≤ ks.length ∧ ∀ a b c kl, keyOf Try.prog 69 (.agg #[.int .i64 a, .int .i64 b, .int .i64 c]) = some kl → D.atKey kl (.lit (.bool false)) = .lit (.bool (decide ([a, b, c] ∈ ks)))
theorem Met.lt {W : World} {B : Nat} {ks : List (List Int)} (h : Met W B ks) : B < W.heap.size := by
  obtain ⟨n, D, h1, _⟩ := h
  exact h1.lt
theorem Met.kept {W w' : World} {B : Nat} {ks : List (List Int)} {row : Option Nat} (h : Met W B ks) (hg : W.grownBy w' row) (hne : some B ≠ row) : Met w' B ks := by
  obtain ⟨n, D, h1, h2⟩ := h
  exact ⟨n, D, h1.kept hg hne, h2⟩
theorem Met.below {W w' : World} {B : Nat} {ks : List (List Int)} (h : Met W B ks) (hb : Below W.heap.size W w') : Met w' B ks :=
  h.kept (row := none) ⟨hb.os, hb.tape, hb.output, hb.size, fun k hk _ => hb.block k hk⟩ (by simp)
theorem met_new (W : World) : Met (W.alloc (.map #[] 0)) W.heap.size [] :=
  ⟨0, .map [], World.ownsMap_made W _ _ _, Nat.le_refl _, fun a b c kl _ => by simp [DataW.atKey]⟩
theorem met_look {W : World} {B : Nat} {ks : List (List Int)} (h : Met W B ks) {a b c : Int} (wa : (Lit.int .i64 a).wf = true) (wb : (Lit.int .i64 b).wf = true) (wc : (Lit.int .i64 c).wf = true) :
    (Instr.lookup 70 (.map (some B)) (.agg #[.int .i64 a, .int .i64 b, .int .i64 c]) false).run Try.prog W = .ok (.bool (decide ([a, b, c] ∈ ks))) W := by
  obtain ⟨n, D, h1, _, h2⟩ := h
  obtain ⟨v, ps, hrun, hv⟩ := h1.lookup law3 Try.underlying70 (zeroB W) (plainElem_bool boolU false) (key3 wa wb wc)
  rw [h2 a b c _ (key3 wa wb wc)] at hv
  rw [hrun]
  unfold plainElem at hv
  rw [boolU] at hv
  cases v <;> simp at hv
  rw [hv.1]
theorem met_put {W : World} {B : Nat} {ks : List (List Int)} (h : Met W B ks) (hk : ks.length < 1000000000) {a b c : Int} (wa : (Lit.int .i64 a).wf = true) (wb : (Lit.int .i64 b).wf = true) (wc : (Lit.int .i64 c).wf = true) :
    ∃ w', (Instr.mapUpdate 70 (.map (some B)) (.agg #[.int .i64 a, .int .i64 b, .int .i64 c]) (.bool true)).run Try.prog W = .ok () w' ∧ Met w' B (ks ++ [[a, b, c]]) ∧ W.grownBy w' (some B) := by
  obtain ⟨n, D, h1, hn, h2⟩ := h
  have hkey := key3 wa wb wc
  obtain ⟨w', hrun, h3, hg⟩ := h1.update law3 Try.underlying70 (by unfold maxLen; omega) hkey (plainElem_bool (H := Unit) boolU true)
  refine ⟨w', hrun, ⟨n + 1, _, h3, by rw [List.length_append, List.length_singleton]; omega, fun x y z kl hkl => ?_⟩, hg⟩
  by_cases he : ([x, y, z] : List Int) = [a, b, c]
  · simp only [List.cons.injEq, and_true] at he
    obtain ⟨rfl, rfl, rfl⟩ := he
    have e : kl = _ := Option.some.inj (hkl.symm.trans hkey)
    rw [e, atKey_put_same h1.isMap (law3.key hkey), decide_eq_true (List.mem_append_right ks List.mem_cons_self)]
  · have hne : kl ≠ .string (keyBytes [.int .i64 a, .int .i64 b, .int .i64 c]) := by
      intro e
      rw [e] at hkl
      have h4 := law3.inj hkl hkey
      simp at h4
      exact he (by rw [h4.1, h4.2.1, h4.2.2])
    rw [atKey_put_other hne, h2 x y z kl hkl]
    have e2 : decide ([x, y, z] ∈ ks) = decide ([x, y, z] ∈ ks ++ [[a, b, c]]) := by
      rw [decide_eq_decide, List.mem_append, List.mem_singleton]
      exact ⟨.inl, fun h5 => h5.resolve_right he⟩
    rw [e2]
end Go.Proofs.Ythkmbkibceojlaa.P

-- UrowsCompact
namespace Go.Proofs.Ythkmbkibceojlaa.P
set_option linter.unusedVariables false
set_option linter.unusedSimpArgs false
open Go.Shelf Go.Lib Go.Sort Go.RowKit Go.Proofs.YthkmbkibceojlaaW.PrintWords Go.Proofs.YthkmbkibceojlaaW.PrintLast

end Go.Proofs.Ythkmbkibceojlaa.P

-- UrowsSort
namespace Go.Proofs.Ythkmbkibceojlaa.P
set_option linter.unusedVariables false
set_option linter.unusedSimpArgs false
open Go.RowKit Go.Proofs.YthkmbkibceojlaaW.PrintWords Go.Proofs.YthkmbkibceojlaaW.PrintLast

/-- A row's inner row: its value, and what it holds. -/
structure RowAt (w : World) (base : Nat) (ok : Nat → Prop) (Pr : List Int → Prop) where
  l : List Int
  v : Value
  hR : Kd.R (Kd.int .i64) 3 w base ok v l
  hP : Pr l
theorem RowAt.one {w : World} {base : Nat} {ok : Nat → Prop} {Pr : List Int → Prop} (x : RowAt w base ok Pr) : x.v.oneCell' = true := by
  obtain ⟨A, c, e⟩ := Kd.R_slice x.hR
  rw [e]
  rfl
theorem rows_at {w : World} {base : Nat} {ok : Nat → Prop} {Pr : List Int → Prop} : ∀ (vs : List Value) (L : List (List Int)), vs.length = L.length → (∀ (j : Nat) (u : Value) (x : List Int), vs[j]? = some u → L[j]? = some x → Kd.R (Kd.int .i64) 3 w base ok u x) → (∀ x ∈ L, Pr x) → ∃ ds : List (RowAt w base ok Pr), ds.map RowAt.v = vs ∧ ds.map RowAt.l = L
  | [], [], _, _, _ => ⟨[], rfl, rfl⟩
  | [], _ :: _, h, _, _ => by simp at h
  | _ :: _, [], h, _, _ => by simp at h
  | u :: vs, x :: L, hl, h, hP => by
    obtain ⟨ds, e1, e2⟩ := rows_at vs L (by simpa using hl) (fun j u x hu hx => h (j + 1) u x (by simpa using hu) (by simpa using hx)) (fun x hx => hP x (List.mem_cons_of_mem _ hx))
    exact ⟨⟨x, u, h 0 u x rfl rfl, hP x (by simp)⟩ :: ds, by simp [e1], by simp [e2]⟩
theorem sortWorld_other {α : Type} [Inhabited α] (enc : α → Value) (w : World) (g n : Nat) (d : Array α) (os : Array Obj) (k : Nat) (hk : k < w.heap.size) (hg : k ≠ g) : (Go.Sort.grow (Go.Sort.putRow enc (Go.Sort.ahead w n) g 0 d) os).heap[k]? = w.heap[k]? := by
  have hsz : (Go.Sort.putRow enc (Go.Sort.ahead w n) g 0 d).heap.size = w.heap.size := by simp
  rw [Go.Sort.heap_grow_old _ _ (by rw [hsz]; exact hk)]
  simp only [Go.Sort.putRow, Go.Sort.mapBlock, Array.getElem?_modify]
  rw [if_neg (by omega)]
  rfl
/-- Rows whose values are those of some others, in another order or fewer, behind a world that turned the row alone. -/
theorem rows_back {w w' : World} {base : Nat} {ok ok' : Nat → Prop} {Pr : List Int → Prop} {ds' : List (RowAt w base ok Pr)} (hap : (ds'.map RowAt.v).Pairwise Apart) (hm : ∀ k, ok k → k < w.heap.size → w'.heap[k]? = w.heap[k]?) (ho : ∀ k, ok k → ok' k) : RowVals w' base ok' (ds'.map RowAt.v) (ds'.map RowAt.l) where
  len := by simp
  row := fun j u x hu hx => by
    rw [List.getElem?_map] at hu hx
    cases hz : ds'[j]? with
    | none => rw [hz] at hu; simp at hu
    | some z =>
      rw [hz] at hu hx
      obtain rfl := Option.some.inj hu
      obtain rfl := Option.some.inj hx
      exact Kd.R_mono (Kd.R_step z.hR hm) ho
  apart := hap

set_option maxHeartbeats 1000000 in
theorem rows_sort (cf : List Int → List Int → Int) (hT : Total cf) (Pr : List Int → Prop) (gf : Nat) (cb : Array Value)
    (eg : ∀ args w, (callFunc gf args).run Try.prog w = .ok (.enter gf args) w)
    (hcmp : ∀ (W : World) (A B : Option Addr) (c c' : Nat) (x y : List Int), Pr x → Pr y → Kd.C (Kd.int .i64) W A x.length x → x.length ≤ c → Kd.C (Kd.int .i64) W B y.length y → y.length ≤ c' → Calls Try.prog gf (#[.slice A x.length c, .slice B y.length c'] ++ cb) W fun e w' => e = .returned (.int .i64 (cf x y)) ∧ Drawn0 W w')
    (P0_ : Nat → Prop) (v : Value) (xs : List (List Int)) (w0 w : World) (hB : Below w0.heap.size w0 w) (hP : ∀ x ∈ xs, Pr x) (hz : xs.length < 4611686018427387904) (ho : Kd.S KII 22 w w0.heap.size P0_ v xs) :
    Calls Try.prog 77 #[v, .func (.func gf) #[] cb] w fun e w' => e = .returned (.tuple #[]) ∧ ∃ ys, ys.Perm xs ∧ (ys.Pairwise fun a b => ¬ cf b a < 0) ∧ Kd.S KII 22 w' w0.heap.size (fun k_ => (P0_ k_ ∨ w.heap.size ≤ k_)) v ys ∧ Below w0.heap.size w0 w' ∧ Kept w w' (fun k_ => P0_ k_) := by
  obtain ⟨vs, h0, hown, hv⟩ := S_vals ho
  obtain ⟨hlen, hcase⟩ := hown
  have hnone : ∀ (p : Option Addr) (cap : Nat), v = .slice p 0 cap → xs = [] → Calls Try.prog 77 #[v, .func (.func gf) #[] cb] w fun e w' => e = .returned (.tuple #[]) ∧ ∃ ys, ys.Perm xs ∧ (ys.Pairwise fun a b => ¬ cf b a < 0) ∧ Kd.S KII 22 w' w0.heap.size (fun k_ => (P0_ k_ ∨ w.heap.size ≤ k_)) v ys ∧ Below w0.heap.size w0 w' ∧ Kept w w' (fun k_ => P0_ k_) := by
    intro p cap ev ex
    subst ev ex
    refine (AnyF.slices_SortFunc_none (P := Try.prog) { Try.laysSlF6_f77 with } p cap (.func (.func gf) #[] cb) w).mono ?_
    rintro e w' ⟨rfl, rfl⟩
    exact ⟨rfl, [], .refl _, .nil, Kd.S_mono ho (fun _ h_ => .inl h_), hB, Kept.refl _ _⟩
  rcases hcase with ⟨ev, hn⟩ | ⟨g, cap, cur, ev, hg, hb, hc, hm, hs, ht⟩
  · exact hnone _ _ ev (List.eq_nil_of_length_eq_zero hn)
  · by_cases hx : xs = []
    · exact hnone _ cap (by rw [ev, hx]; rfl) hx
    · subst ev
      obtain ⟨ds, e1, e2⟩ := rows_at (Pr := Pr) vs xs hv.len hv.row hP
      have hds : ds ≠ [] := fun e => hx (by rw [← e2, e]; rfl)
      letI : Inhabited (RowAt w w0.heap.size (fun k => P0_ k ∧ some k ≠ (Value.slice (some ⟨g, 0, none⟩) xs.length cap).ownBlock) Pr) := ⟨ds.head hds⟩
      have hdl : ds.length = xs.length := by have := congrArg List.length e2; simpa using this
      have ht' : cur.toList.take ds.length = ds.map RowAt.v := by rw [hdl, e1]; simpa using ht
      have hok : P0_ g := h0 g rfl
      have hlt : g < w.heap.size := (Array.getElem?_eq_some_iff.1 hb).1
      have hng : ∀ k, (P0_ k ∧ some k ≠ (Value.slice (some ⟨g, 0, none⟩) xs.length cap).ownBlock) → k ≠ g := fun k hk e => hk.2 (by rw [e]; rfl)
      have hC := Go.Proofs.Any.slices_SortFunc (P := Try.prog) Try.laysSlF6_f77 (RowAt.v (w := w) (base := w0.heap.size) (ok := fun k => P0_ k ∧ some k ≠ (Value.slice (some ⟨g, 0, none⟩) xs.length cap).ownBlock) (Pr := Pr)) RowAt.one (fun a b => cf a.l b.l)
        { irrefl := fun x => hT.swo.irrefl x.l, trans := fun x y z => hT.swo.trans x.l y.l z.l, ntrans := fun x y z => hT.swo.ntrans x.l y.l z.l } gf cb g 0 cap ds.toArray w eg
        (CmpReads.lays fun m os dk hsd x y => by
          have hx := Kd.R_step (w1 := sortWorld RowAt.v w g 0 m dk os) x.hR (fun k hk hlk => sortWorld_other _ _ _ _ _ _ k hlk (hng k hk))
          have hy := Kd.R_step (w1 := sortWorld RowAt.v w g 0 m dk os) y.hR (fun k hk hlk => sortWorld_other _ _ _ _ _ _ k hlk (hng k hk))
          obtain ⟨A, c, ea, ha, hra⟩ := Kd.R_reads hx
          obtain ⟨B, c', eb, hbb, hrb⟩ := Kd.R_reads hy
          rw [ea, eb]
          refine (hcmp _ A B c c' x.l y.l x.hP y.hP hra ha hrb hbb).mono ?_
          rintro e w' ⟨rfl, ⟨q, rfl⟩⟩
          exact ⟨rfl, q, rfl⟩)
        (scalar_holds hb ht') hlt (by simpa [hdl] using hz)
      rw [show ds.toArray.size = xs.length by simpa using hdl] at hC
      refine hC.mono ?_
      rintro e w' ⟨rfl, d', n, os, hp, hso, hw⟩
      have hsz : d'.size = ds.length := by simpa using hp.1
      have hperm : d'.toList.Perm ds := by
        have := hp.2.2
        rw [show d'.extract 0 xs.length = d' by rw [← hdl, ← hsz]; exact Array.extract_size, show ds.toArray.extract 0 xs.length = ds.toArray by rw [show xs.length = ds.toArray.size by simpa using hdl.symm]; exact Array.extract_size] at this
        simpa using this
      have hS := scalar_sorted (enc := RowAt.v) (h1 := RowAt.one) (xs := ds) (ys := d'.toList) (cap := cap) (ok := P0_) hB hok hg hb (by rw [hdl]; exact hc) hm (by simpa using hs) (by simpa using hsz) n os w' (by rw [hw]; simp [sortWorld])
      obtain ⟨hown1, hown2⟩ := scalar_R.1 hS.1
      have hap : (d'.toList.map RowAt.v).Pairwise Apart := by
        refine ((hperm.map RowAt.v).pairwise_iff (fun h => Apart.symm h)).2 ?_
        rw [e1]
        exact hv.apart
      refine ⟨rfl, d'.toList.map RowAt.l, by rw [← e2]; exact hperm.map _, ?_, ?_, hS.2⟩
      · rw [List.pairwise_map, List.pairwise_iff_getElem]
        intro i j hi hj hij
        have h1 := hso i j (Nat.zero_le _) hij (by rw [← hdl, ← hsz]; simpa using hj)
        have h2 : i < d'.size := by simpa using hi
        have h3 : j < d'.size := by simpa using hj
        rw [getElem!_pos d' i h2, getElem!_pos d' j h3] at h1
        simpa [ltOf] using h1
      · have hl2 : (d'.toList.map RowAt.l).length = xs.length := by simp [hsz, hdl]
        refine vals_S (vs := d'.toList.map RowAt.v) (fun k hk => .inl (by simp [Value.ownBlock] at hk; exact hk ▸ hok)) ?_ (rows_back hap (fun k hk hlk => ?_) (fun k hk => ⟨.inl hk.1, hk.2⟩))
        · rw [List.length_map]
          rw [hdl] at hown2
          exact hown2
        · rw [hw]
          exact sortWorld_other _ _ _ _ _ _ k hlk (hng k hk)

end Go.Proofs.Ythkmbkibceojlaa.P

-- Gups
namespace Go.Proofs.Ythkmbkibceojlaa.P
open Go.Shelf Go.RowKit Go.Proofs.YthkmbkibceojlaaW.PrintWords Go.Proofs.YthkmbkibceojlaaW.PrintLast
set_option linter.unusedVariables false
set_option linter.unusedSimpArgs false

theorem compare_enters : ∀ args w, (callFunc 78 args).run Try.prog w = .ok (.enter 78 args) w := fun args w => enters_of Try.func78 (by kernel_rfl) rfl args w
theorem compare_at (W : World) (A B : Option Addr) (c c' : Nat) (x y : List Int) (hx : x.length < 9223372036854775807) (hy : y.length < 9223372036854775807) (h1 : Kd.C (Kd.int .i64) W A x.length x) (h2 : x.length ≤ c) (h3 : Kd.C (Kd.int .i64) W B y.length y) (h4 : y.length ≤ c') : Calls Try.prog 78 (#[.slice A x.length c, .slice B y.length c'] ++ #[]) W fun e w' => e = .returned (.int .i64 (cmpL x y)) ∧ Drawn0 W w' :=
  slices_Compare_int_int.calls (x.length + 1) A c x B c' y (cmpL x y) W h1 h2 h3 h4 (compare_ev x y hx)

end Go.Proofs.Ythkmbkibceojlaa.P

-- UmkUp
namespace Go.Proofs.Ythkmbkibceojlaa.P
set_option linter.unusedVariables false
set_option linter.unusedSimpArgs false
open Go.RowKit Go.Proofs.YthkmbkibceojlaaW.PrintWords Go.Proofs.YthkmbkibceojlaaW.PrintLast Go.Proofs.YthkmbkibceojlaaW.PrintMore

end Go.Proofs.Ythkmbkibceojlaa.P

-- UmkLaw
namespace Go.Proofs.Ythkmbkibceojlaa.P
set_option linter.unusedVariables false
set_option linter.unusedSimpArgs false
open Go.RowKit Go.Proofs.YthkmbkibceojlaaW.PrintWords Go.Proofs.YthkmbkibceojlaaW.PrintLast Go.Proofs.YthkmbkibceojlaaW.PrintMore
/-- dSame tells equality. -/
theorem dSame_from (a b : List Int) (hl : a.length = b.length) (hn : a.length ≤ 4611686018427387904) (d : Nat) : ∀ i : Nat, i + d = a.length → a.take i = b.take i → Ev (fun k => laws_dSame.l0 k a b (a.length : Int) (i : Int)) (decide (a = b)) := by
  induction d with
  | zero =>
    intro i hi ht
    rw [List.take_of_length_le (by omega), List.take_of_length_le (by omega)] at ht
    refine Ev.step (fun k => by simp only [laws_dSame.l0]; rw [if_neg (by omega)]) ?_
    exact Ev.is (by rw [decide_eq_true ht])
  | succ d ih =>
    intro i hi ht
    by_cases h : rd a (i : Int) = rd b (i : Int)
    · have hr := ih (i + 1) (by omega) (by rw [List.take_succ_eq_append_getElem (by omega), List.take_succ_eq_append_getElem (by omega), ht, ← rd_lt a i (by omega), ← rd_lt b i (by omega), h])
      exact Ev.step (fun k => by simp only [laws_dSame.l0]; rw [if_pos (by omega), if_pos (by omega), if_pos (by omega), if_pos (by omega), if_pos h, w64_succ (n := a.length) (by omega) hn]) hr
    · have hd : decide (a = b) = false := decide_eq_false (fun e => h (by rw [e]))
      exact Ev.step (f := fun _ => some false) (fun k => by simp only [laws_dSame.l0]; rw [if_pos (by omega), if_pos (by omega), if_pos (by omega), if_pos (by omega), if_neg h]) (Ev.is (by rw [hd]))
theorem dSame_ev (a b : List Int) (hn : a.length ≤ 4611686018427387904) : Ev (fun k => laws_dSame.f k a b) (decide (a = b)) := by
  unfold laws_dSame.f
  by_cases hl : a.length = b.length
  · simp only [hl, if_true]
    have := dSame_from a b hl hn a.length 0 (by omega) rfl
    rw [hl] at this
    exact this
  · have h : ¬ (a.length : Int) = (b.length : Int) := by omega
    simp only [h, if_false]
    have hd : decide (a = b) = false := decide_eq_false (fun e => hl (by rw [e]))
    exact Ev.is (by rw [hd])
end Go.Proofs.Ythkmbkibceojlaa.P

-- UdLists
namespace Go.Proofs.Ythkmbkibceojlaa.P
set_option linter.unusedVariables false
set_option linter.unusedSimpArgs false
open Go.RowKit Go.Proofs.YthkmbkibceojlaaW.PrintWords Go.Proofs.YthkmbkibceojlaaW.PrintLast Go.Proofs.YthkmbkibceojlaaW.PrintMore
theorem rdL1_get (L : List (List Int)) (i : Nat) (hi : i < L.length) : rd_L1 L (i : Int) = L[i] := by
  unfold rd_L1
  rw [Int.toNat_natCast, List.getD_eq_getElem?_getD, List.getElem?_eq_getElem hi]
  rfl
theorem dLists_from (W : List (List Int)) (hn : W.length ≤ 5000000000) (hs : ∀ x ∈ W, x.length ≤ 1000000) (d : Nat) : ∀ i : Nat, i + d = W.length → Ev (fun k => laws_dLists.l0 k W W (W.length : Int) (i : Int)) true := by
  induction d with
  | zero =>
    intro i hi
    exact Ev.step (f := fun _ => some true) (fun k => by simp only [laws_dLists.l0]; rw [if_neg (by omega)]) (Ev.is rfl)
  | succ d ih =>
    intro i hi
    have hil : i < W.length := by omega
    have hv := dSame_ev W[i] W[i] (by have := hs _ (List.getElem_mem hil); omega)
    rw [decide_eq_true rfl] at hv
    refine Ev.step (f := fun k => (laws_dSame.f k W[i] W[i]).bind fun t => if t = true then laws_dLists.l0 k W W (W.length : Int) ((i + 1 : Nat) : Int) else some false) (fun k => ?_) (Ev.bind hv ?_)
    · simp only [laws_dLists.l0]
      rw [if_pos (by omega), if_pos (by omega), if_pos (by omega), if_pos (by omega), rdL1_get W i hil, w64_succ (n := W.length) (by omega) (by omega)]
    · simp only [if_true]
      exact ih (i + 1) (by omega)
theorem dLists_ev (W : List (List Int)) (hn : W.length ≤ 5000000000) (hs : ∀ x ∈ W, x.length ≤ 1000000) : Ev (fun k => laws_dLists.f k W W) true := by
  unfold laws_dLists.f
  simp only [if_true]
  exact dLists_from W hn hs W.length 0 (by omega)
end Go.Proofs.Ythkmbkibceojlaa.P
