/- Climbing goes jump by jump, and branches are the jumps that make the sum greater. No condition. -/
import Derived.Test.YtgpoljimomfbbaaPackFnClimbsOfHurwitz6
import Derived.Test.YtgpoljimomfbbaaLib
import Derived.Shelf.SlSortCmp.NoneTotal
-- UrowsSort
namespace Go.Proofs.Ytgpoljimomfbbaa.P
set_option linter.unusedVariables false
set_option linter.unusedSimpArgs false
open Go.RowKit Go.Proofs.YtgpoljimomfbbaaW.PrintWords Go.Proofs.YtgpoljimomfbbaaW.PrintLast

/-- A row's inner row: its value, and what it holds. -/
structure RowAt (w : World) (base : Nat) (ok : Nat → Prop) (Pr : List Int → Prop) where
  l : List Int
  v : Value
  hR : Kd.R (Kd.int .i64) 3 w base ok v l
  hP : Pr l
theorem RowAt.one {w : World} {base : Nat} {ok : Nat → Prop} {Pr : List Int → Prop} (x : RowAt w base ok Pr) : x.v.oneCell' = true := by
  obtain ⟨A, c, e⟩ := Kd.R_slice x.hR
  rw [e]
  rfl
theorem rows_at {w : World} {base : Nat} {ok : Nat → Prop} {Pr : List Int → Prop} : ∀ (vs : List Value) (L : List (List Int)), vs.length = L.length → (∀ (j : Nat) (u : Value) (x : List Int), vs[j]? = some u → L[j]? = some x → Kd.R (Kd.int .i64) 3 w base ok u x) → (∀ x ∈ L, Pr x) → ∃ ds : List (RowAt w base ok Pr), ds.map RowAt.v = vs ∧ ds.map RowAt.l = L
  | [], [], _, _, _ => ⟨[], rfl, rfl⟩
  | [], _ :: _, h, _, _ => by simp at h
  | _ :: _, [], h, _, _ => by simp at h
  | u :: vs, x :: L, hl, h, hP => by
    obtain ⟨ds, e1, e2⟩ := rows_at vs L (by simpa using hl) (fun j u x hu hx => h (j + 1) u x (by simpa using hu) (by simpa using hx)) (fun x hx => hP x (List.mem_cons_of_mem _ hx))
    exact ⟨⟨x, u, h 0 u x rfl rfl, hP x (by simp)⟩ :: ds, by simp [e1], by simp [e2]⟩
theorem sortWorld_other {α : Type} [Inhabited α] (enc : α → Value) (w : World) (g n : Nat) (d : Array α) (os : Array Obj) (k : Nat) (hk : k < w.heap.size) (hg : k ≠ g) : (Go.Sort.grow (Go.Sort.putRow enc (Go.Sort.ahead w n) g 0 d) os).heap[k]? = w.heap[k]? := by
  have hsz : (Go.Sort.putRow enc (Go.Sort.ahead w n) g 0 d).heap.size = w.heap.size := by simp
  rw [Go.Sort.heap_grow_old _ _ (by rw [hsz]; exact hk)]
  simp only [Go.Sort.putRow, Go.Sort.mapBlock, Array.getElem?_modify]
  rw [if_neg (by omega)]
  rfl
/-- Rows whose values are those of some others, in another order or fewer, behind a world that turned the row alone. -/
theorem rows_back {w w' : World} {base : Nat} {ok ok' : Nat → Prop} {Pr : List Int → Prop} {ds' : List (RowAt w base ok Pr)} (hap : (ds'.map RowAt.v).Pairwise Apart) (hm : ∀ k, ok k → k < w.heap.size → w'.heap[k]? = w.heap[k]?) (ho : ∀ k, ok k → ok' k) : RowVals w' base ok' (ds'.map RowAt.v) (ds'.map RowAt.l) where
  len := by simp
  row := fun j u x hu hx => by
    rw [List.getElem?_map] at hu hx
    cases hz : ds'[j]? with
    | none => rw [hz] at hu; simp at hu
    | some z =>
      rw [hz] at hu hx
      obtain rfl := Option.some.inj hu
      obtain rfl := Option.some.inj hx
      exact Kd.R_mono (Kd.R_step z.hR hm) ho
  apart := hap

set_option maxHeartbeats 1000000 in
theorem rows_sort (cf : List Int → List Int → Int) (hT : Total cf) (Pr : List Int → Prop) (gf : Nat) (cb : Array Value)
    (eg : ∀ args w, (callFunc gf args).run Try.prog w = .ok (.enter gf args) w)
    (hcmp : ∀ (W : World) (A B : Option Addr) (c c' : Nat) (x y : List Int), Pr x → Pr y → Kd.C (Kd.int .i64) W A x.length x → x.length ≤ c → Kd.C (Kd.int .i64) W B y.length y → y.length ≤ c' → Calls Try.prog gf (#[.slice A x.length c, .slice B y.length c'] ++ cb) W fun e w' => e = .returned (.int .i64 (cf x y)) ∧ Drawn0 W w')
    (P0_ : Nat → Prop) (v : Value) (xs : List (List Int)) (w0 w : World) (hB : Below w0.heap.size w0 w) (hP : ∀ x ∈ xs, Pr x) (hz : xs.length < 4611686018427387904) (ho : Kd.S KII 22 w w0.heap.size P0_ v xs) :
    Calls Try.prog 62 #[v, .func (.func gf) #[] cb] w fun e w' => e = .returned (.tuple #[]) ∧ ∃ ys, ys.Perm xs ∧ (ys.Pairwise fun a b => ¬ cf b a < 0) ∧ Kd.S KII 22 w' w0.heap.size (fun k_ => (P0_ k_ ∨ w.heap.size ≤ k_)) v ys ∧ Below w0.heap.size w0 w' ∧ Kept w w' (fun k_ => P0_ k_) := by
  obtain ⟨vs, h0, hown, hv⟩ := S_vals ho
  obtain ⟨hlen, hcase⟩ := hown
  have hnone : ∀ (p : Option Addr) (cap : Nat), v = .slice p 0 cap → xs = [] → Calls Try.prog 62 #[v, .func (.func gf) #[] cb] w fun e w' => e = .returned (.tuple #[]) ∧ ∃ ys, ys.Perm xs ∧ (ys.Pairwise fun a b => ¬ cf b a < 0) ∧ Kd.S KII 22 w' w0.heap.size (fun k_ => (P0_ k_ ∨ w.heap.size ≤ k_)) v ys ∧ Below w0.heap.size w0 w' ∧ Kept w w' (fun k_ => P0_ k_) := by
    intro p cap ev ex
    subst ev ex
    refine (AnyF.slices_SortFunc_none (P := Try.prog) { Try.laysSlF6_f62 with } p cap (.func (.func gf) #[] cb) w).mono ?_
    rintro e w' ⟨rfl, rfl⟩
    exact ⟨rfl, [], .refl _, .nil, Kd.S_mono ho (fun _ h_ => .inl h_), hB, Kept.refl _ _⟩
  rcases hcase with ⟨ev, hn⟩ | ⟨g, cap, cur, ev, hg, hb, hc, hm, hs, ht⟩
  · exact hnone _ _ ev (List.eq_nil_of_length_eq_zero hn)
  · by_cases hx : xs = []
    · exact hnone _ cap (by rw [ev, hx]; rfl) hx
    · subst ev
      obtain ⟨ds, e1, e2⟩ := rows_at (Pr := Pr) vs xs hv.len hv.row hP
      have hds : ds ≠ [] := fun e => hx (by rw [← e2, e]; rfl)
      letI : Inhabited (RowAt w w0.heap.size (fun k => P0_ k ∧ some k ≠ (Value.slice (some ⟨g, 0, none⟩) xs.length cap).ownBlock) Pr) := ⟨ds.head hds⟩
      have hdl : ds.length = xs.length := by have := congrArg List.length e2; simpa using this
      have ht' : cur.toList.take ds.length = ds.map RowAt.v := by rw [hdl, e1]; simpa using ht
      have hok : P0_ g := h0 g rfl
      have hlt : g < w.heap.size := (Array.getElem?_eq_some_iff.1 hb).1
      have hng : ∀ k, (P0_ k ∧ some k ≠ (Value.slice (some ⟨g, 0, none⟩) xs.length cap).ownBlock) → k ≠ g := fun k hk e => hk.2 (by rw [e]; rfl)
      have hC := Go.Proofs.Any.slices_SortFunc (P := Try.prog) Try.laysSlF6_f62 (RowAt.v (w := w) (base := w0.heap.size) (ok := fun k => P0_ k ∧ some k ≠ (Value.slice (some ⟨g, 0, none⟩) xs.length cap).ownBlock) (Pr := Pr)) RowAt.one (fun a b => cf a.l b.l)
        { irrefl := fun x => hT.swo.irrefl x.l, trans := fun x y z => hT.swo.trans x.l y.l z.l, ntrans := fun x y z => hT.swo.ntrans x.l y.l z.l } gf cb g 0 cap ds.toArray w eg
        (CmpReads.lays fun m os dk hsd x y => by
          have hx := Kd.R_step (w1 := sortWorld RowAt.v w g 0 m dk os) x.hR (fun k hk hlk => sortWorld_other _ _ _ _ _ _ k hlk (hng k hk))
          have hy := Kd.R_step (w1 := sortWorld RowAt.v w g 0 m dk os) y.hR (fun k hk hlk => sortWorld_other _ _ _ _ _ _ k hlk (hng k hk))
          obtain ⟨A, c, ea, ha, hra⟩ := Kd.R_reads hx
          obtain ⟨B, c', eb, hbb, hrb⟩ := Kd.R_reads hy
          rw [ea, eb]
          refine (hcmp _ A B c c' x.l y.l x.hP y.hP hra ha hrb hbb).mono ?_
          rintro e w' ⟨rfl, ⟨q, rfl⟩⟩
          exact ⟨rfl, q, rfl⟩)
        (scalar_holds hb ht') hlt (by simpa [hdl] using hz)
      rw [show ds.toArray.size = xs.length by simpa using hdl] at hC
      refine hC.mono ?_
      rintro e w' ⟨rfl, d', n, os, hp, hso, hw⟩
      have hsz : d'.size = ds.length := by simpa using hp.1
      have hperm : d'.toList.Perm ds := by
        have := hp.2.2
        rw [show d'.extract 0 xs.length = d' by rw [← hdl, ← hsz]; exact Array.extract_size, show ds.toArray.extract 0 xs.length = ds.toArray by rw [show xs.length = ds.toArray.size by simpa using hdl.symm]; exact Array.extract_size] at this
        simpa using this
      have hS := scalar_sorted (enc := RowAt.v) (h1 := RowAt.one) (xs := ds) (ys := d'.toList) (cap := cap) (ok := P0_) hB hok hg hb (by rw [hdl]; exact hc) hm (by simpa using hs) (by simpa using hsz) n os w' (by rw [hw]; simp [sortWorld])
      obtain ⟨hown1, hown2⟩ := scalar_R.1 hS.1
      have hap : (d'.toList.map RowAt.v).Pairwise Apart := by
        refine ((hperm.map RowAt.v).pairwise_iff (fun h => Apart.symm h)).2 ?_
        rw [e1]
        exact hv.apart
      refine ⟨rfl, d'.toList.map RowAt.l, by rw [← e2]; exact hperm.map _, ?_, ?_, hS.2⟩
      · rw [List.pairwise_map, List.pairwise_iff_getElem]
        intro i j hi hj hij
        have h1 := hso i j (Nat.zero_le _) hij (by rw [← hdl, ← hsz]; simpa using hj)
        have h2 : i < d'.size := by simpa using hi
        have h3 : j < d'.size := by simpa using hj
        rw [getElem!_pos d' i h2, getElem!_pos d' j h3] at h1
        simpa [ltOf] using h1
      · have hl2 : (d'.toList.map RowAt.l).length = xs.length := by simp [hsz, hdl]
        refine vals_S (vs := d'.toList.map RowAt.v) (fun k hk => .inl (by simp [Value.ownBlock] at hk; exact hk ▸ hok)) ?_ (rows_back hap (fun k hk hlk => ?_) (fun k hk => ⟨.inl hk.1, hk.2⟩))
        · rw [List.length_map]
          rw [hdl] at hown2
          exact hown2
        · rw [hw]
          exact sortWorld_other _ _ _ _ _ _ k hlk (hng k hk)

/-- What is kept of a sorted row: its elements, once each. -/
theorem kept_sorted {α : Type} [Inhabited α] (key : α → List Int) (p : α → α → Bool) (hp : ∀ u v, p u v = decide (key u = key v)) (d : Array α) (hs : (d.toList.map key).Pairwise fun a b => ¬ cmpL b a < 0) :
    ((Go.Lib.keptUpTo (kpOf p d) d d.size).map key).Pairwise (fun a b => cmpL a b < 0) ∧ ∀ z, z ∈ (Go.Lib.keptUpTo (kpOf p d) d d.size).map key ↔ z ∈ d.toList.map key := by
  have hle : ∀ i j, i ≤ j → j < d.size → ¬ cmpL (key d[j]!) (key d[i]!) < 0 := by
    intro i j hij hj
    rcases Nat.lt_or_eq_of_le hij with h | h
    · rw [List.pairwise_map, List.pairwise_iff_getElem] at hs
      have := hs i j (by simp; omega) (by simpa using hj) h
      rw [getElem!_pos d i (by omega), getElem!_pos d j hj]
      simpa using this
    · subst h
      rw [cmpL_self]
      omega
  constructor
  · rw [List.pairwise_map]
    unfold Go.Lib.keptUpTo
    rw [List.pairwise_map]
    have hr : ((List.range d.size).filter (kpOf p d)).Pairwise fun i j => i < j ∧ j < d.size ∧ kpOf p d j = true := by
      have h1 : ((List.range d.size).filter (kpOf p d)).Pairwise (· < ·) := List.Pairwise.sublist List.filter_sublist List.pairwise_lt_range
      rw [List.pairwise_iff_getElem] at h1 ⊢
      intro i j hi hj hij
      have h2 := List.getElem_mem hj
      rw [List.mem_filter, List.mem_range] at h2
      exact ⟨h1 i j hi hj hij, h2⟩
    refine hr.imp ?_
    rintro i j ⟨hij, hj, hk⟩
    have h1 := hle i (j - 1) (by omega) (by omega)
    have h2 := hle (j - 1) j (by omega) hj
    have h3 : key d[j]! ≠ key d[j - 1]! := by
      unfold kpOf at hk
      rw [hp] at hk
      simp at hk
      rcases hk with h | h
      · omega
      · exact h
    by_cases e1 : cmpL (key d[j - 1]!) (key d[j]!) = 0
    · exact absurd (cmpL_eq _ _ e1).symm h3
    · have h4 : cmpL (key d[j - 1]!) (key d[j]!) < 0 := by rw [cmpL_anti] at h2; omega
      by_cases e2 : cmpL (key d[i]!) (key d[j - 1]!) = 0
      · rw [cmpL_eq _ _ e2]; exact h4
      · refine cmpL_trans _ _ _ ?_ h4
        rw [cmpL_anti] at h1
        omega
  · intro z
    constructor
    · intro hz
      obtain ⟨x, hx, rfl⟩ := List.mem_map.1 hz
      unfold Go.Lib.keptUpTo at hx
      obtain ⟨j, hj, rfl⟩ := List.mem_map.1 hx
      rw [List.mem_filter, List.mem_range] at hj
      refine List.mem_map.2 ⟨_, ?_, rfl⟩
      rw [getElem!_pos d j hj.1]
      simp
    · intro hz
      obtain ⟨x, hx, rfl⟩ := List.mem_map.1 hz
      obtain ⟨j, hj, rfl⟩ := List.getElem_of_mem hx
      have hj' : j < d.size := by simpa using hj
      have hgo : ∀ m, m < d.size → ∃ i, i < d.size ∧ kpOf p d i = true ∧ key d[i]! = key d[m]! := by
        intro m
        induction m with
        | zero => intro hm; exact ⟨0, hm, rfl, rfl⟩
        | succ m ih =>
          intro hm
          by_cases hk : kpOf p d (m + 1) = true
          · exact ⟨m + 1, hm, hk, rfl⟩
          · obtain ⟨i, hi, hki, he⟩ := ih (by omega)
            refine ⟨i, hi, hki, he.trans ?_⟩
            unfold kpOf at hk
            rw [hp] at hk
            simp at hk
            exact hk.symm
      obtain ⟨i, hi, hki, he⟩ := hgo j hj'
      refine List.mem_map.2 ⟨d[i]!, ?_, ?_⟩
      · unfold Go.Lib.keptUpTo
        exact List.mem_map.2 ⟨i, List.mem_filter.2 ⟨List.mem_range.2 hi, hki⟩, rfl⟩
      · rw [he, getElem!_pos d j hj']
        simp

set_option maxHeartbeats 1000000 in
theorem rows_compact (P0_ : Nat → Prop) (v : Value) (xs : List (List Int)) (w0 w : World) (hB : Below w0.heap.size w0 w) (hP : ∀ x ∈ xs, x.length < 9223372036854775807) (hs : xs.Pairwise fun a b => ¬ cmpL b a < 0) (ho : Kd.S KII 22 w w0.heap.size P0_ v xs) :
    Calls Try.prog 93 #[v, .func (.func 61) #[] #[]] w fun e w' => ∃ v', e = .returned v' ∧ ∃ ys, (ys.Pairwise fun a b => cmpL a b < 0) ∧ (∀ z, z ∈ ys ↔ z ∈ xs) ∧ Kd.S KII 22 w' w0.heap.size (fun k_ => (P0_ k_ ∨ w.heap.size ≤ k_)) v' ys ∧ Below w0.heap.size w0 w' ∧ Kept w w' (fun k_ => P0_ k_) := by
  obtain ⟨vs, h0, hown, hv⟩ := S_vals ho
  obtain ⟨hlen, hcase⟩ := hown
  rcases hcase with ⟨ev, hn⟩ | ⟨g, cap, cur, ev, hg, hb, hc, hm, hcs, ht⟩
  · obtain rfl : xs = [] := List.eq_nil_of_length_eq_zero hn
    subst ev
    go_enter Try.func93, Try.ntmps93
    go_wp2
    go_ret
    exact ⟨_, rfl, [], .nil, by simp, Kd.S_nil _ _ _ _ _, hB, Kept.refl _ _⟩
  · subst ev
    obtain ⟨ds, e1, e2⟩ := rows_at (Pr := fun x => x.length < 9223372036854775807) vs xs hv.len hv.row hP
    let nil_ : RowAt w w0.heap.size (fun k => P0_ k ∧ some k ≠ (Value.slice (some ⟨g, 0, none⟩) xs.length cap).ownBlock) (fun x => x.length < 9223372036854775807) := ⟨[], .slice none 0 0, Kd.R_nil _ _ _ _ _, by decide⟩
    letI : Inhabited (RowAt w w0.heap.size (fun k => P0_ k ∧ some k ≠ (Value.slice (some ⟨g, 0, none⟩) xs.length cap).ownBlock) (fun x => x.length < 9223372036854775807)) := ⟨nil_⟩
    have hdl : ds.length = xs.length := by have := congrArg List.length e2; simpa using this
    have ht' : cur.toList.take ds.length = ds.map RowAt.v := by rw [hdl, e1]; simpa using ht
    have hok : P0_ g := h0 g rfl
    have hlt : g < w.heap.size := (Array.getElem?_eq_some_iff.1 hb).1
    have hng : ∀ k, (P0_ k ∧ some k ≠ (Value.slice (some ⟨g, 0, none⟩) xs.length cap).ownBlock) → k ≠ g := fun k hk e => hk.2 (by rw [e]; rfl)
    have hgrow0 : ∀ W : World, Go.Sort.grow W #[] = W := fun W => Go.Sort.grow_empty W
    have hC := compact_walk (RowAt.v (w := w) (base := w0.heap.size) (ok := fun k => P0_ k ∧ some k ≠ (Value.slice (some ⟨g, 0, none⟩) xs.length cap).ownBlock) (Pr := fun x => x.length < 9223372036854775807)) RowAt.one (fun a b => decide (a.l = b.l)) nil_ rfl g 0 cap ds.toArray w
      (fun dk x y q hsd => by
        have hst : ∀ k, (P0_ k ∧ some k ≠ (Value.slice (some ⟨g, 0, none⟩) xs.length cap).ownBlock) → k < w.heap.size → (Go.Sort.putRow RowAt.v (Go.Sort.ahead w q) g 0 dk).heap[k]? = w.heap[k]? := fun k hk hlk => by
          have := sortWorld_other RowAt.v w g q dk #[] k hlk (hng k hk)
          rwa [hgrow0] at this
        have hx := Kd.R_step (w1 := Go.Sort.putRow RowAt.v (Go.Sort.ahead w q) g 0 dk) x.hR hst
        have hy := Kd.R_step (w1 := Go.Sort.putRow RowAt.v (Go.Sort.ahead w q) g 0 dk) y.hR hst
        obtain ⟨A, c, ea, ha, hra⟩ := Kd.R_reads hx
        obtain ⟨B, c', eb, hbb, hrb⟩ := Kd.R_reads hy
        rw [ea, eb]
        refine (slices_Equal_int_int.calls (x.l.length + 1) A c x.l B c' y.l (decide (x.l = y.l)) _ hra ha hrb hbb (equal_ev x.l y.l x.hP)).mono ?_
        rintro e w' ⟨rfl, ⟨q', rfl⟩⟩
        exact ⟨rfl, q', rfl⟩)
      (scalar_holds hb ht') (by have : cap ≤ 9223372036854775807 := hm; simp only [List.size_toArray]; omega) (by simp only [List.size_toArray]; omega)
    rw [show ds.toArray.size = xs.length by simpa using hdl] at hC
    refine hC.mono ?_
    rintro e w' ⟨rfl, q, hw⟩
    obtain ⟨ks, hks⟩ : ∃ ks, ks = Go.Lib.keptUpTo (kpOf (fun a b : RowAt w w0.heap.size (fun k => P0_ k ∧ some k ≠ (Value.slice (some ⟨g, 0, none⟩) xs.length cap).ownBlock) (fun x => x.length < 9223372036854775807) => decide (a.l = b.l)) ds.toArray) ds.toArray ds.toArray.size := ⟨_, rfl⟩
    have hks2 : Go.Lib.keptUpTo (kpOf (fun a b : RowAt w w0.heap.size (fun k => P0_ k ∧ some k ≠ (Value.slice (some ⟨g, 0, none⟩) xs.length cap).ownBlock) (fun x => x.length < 9223372036854775807) => decide (a.l = b.l)) ds.toArray) ds.toArray xs.length = ks := by rw [hks]; congr 1; simpa using hdl.symm
    rw [hks2] at hw ⊢
    have hrange : (List.range ds.toArray.size).map (fun j => ds.toArray[j]!) = ds := by
      apply List.ext_getElem
      · simp
      · intro i hi1 hi2
        simp [hi2]
    have hsub : ks.Sublist ds := by
      rw [hks]
      unfold Go.Lib.keptUpTo
      have h1 := List.Sublist.map (fun j => ds.toArray[j]!) (List.filter_sublist (p := kpOf (fun a b : RowAt w w0.heap.size (fun k => P0_ k ∧ some k ≠ (Value.slice (some ⟨g, 0, none⟩) xs.length cap).ownBlock) (fun x => x.length < 9223372036854775807) => decide (a.l = b.l)) ds.toArray) (l := List.range ds.toArray.size))
      rw [hrange] at h1
      exact h1
    have hlk : ks.length ≤ ds.length := hsub.length_le
    have hS := scalar_sorted (enc := RowAt.v) (h1 := RowAt.one) (xs := ds) (ys := ks ++ List.replicate (xs.length - ks.length) nil_) (cap := cap) (ok := P0_) hB hok hg hb (by rw [hdl]; exact hc) hm (by simpa using hcs) (by simp; omega) q #[] w' (by rw [hw, hgrow0])
    have hTk := scalar_take hS.1 ks.length (by simp)
    rw [List.take_left] at hTk
    obtain ⟨hown1, hown2⟩ := scalar_R.1 hTk
    have hKS := kept_sorted (fun a : RowAt w w0.heap.size (fun k => P0_ k ∧ some k ≠ (Value.slice (some ⟨g, 0, none⟩) xs.length cap).ownBlock) (fun x => x.length < 9223372036854775807) => a.l) (fun a b => decide (a.l = b.l)) (fun u v => rfl) ds.toArray (by rw [show ds.toArray.toList.map (fun a => a.l) = xs from e2]; exact hs)
    rw [← hks] at hKS
    have hap : (ks.map RowAt.v).Pairwise Apart := List.Pairwise.sublist (hsub.map RowAt.v) (by rw [e1]; exact hv.apart)
    refine ⟨_, rfl, ks.map RowAt.l, hKS.1, fun z => (hKS.2 z).trans (by rw [show ds.toArray.toList.map (fun a => a.l) = xs from e2]), ?_, hS.2⟩
    refine vals_S (vs := ks.map RowAt.v) hown1 ?_ (rows_back hap (fun k hk hlk2 => ?_) (fun k hk => ⟨.inl hk.1, hk.2⟩))
    · rw [List.length_map]
      exact hown2
    · rw [hw]
      have := sortWorld_other RowAt.v w g q (ks ++ List.replicate (xs.length - ks.length) nil_).toArray #[] k hlk2 (hng k hk)
      rwa [hgrow0] at this
end Go.Proofs.Ytgpoljimomfbbaa.P

-- UrowsCat
namespace Go.Proofs.Ytgpoljimomfbbaa.P
set_option linter.unusedVariables false
set_option linter.unusedSimpArgs false
open Go.RowKit Go.Proofs.YtgpoljimomfbbaaW.PrintWords Go.Proofs.YtgpoljimomfbbaaW.PrintLast

abbrev OneV := {v : Value // v.oneCell' = true}
theorem rows_one {w : World} {base : Nat} {ok : Nat → Prop} {vs : List Value} {L : List (List Int)} (h : RowVals w base ok vs L) : ∃ us : List OneV, us.map (·.1) = vs := by
  have hone : ∀ u ∈ vs, u.oneCell' = true := by
    intro u hu
    obtain ⟨j, hj, rfl⟩ := List.getElem_of_mem hu
    have hL : j < L.length := by have := h.len; omega
    obtain ⟨A, c, e⟩ := Kd.R_slice (h.row j vs[j] L[j] (List.getElem?_eq_getElem hj) (List.getElem?_eq_getElem hL))
    rw [e]
    rfl
  exact ⟨vs.attach.map (fun u => ⟨u.1, hone u.1 u.2⟩), by simp⟩
/-- A row of rows, seen as a row of values. -/
theorem S_scal {w : World} {base : Nat} {ok : Nat → Prop} {v : Value} {L : List (List Int)} (h : Kd.S KII 22 w base ok v L) :
    ∃ us : List OneV, (Kd.scalar (fun x : OneV => x.1) (fun x => x.2)).R 22 w base ok v us ∧ us.length = L.length ∧ RowVals w base (fun k => ok k ∧ some k ≠ v.ownBlock) (us.map (·.1)) L := by
  obtain ⟨vs, h0, hown, hv⟩ := S_vals h
  obtain ⟨us, rfl⟩ := rows_one hv
  have hl : us.length = L.length := by have := hv.len; simpa using this
  exact ⟨us, scalar_R.2 ⟨h0, by rw [hl]; exact hown⟩, hl, hv⟩
theorem scal_S {w : World} {base : Nat} {ok : Nat → Prop} {v : Value} {us : List OneV} {L : List (List Int)} (h : (Kd.scalar (fun x : OneV => x.1) (fun x => x.2)).R 22 w base ok v us) (hv : RowVals w base (fun k => ok k ∧ some k ≠ v.ownBlock) (us.map (·.1)) L) : Kd.S KII 22 w base ok v L := by
  obtain ⟨h1, h2⟩ := scalar_R.1 h
  have hl : us.length = L.length := by have := hv.len; simpa using this
  exact vals_S h1 (by rw [← hl]; exact h2) hv
/-- Rows that lie above some mark. -/
theorem RowVals.above {w : World} {B base : Nat} {ok ok' : Nat → Prop} {vs : List Value} {L : List (List Int)} (h : RowVals w B ok vs L) (hb : base ≤ B) (ho : ∀ k, ok k → B ≤ k → ok' k) : RowVals w base ok' vs L where
  len := h.len
  row := fun j u x hu hx => by
    have hr := h.row j u x hu hx
    exact Kd.R_lower (Kd.R_mono (Kd.R_bound hr) (fun k hk => ho k hk.1 hk.2.1)) hb
  apart := h.apart
theorem RowVals.own {w : World} {base : Nat} {ok : Nat → Prop} {vs : List Value} {L : List (List Int)} (h : RowVals w base ok vs L) {u : Value} (hu : u ∈ vs) {k : Nat} (hk : u.ownBlock = some k) : ok k ∧ base ≤ k ∧ k < w.heap.size := by
  obtain ⟨j, hj, rfl⟩ := List.getElem_of_mem hu
  have hL : j < L.length := by have := h.len; omega
  have hr := Kd.R_bound (h.row j vs[j] L[j] (List.getElem?_eq_getElem hj) (List.getElem?_eq_getElem hL))
  have := hr.1 k hk
  exact ⟨this.1, this.2.1, this.2.2.1⟩
/-- Rows in a later world. -/
theorem RowVals.step {w w1 : World} {base : Nat} {ok ok' : Nat → Prop} {vs : List Value} {L : List (List Int)} (h : RowVals w base ok vs L) (hm : ∀ k, ok k → k < w.heap.size → w1.heap[k]? = w.heap[k]?) (ho : ∀ k, ok k → k < w.heap.size → ok' k) : RowVals w1 base ok' vs L where
  len := h.len
  row := fun j u x hu hx => by
    have hr := h.row j u x hu hx
    exact Kd.R_mono (Kd.R_step (Kd.R_bound hr) (fun k hk hlt => hm k hk.1 hlt)) (fun k hk => ho k hk.1 hk.2.2.1)
  apart := h.apart
theorem RowVals.cat {w : World} {base : Nat} {ok : Nat → Prop} {vs us : List Value} {L M : List (List Int)} (h : RowVals w base ok vs L) (h' : RowVals w base ok us M) (ha : ∀ a ∈ vs, ∀ b ∈ us, Apart a b) : RowVals w base ok (vs ++ us) (L ++ M) where
  len := by simp [h.len, h'.len]
  row := fun j u x hu hx => by
    have hl := h.len
    by_cases hj : j < vs.length
    · rw [List.getElem?_append_left hj] at hu
      rw [List.getElem?_append_left (by omega)] at hx
      exact h.row j u x hu hx
    · rw [List.getElem?_append_right (by omega)] at hu
      rw [List.getElem?_append_right (by omega), ← hl] at hx
      exact h'.row _ u x hu hx
  apart := List.pairwise_append.2 ⟨h.apart, h'.apart, ha⟩
/-- What a call has made, laid behind what was there: both rows' inner rows in one row. -/
theorem S_cat {W w1 : World} {base B : Nat} {v v1 u : Value} {us ns : List OneV} {L M : List (List Int)} (hbB : base ≤ B) (hB : B ≤ W.heap.size)
    (hV : RowVals W base (fun k => k < B ∧ some k ≠ v.ownBlock) (us.map (·.1)) L) (hvB : ∀ k, v.ownBlock = some k → k < B)
    (hU : RowVals W B (fun k => some k ≠ u.ownBlock) (ns.map (·.1)) M)
    (hg : W.grownBy w1 v.ownBlock) (hat : v1.ownBlock = v.ownBlock ∨ ∃ b, v1.ownBlock = some b ∧ W.heap.size ≤ b)
    (hR : (Kd.scalar (fun x : OneV => x.1) (fun x => x.2)).R 22 w1 base (fun _ => True) v1 (us ++ ns)) : Kd.S KII 22 w1 base (fun _ => True) v1 (L ++ M) := by
  have hne : ∀ k, k < W.heap.size → some k ≠ v.ownBlock → some k ≠ v1.ownBlock := by
    intro k hk hn e
    rcases hat with h1 | ⟨b, h1, h2⟩
    · exact hn (by rw [e, h1])
    · rw [h1] at e
      injection e with e
      omega
  refine scal_S hR ?_
  rw [List.map_append]
  refine RowVals.cat (hV.step (fun k hk hlt => hg.block k hlt hk.2) (fun k hk hlt => ⟨trivial, hne k hlt hk.2⟩)) ?_ ?_
  · have h1 : RowVals W base (fun k => some k ≠ v.ownBlock) (ns.map (·.1)) M := hU.above hbB (fun k hk hbk e => by
      have := hvB k e.symm
      omega)
    exact h1.step (fun k hk hlt => hg.block k hlt hk) (fun k hk hlt => ⟨trivial, hne k hlt hk⟩)
  · intro a ha b hb k hak hbk
    have h1 := hV.own ha hak
    have h2 := hU.own hb hbk
    omega
end Go.Proofs.Ytgpoljimomfbbaa.P

-- UrowsClone
namespace Go.Proofs.Ytgpoljimomfbbaa.P
set_option linter.unusedVariables false
set_option linter.unusedSimpArgs false
open Go.RowKit Go.Proofs.YtgpoljimomfbbaaW.PrintWords Go.Proofs.YtgpoljimomfbbaaW.PrintLast

set_option maxHeartbeats 1000000 in
set_option maxRecDepth 100000 in
theorem rows_clone (v : Value) (xs : List (List Int)) (w0 w : World) (hB : Below w0.heap.size w0 w) (hz : xs.length < 5864062014805) (ho : Kd.S KII 22 w w0.heap.size (fun _ => True) v xs) :
    Calls Try.prog 51 #[v] w fun e w' => ∃ v', e = .returned v' ∧ Kd.S KII 22 w' w0.heap.size (fun _ => True) v' xs ∧ Below w0.heap.size w0 w' := by
  obtain ⟨us, hs1, hs2, hs3⟩ := S_scal ho
  have q22 : ∀ (w : World) (a : Option Addr) (n c n' c' : Nat), (binOp .eql 23 (.slice a n c) (.slice none n' c')).run Try.prog w = .ok (.bool a.isNone) w := fun w a n c n' c' => Lib.run_eql_slice_nil w _ _ a n c n' c' Try.underlying23
  rcases scalar_open hs1 with ⟨ev, hn⟩ | ⟨g, cap, cur, ev, hok, hg, hb, hc, hm, hcs, ht⟩
  · subst ev
    have hx : xs = [] := List.eq_nil_of_length_eq_zero (by rw [← hs2, hn]; rfl)
    subst hx
    have HB := Aside0.mk hB
    clear hB ho hs1 hs2 hs3 hn
    go_enter Try.func51, Try.ntmps51
    go_wp2
    go_ret
    exact ⟨_, rfl, Kd.S_nil _ _ _ _ _, HB.out⟩
  · subst ev
    have hr := (Kd.R_reads' hs1).2.2
    have hR := Aside0.mk hr
    have HS := Aside0.mk hs3
    have HB := Aside0.mk hB
    have HN := Aside0.mk hs2
    have HZ := Aside0.mk hz
    clear ho hs1 hb hg hcs ht hok hr hs3 hB hs2 hz
    go_enter Try.func51, Try.ntmps51
    go_wp2_with (first
      | ((with_reducible refine gate_builtin (b := .append) (xs := #[.tmp 5, .tmp 6]) rfl ?_); at_builtin; refine Kd.R_append_row (fun x : OneV => x.1) ⟨.slice none 0 0, rfl⟩ (h1 := fun x => x.2) (w0 := w0) w0.heap.size rfl (.tmp 5) (.tmp 6) 23 22 (.slice none 0 0) 24 rfl Try.underlying23 info22 rfl (by decide) (.slice (some ⟨w.heap.size, 0, none⟩) 0 0) [] us (some ⟨g, 0, none⟩) us.length cap (fun _ => True) rfl rfl (fun _ _ => trivial) (scalar_R.2 ⟨fun _ _ => trivial, World.ownsRow_made w #[] 0 HB.out.size (Nat.zero_le _) (by simp)⟩) (Kd.C_alloc hR.out _) (below_alloc HB.out _) (by have := HB.out.size; simp; omega) (by have := HN.out; have := HZ.out; simp; omega) ?_; intro v7 w7 ho hb hg hat; have n0_ := Aside0.mk ho; have n1_ := Aside0.mk hb; have n2_ := Aside0.mk hg; have n3_ := Aside0.mk hat; clear ho hb hg hat))
    go_ret
    have hsz : ∀ o : Obj, (w.alloc o).heap.size = w.heap.size + 1 := fun o => by simp
    refine ⟨_, rfl, scal_S n0_.out ?_, n1_.out⟩
    refine HS.out.step (fun k hk hlt => ?_) (fun k hk hlt => ⟨trivial, fun e => ?_⟩)
    · have h1 := n2_.out.block k (by rw [hsz]; omega) (fun e => by simp [Value.ownBlock] at e; omega)
      rw [h1]
      exact (below_alloc (Below.refl w.heap.size w) _).block k hlt
    · rcases n3_.out with h1 | ⟨b, h1, h2⟩
      · have e2 : some k = v7.ownBlock := e
        rw [h1] at e2
        simp [Value.ownBlock] at e2
        omega
      · have e2 : some k = v7.ownBlock := e
        rw [h1] at e2
        injection e2 with e
        rw [hsz] at h2
        omega
end Go.Proofs.Ytgpoljimomfbbaa.P

-- Gbranches
namespace Go.Proofs.Ytgpoljimomfbbaa.P
open Go.Shelf Go.RowKit Go.Proofs.YtgpoljimomfbbaaW.PrintWords Go.Proofs.YtgpoljimomfbbaaW.PrintLast
set_option linter.unusedVariables false
set_option linter.unusedSimpArgs false

theorem compare_enters : ∀ args w, (callFunc 63 args).run Try.prog w = .ok (.enter 63 args) w := fun args w => enters_of Try.func63 (by kernel_rfl) rfl args w
theorem compare_at (W : World) (A B : Option Addr) (c c' : Nat) (x y : List Int) (hx : x.length < 9223372036854775807) (hy : y.length < 9223372036854775807) (h1 : Kd.C (Kd.int .i64) W A x.length x) (h2 : x.length ≤ c) (h3 : Kd.C (Kd.int .i64) W B y.length y) (h4 : y.length ≤ c') : Calls Try.prog 63 (#[.slice A x.length c, .slice B y.length c'] ++ #[]) W fun e w' => e = .returned (.int .i64 (cmpL x y)) ∧ Drawn0 W w' :=
  slices_Compare_int_int.calls (x.length + 1) A c x B c' y (cmpL x y) W h1 h2 h3 h4 (compare_ev x y hx)

def impl_branches.l0 : Nat → List Int → Int → List (List Int) → Int → Option (List (List Int))
  | 0, _, _, _, _ => none
  | k + 1, l, a, o, i => if i < (l.length : Int) then (impl_jump.f k l a i).bind fun bt => (if bt.2 = true then (impl_sumOf.f k bt.1).bind fun s1 => ((impl_sumOf.f k l).bind fun s2 => (if s2 < s1 then (if o.length < 1000000000 then (if bt.1.length < 9223372036854775807 then impl_branches.l0 k l a (o ++ [bt.1]) (wrap64 (i + 1)) else none) else none) else impl_branches.l0 k l a o (wrap64 (i + 1)))) else impl_branches.l0 k l a o (wrap64 (i + 1))) else some (sortDedup o)
def impl_branches.f (k : Nat) (l0 : List Int) (a1 : Int) : Option (List (List Int)) := impl_branches.l0 k l0 a1 [] 0
theorem impl_branches.mono_l : ∀ k, (∀ y0 y1 y2 y3, LeO (impl_branches.l0 k y0 y1 y2 y3) (impl_branches.l0 (k + 1) y0 y1 y2 y3))
  | 0 => fun _ _ _ _ r h => by simp [impl_branches.l0] at h
  | k + 1 => by
    have ih0 := impl_branches.mono_l k
    intro y0 y1 y2 y3
    unfold impl_branches.l0
    repeat' first
      | (with_reducible exact ih0 _ _ _ _)
      | (with_reducible exact impl_jump.mono _ _ _ _)
      | (with_reducible exact impl_sumOf.mono _ _)
      | (with_reducible exact LeO.refl _)
      | (with_reducible exact LeO.none _)
      | (with_reducible refine LeO.ite ?_ ?_)
      | (with_reducible refine LeO.bind ?_ (fun _ => ?_))
theorem impl_branches.mono : ∀ a0 a1 k, LeO (impl_branches.f k a0 a1) (impl_branches.f (k + 1) a0 a1) := by
  intro a0 a1 k
  unfold impl_branches.f
  exact impl_branches.mono_l k _ _ _ _

set_option maxHeartbeats 4000000 in
set_option maxRecDepth 100000 in
theorem impl_branches.calls (k : Nat) (A0 : Option Addr) (c0 : Nat) (l0 : List Int) (a1 : Int) (r : List (List Int)) (w : World) (hr0 : Kd.C (Kd.int .i64) w A0 l0.length l0) (hc0 : l0.length ≤ c0) (h : impl_branches.f k l0 a1 = some r) :
    Calls Try.prog 52 #[.slice A0 l0.length c0, .int .i64 a1] w fun e w' => ∃ v0_ : Value, e = .returned (v0_) ∧ Kd.S (Kd.slice 3 (Kd.int .i64)) 22 w' w.heap.size (fun _ => True) v0_ r ∧ Below w.heap.size w w' := by
  have hl0 := hr0.2.1
  have HR0 := Aside0.mk hr0
  have HC0 := Aside0.mk hc0
  have HL0 := Aside0.mk hl0
  have H' := Aside0.mk (show impl_branches.l0 k l0 a1 [] 0 = some r from h)
  have HB := Aside0.mk (Below.refl w.heap.size w)
  clear hr0 hc0 h hl0
  go_enter Try.func52, Try.ntmps52
  go_wp2_with (first
    | ((with_reducible refine gate_dst (N := 9) rfl ?_); refine Kd.S_lits (Kd.slice 3 (Kd.int .i64)) (w0 := w) w.heap.size 22 ?hg (N := 9) ?hd (xs := []) (inner := []) (ok := fun _ => True) (fun j k_ => False) ?hr rfl ?hp ?ha (fun _ _ _ => trivial) trivial ?hB ?hs (by simp) ?_; (case hd => rfl); (case hg => rfl); (case hr => first | (go_simp; done) | (go_simp; rfl)); (case hp => intro j x hj; simp at hj); (case ha => intro i j k_ h1 _; exact h1.elim); (case hB => exact HB.out); (case hs => exact below_size HB.out); intro v2 w2 ho hb hg hat; have n2_ := Aside0.mk ho; have n3_ := Aside0.mk hb; clear HB; have HO6 := n2_; have HB := n3_; clear n2_ n3_ ho hb hg hat))
  go_loopg [5, 12] k (fun kq v5 v12 w' => ∃ (o : List (List Int)) (i : Int), v12 = .int .i64 i ∧ Aside0 (0 ≤ i ∧ i ≤ 9223372036854775807) ∧ Aside0 (impl_branches.l0 kq l0 a1 o i = some r) ∧ Aside0 (kq ≤ k) ∧ Aside0 (∀ x ∈ o, x.length < 9223372036854775807) ∧ Aside0 (o.length < 1000000001) ∧ Aside0 (Kd.S (Kd.slice 3 (Kd.int .i64)) 22 w' w.heap.size (fun _ => True) v5 o) ∧ Aside0 (Below w.heap.size w w'))
  case atStart => exact ⟨[], 0, rfl, ⟨by omega⟩, H', ⟨Nat.le_refl _⟩, ⟨by simp⟩, ⟨by simp⟩, ⟨HO6.out⟩, ⟨HB.out⟩⟩
  case round =>
    clear H' HO6 HB
    obtain ⟨o, i, rfl, HI, HA, HK1, HP, HL, HO6, HB⟩ := hrel
    cases gk with
    | zero => exact absurd HA.out (by simp [impl_branches.l0])
    | succ k1 =>
      have H := HA.out
      clear HA
      simp only [impl_branches.l0] at H
      by_cases c2 : i < (l0.length : Int)
      · have HI3 := Aside0.mk (show i < 9223372036854775807 by have h_ := HL0.out; omega)
        rw [if_pos c2] at H
        have c2b0 : decide (i < (l0.length : Int)) = true := decide_eq_true c2
        clear c2
        obtain ⟨⟨u, b⟩, A3, H⟩ := Option.bind_eq_some_iff.mp H
        have HA3 := Aside0.mk A3
        clear A3
        cases b with
        | false =>
          have H' : Aside0 (impl_branches.l0 k1 l0 a1 o (wrap64 (i + 1)) = some r) := ⟨by simpa using H⟩
          clear H
          go_wp2_with (first | (go_at_call 76; refine (impl_jump.calls k1 _ _ l0 a1 i u false _ (by repeat (first | exact (Kd.C_below HR0.out HB.out) | (with_reducible refine Kd.C_alloc ?_ _) | (with_reducible refine Kd.C_drewN ?_ _) | (with_reducible refine Kd.C_drew ?_))) HC0.out HA3.out).mono ?_; rintro e w4 ⟨v4, rfl, ho0, hb⟩; have n1_ := Aside0.mk (Kd.S_elder' (by (with_reducible repeat (first | apply Kd.S_alloc | apply Kd.S_drewN | apply Kd.S_drew)); exact HO6.out) (Kd.R_base ho0) hb); have n2_ := Aside0.mk (below_step (by repeat (first | (with_reducible first | exact HB.out | apply below_alloc | apply pw_below_drewN | apply below_drew1) | exact HB.out)) hb); have n0_ := Aside0.mk (Kd.R_lower ho0 (below_size (by repeat (first | (with_reducible first | exact HB.out | apply below_alloc | apply pw_below_drewN | apply below_drew1) | exact HB.out)))); clear HO6 HB; have HO5 := n0_; have HO6 := n1_; have HB := n2_; clear n0_ n1_ n2_ hb ho0; obtain ⟨Ao4, co4, eo4⟩ := Kd.R_slice HO5.out; subst eo4))
          repeat (go_quiet (fail); try go_wp2_with (first | (go_at_call 76; refine (impl_jump.calls k1 _ _ l0 a1 i u false _ (by repeat (first | exact (Kd.C_below HR0.out HB.out) | (with_reducible refine Kd.C_alloc ?_ _) | (with_reducible refine Kd.C_drewN ?_ _) | (with_reducible refine Kd.C_drew ?_))) HC0.out HA3.out).mono ?_; rintro e w4 ⟨v4, rfl, ho0, hb⟩; have n1_ := Aside0.mk (Kd.S_elder' (by (with_reducible repeat (first | apply Kd.S_alloc | apply Kd.S_drewN | apply Kd.S_drew)); exact HO6.out) (Kd.R_base ho0) hb); have n2_ := Aside0.mk (below_step (by repeat (first | (with_reducible first | exact HB.out | apply below_alloc | apply pw_below_drewN | apply below_drew1) | exact HB.out)) hb); have n0_ := Aside0.mk (Kd.R_lower ho0 (below_size (by repeat (first | (with_reducible first | exact HB.out | apply below_alloc | apply pw_below_drewN | apply below_drew1) | exact HB.out)))); clear HO6 HB; have HO5 := n0_; have HO6 := n1_; have HB := n2_; clear n0_ n1_ n2_ hb ho0; obtain ⟨Ao4, co4, eo4⟩ := Kd.R_slice HO5.out; subst eo4)))
          go_roundg k1
          case measure => have := HK1.out; omega
          case rel => exact ⟨o, wrap64 (i + 1), (by first | rfl | (simp; done) | (simp [*]; done)), ⟨by have := HI.out; have := HI3.out; unfold wrap64; omega⟩, H', ⟨by have := HK1.out; omega⟩, HP, HL, ⟨by (with_reducible repeat (first | apply Kd.S_alloc | apply Kd.S_drewN | apply Kd.S_drew)); exact Kd.S_mono HO6.out (fun _ _ => trivial)⟩, ⟨by repeat (first | (with_reducible first | exact HB.out | apply below_alloc | apply pw_below_drewN | apply below_drew1) | exact HB.out)⟩⟩
        | true =>
          replace H : ((impl_sumOf.f k1 u).bind fun s1 => ((impl_sumOf.f k1 l0).bind fun s2 => (if s2 < s1 then (if o.length < 1000000000 then (if u.length < 9223372036854775807 then impl_branches.l0 k1 l0 a1 (o ++ [u]) (wrap64 (i + 1)) else none) else none) else impl_branches.l0 k1 l0 a1 o (wrap64 (i + 1))))) = some r := by simpa using H
          obtain ⟨s1, A4, H⟩ := Option.bind_eq_some_iff.mp H
          obtain ⟨s2, A5, H⟩ := Option.bind_eq_some_iff.mp H
          have HA4 := Aside0.mk A4
          have HA5 := Aside0.mk A5
          clear A4 A5
          by_cases c7 : s2 < s1
          · replace H : (if o.length < 1000000000 then (if u.length < 9223372036854775807 then impl_branches.l0 k1 l0 a1 (o ++ [u]) (wrap64 (i + 1)) else none) else none) = some r := by
              have H2 : (if s2 < s1 then (if o.length < 1000000000 then (if u.length < 9223372036854775807 then impl_branches.l0 k1 l0 a1 (o ++ [u]) (wrap64 (i + 1)) else none) else none) else impl_branches.l0 k1 l0 a1 o (wrap64 (i + 1))) = some r := H
              rw [if_pos c7] at H2
              exact H2
            have c7b0 : decide (s2 < s1) = true := decide_eq_true c7
            clear c7
            by_cases c9 : o.length < 1000000000
            · rw [if_pos c9] at H
              have LM := Aside0.mk c9
              clear c9
              by_cases c10 : u.length < 9223372036854775807
              · rw [if_pos c10] at H
                have HU := Aside0.mk c10
                have H' := Aside0.mk H
                clear H c10
                go_wp2_with (first | (go_at_call 76; refine (impl_jump.calls k1 _ _ l0 a1 i u true _ (by repeat (first | exact (Kd.C_below HR0.out HB.out) | (with_reducible refine Kd.C_alloc ?_ _) | (with_reducible refine Kd.C_drewN ?_ _) | (with_reducible refine Kd.C_drew ?_))) HC0.out HA3.out).mono ?_; rintro e w4 ⟨v4, rfl, ho0, hb⟩; have n1_ := Aside0.mk (Kd.S_elder' (by (with_reducible repeat (first | apply Kd.S_alloc | apply Kd.S_drewN | apply Kd.S_drew)); exact HO6.out) (Kd.R_base ho0) hb); have n2_ := Aside0.mk (below_step (by repeat (first | (with_reducible first | exact HB.out | apply below_alloc | apply pw_below_drewN | apply below_drew1) | exact HB.out)) hb); have n0_ := Aside0.mk (Kd.R_lower ho0 (below_size (by repeat (first | (with_reducible first | exact HB.out | apply below_alloc | apply pw_below_drewN | apply below_drew1) | exact HB.out)))); clear HO6 HB; have HO5 := n0_; have HO6 := n1_; have HB := n2_; clear n0_ n1_ n2_ hb ho0; obtain ⟨Ao4, co4, eo4⟩ := Kd.R_slice HO5.out; subst eo4) | (go_at_call 92; (with_reducible refine (impl_sumOf.calls k1 Ao4 co4 u s1 _ ?side1 ?side2 HA4.out).mono ?_); (case side1 => repeat (first | (with_reducible exact (Kd.R_reads' HO5.out).2.2) | (with_reducible refine Kd.C_alloc ?_ _) | (with_reducible refine Kd.C_drewN ?_ _) | (with_reducible refine Kd.C_drew ?_))); (case side2 => exact (Kd.R_reads' HO5.out).2.1); rintro e w' ⟨rfl, ⟨nd1, rfl⟩⟩) | (go_at_call 92; (with_reducible refine (impl_sumOf.calls k1 A0 c0 l0 s2 _ ?side1 ?side2 HA5.out).mono ?_); (case side1 => repeat (first | (with_reducible exact (Kd.C_below HR0.out HB.out)) | (with_reducible refine Kd.C_alloc ?_ _) | (with_reducible refine Kd.C_drewN ?_ _) | (with_reducible refine Kd.C_drew ?_))); (case side2 => exact HC0.out); rintro e w' ⟨rfl, ⟨nd2, rfl⟩⟩) | ((with_reducible refine gate_builtin (b := .append) (xs := #[.tmp 30, .tmp 32]) rfl ?_); at_builtin; refine Kd.S_append (Kd.slice 3 (Kd.int .i64)) (w0 := w) w.heap.size rfl (.tmp 30) (.tmp 32) 23 22 (.slice none 0 0) 24 rfl Try.underlying23 info22 rfl (by decide) (by omega) u5 o u [.slice Ao4 u.length co4] (fun _ => True) (fun k_ => some k_ = (Value.slice Ao4 u.length co4).ownBlock) rfl rfl ?aP ?aK (fun _ _ => trivial) ?aO ?aB ?aS ?aL ?_; (case aP => have q5 := Kd.R_drewN HO5.out (nd1 + nd2); have q6 := Kd.R_tight rfl q5; exact ⟨_, rfl, q6⟩); (case aK => have q5 := Kd.R_drewN HO5.out (nd1 + nd2); have q6 := Kd.S_drewN HO6.out (nd1 + nd2); have q7 := Kd.S_typed q6; have q8 := Kd.R_apart' q5 q7 (by decide); exact fun k_ hk => ⟨trivial, (q8.1 k_ hk.symm).2⟩); (case aO => exact Kd.S_mono (Kd.S_drewN HO6.out (nd1 + nd2)) (fun k_ hk => ⟨trivial, hk.2⟩)); (case aB => exact pw_below_drewN HB.out (nd1 + nd2)); (case aS => exact below_size (pw_below_drewN HB.out (nd1 + nd2))); (case aL => have := LM.out; omega); intro v7 w7 ho hb hg hat; clear HO5 HO6 HB; have HO6 := Aside0.mk ho; have HB := Aside0.mk hb; clear ho hb hg hat))
                repeat (go_quiet (fail); try go_wp2_with (first | (go_at_call 76; refine (impl_jump.calls k1 _ _ l0 a1 i u true _ (by repeat (first | exact (Kd.C_below HR0.out HB.out) | (with_reducible refine Kd.C_alloc ?_ _) | (with_reducible refine Kd.C_drewN ?_ _) | (with_reducible refine Kd.C_drew ?_))) HC0.out HA3.out).mono ?_; rintro e w4 ⟨v4, rfl, ho0, hb⟩; have n1_ := Aside0.mk (Kd.S_elder' (by (with_reducible repeat (first | apply Kd.S_alloc | apply Kd.S_drewN | apply Kd.S_drew)); exact HO6.out) (Kd.R_base ho0) hb); have n2_ := Aside0.mk (below_step (by repeat (first | (with_reducible first | exact HB.out | apply below_alloc | apply pw_below_drewN | apply below_drew1) | exact HB.out)) hb); have n0_ := Aside0.mk (Kd.R_lower ho0 (below_size (by repeat (first | (with_reducible first | exact HB.out | apply below_alloc | apply pw_below_drewN | apply below_drew1) | exact HB.out)))); clear HO6 HB; have HO5 := n0_; have HO6 := n1_; have HB := n2_; clear n0_ n1_ n2_ hb ho0; obtain ⟨Ao4, co4, eo4⟩ := Kd.R_slice HO5.out; subst eo4) | (go_at_call 92; (with_reducible refine (impl_sumOf.calls k1 Ao4 co4 u s1 _ ?side1 ?side2 HA4.out).mono ?_); (case side1 => repeat (first | (with_reducible exact (Kd.R_reads' HO5.out).2.2) | (with_reducible refine Kd.C_alloc ?_ _) | (with_reducible refine Kd.C_drewN ?_ _) | (with_reducible refine Kd.C_drew ?_))); (case side2 => exact (Kd.R_reads' HO5.out).2.1); rintro e w' ⟨rfl, ⟨nd1, rfl⟩⟩) | (go_at_call 92; (with_reducible refine (impl_sumOf.calls k1 A0 c0 l0 s2 _ ?side1 ?side2 HA5.out).mono ?_); (case side1 => repeat (first | (with_reducible exact (Kd.C_below HR0.out HB.out)) | (with_reducible refine Kd.C_alloc ?_ _) | (with_reducible refine Kd.C_drewN ?_ _) | (with_reducible refine Kd.C_drew ?_))); (case side2 => exact HC0.out); rintro e w' ⟨rfl, ⟨nd2, rfl⟩⟩) | ((with_reducible refine gate_builtin (b := .append) (xs := #[.tmp 30, .tmp 32]) rfl ?_); at_builtin; refine Kd.S_append (Kd.slice 3 (Kd.int .i64)) (w0 := w) w.heap.size rfl (.tmp 30) (.tmp 32) 23 22 (.slice none 0 0) 24 rfl Try.underlying23 info22 rfl (by decide) (by omega) u5 o u [.slice Ao4 u.length co4] (fun _ => True) (fun k_ => some k_ = (Value.slice Ao4 u.length co4).ownBlock) rfl rfl ?aP ?aK (fun _ _ => trivial) ?aO ?aB ?aS ?aL ?_; (case aP => have q5 := Kd.R_drewN HO5.out (nd1 + nd2); have q6 := Kd.R_tight rfl q5; exact ⟨_, rfl, q6⟩); (case aK => have q5 := Kd.R_drewN HO5.out (nd1 + nd2); have q6 := Kd.S_drewN HO6.out (nd1 + nd2); have q7 := Kd.S_typed q6; have q8 := Kd.R_apart' q5 q7 (by decide); exact fun k_ hk => ⟨trivial, (q8.1 k_ hk.symm).2⟩); (case aO => exact Kd.S_mono (Kd.S_drewN HO6.out (nd1 + nd2)) (fun k_ hk => ⟨trivial, hk.2⟩)); (case aB => exact pw_below_drewN HB.out (nd1 + nd2)); (case aS => exact below_size (pw_below_drewN HB.out (nd1 + nd2))); (case aL => have := LM.out; omega); intro v7 w7 ho hb hg hat; clear HO5 HO6 HB; have HO6 := Aside0.mk ho; have HB := Aside0.mk hb; clear ho hb hg hat)))
                go_roundg k1
                case measure => have := HK1.out; omega
                case rel => exact ⟨o ++ [u], wrap64 (i + 1), (by first | rfl | (simp; done) | (simp [*]; done)), ⟨by have := HI.out; have := HI3.out; unfold wrap64; omega⟩, H', ⟨by have := HK1.out; omega⟩, ⟨fun x hx => by rcases List.mem_append.1 hx with h_ | h_; exact HP.out x h_; (simp at h_; exact h_ ▸ HU.out)⟩, ⟨by have := LM.out; simp; omega⟩, ⟨by (with_reducible repeat (first | apply Kd.S_alloc | apply Kd.S_drewN | apply Kd.S_drew)); exact Kd.S_mono HO6.out (fun _ _ => trivial)⟩, ⟨by repeat (first | (with_reducible first | exact HB.out | apply below_alloc | apply pw_below_drewN | apply below_drew1) | exact HB.out)⟩⟩
              · rw [if_neg c10] at H
                exact absurd H (by simp)
            · rw [if_neg c9] at H
              exact absurd H (by simp)
          · have H' : Aside0 (impl_branches.l0 k1 l0 a1 o (wrap64 (i + 1)) = some r) := ⟨by
              have H2 : (if s2 < s1 then (if o.length < 1000000000 then (if u.length < 9223372036854775807 then impl_branches.l0 k1 l0 a1 (o ++ [u]) (wrap64 (i + 1)) else none) else none) else impl_branches.l0 k1 l0 a1 o (wrap64 (i + 1))) = some r := H
              rw [if_neg c7] at H2
              exact H2⟩
            have c7b0 : decide (s2 < s1) = false := decide_eq_false c7
            clear c7 H
            go_wp2_with (first | (go_at_call 76; refine (impl_jump.calls k1 _ _ l0 a1 i u true _ (by repeat (first | exact (Kd.C_below HR0.out HB.out) | (with_reducible refine Kd.C_alloc ?_ _) | (with_reducible refine Kd.C_drewN ?_ _) | (with_reducible refine Kd.C_drew ?_))) HC0.out HA3.out).mono ?_; rintro e w4 ⟨v4, rfl, ho0, hb⟩; have n1_ := Aside0.mk (Kd.S_elder' (by (with_reducible repeat (first | apply Kd.S_alloc | apply Kd.S_drewN | apply Kd.S_drew)); exact HO6.out) (Kd.R_base ho0) hb); have n2_ := Aside0.mk (below_step (by repeat (first | (with_reducible first | exact HB.out | apply below_alloc | apply pw_below_drewN | apply below_drew1) | exact HB.out)) hb); have n0_ := Aside0.mk (Kd.R_lower ho0 (below_size (by repeat (first | (with_reducible first | exact HB.out | apply below_alloc | apply pw_below_drewN | apply below_drew1) | exact HB.out)))); clear HO6 HB; have HO5 := n0_; have HO6 := n1_; have HB := n2_; clear n0_ n1_ n2_ hb ho0; obtain ⟨Ao4, co4, eo4⟩ := Kd.R_slice HO5.out; subst eo4) | (go_at_call 92; (with_reducible refine (impl_sumOf.calls k1 Ao4 co4 u s1 _ ?side1 ?side2 HA4.out).mono ?_); (case side1 => repeat (first | (with_reducible exact (Kd.R_reads' HO5.out).2.2) | (with_reducible refine Kd.C_alloc ?_ _) | (with_reducible refine Kd.C_drewN ?_ _) | (with_reducible refine Kd.C_drew ?_))); (case side2 => exact (Kd.R_reads' HO5.out).2.1); rintro e w' ⟨rfl, ⟨nd1, rfl⟩⟩) | (go_at_call 92; (with_reducible refine (impl_sumOf.calls k1 A0 c0 l0 s2 _ ?side1 ?side2 HA5.out).mono ?_); (case side1 => repeat (first | (with_reducible exact (Kd.C_below HR0.out HB.out)) | (with_reducible refine Kd.C_alloc ?_ _) | (with_reducible refine Kd.C_drewN ?_ _) | (with_reducible refine Kd.C_drew ?_))); (case side2 => exact HC0.out); rintro e w' ⟨rfl, ⟨nd2, rfl⟩⟩))
            repeat (go_quiet (fail); try go_wp2_with (first | (go_at_call 76; refine (impl_jump.calls k1 _ _ l0 a1 i u true _ (by repeat (first | exact (Kd.C_below HR0.out HB.out) | (with_reducible refine Kd.C_alloc ?_ _) | (with_reducible refine Kd.C_drewN ?_ _) | (with_reducible refine Kd.C_drew ?_))) HC0.out HA3.out).mono ?_; rintro e w4 ⟨v4, rfl, ho0, hb⟩; have n1_ := Aside0.mk (Kd.S_elder' (by (with_reducible repeat (first | apply Kd.S_alloc | apply Kd.S_drewN | apply Kd.S_drew)); exact HO6.out) (Kd.R_base ho0) hb); have n2_ := Aside0.mk (below_step (by repeat (first | (with_reducible first | exact HB.out | apply below_alloc | apply pw_below_drewN | apply below_drew1) | exact HB.out)) hb); have n0_ := Aside0.mk (Kd.R_lower ho0 (below_size (by repeat (first | (with_reducible first | exact HB.out | apply below_alloc | apply pw_below_drewN | apply below_drew1) | exact HB.out)))); clear HO6 HB; have HO5 := n0_; have HO6 := n1_; have HB := n2_; clear n0_ n1_ n2_ hb ho0; obtain ⟨Ao4, co4, eo4⟩ := Kd.R_slice HO5.out; subst eo4) | (go_at_call 92; (with_reducible refine (impl_sumOf.calls k1 Ao4 co4 u s1 _ ?side1 ?side2 HA4.out).mono ?_); (case side1 => repeat (first | (with_reducible exact (Kd.R_reads' HO5.out).2.2) | (with_reducible refine Kd.C_alloc ?_ _) | (with_reducible refine Kd.C_drewN ?_ _) | (with_reducible refine Kd.C_drew ?_))); (case side2 => exact (Kd.R_reads' HO5.out).2.1); rintro e w' ⟨rfl, ⟨nd1, rfl⟩⟩) | (go_at_call 92; (with_reducible refine (impl_sumOf.calls k1 A0 c0 l0 s2 _ ?side1 ?side2 HA5.out).mono ?_); (case side1 => repeat (first | (with_reducible exact (Kd.C_below HR0.out HB.out)) | (with_reducible refine Kd.C_alloc ?_ _) | (with_reducible refine Kd.C_drewN ?_ _) | (with_reducible refine Kd.C_drew ?_))); (case side2 => exact HC0.out); rintro e w' ⟨rfl, ⟨nd2, rfl⟩⟩)))
            go_roundg k1
            case measure => have := HK1.out; omega
            case rel => exact ⟨o, wrap64 (i + 1), (by first | rfl | (simp; done) | (simp [*]; done)), ⟨by have := HI.out; have := HI3.out; unfold wrap64; omega⟩, H', ⟨by have := HK1.out; omega⟩, HP, HL, ⟨by (with_reducible repeat (first | apply Kd.S_alloc | apply Kd.S_drewN | apply Kd.S_drew)); exact Kd.S_mono HO6.out (fun _ _ => trivial)⟩, ⟨by repeat (first | (with_reducible first | exact HB.out | apply below_alloc | apply pw_below_drewN | apply below_drew1) | exact HB.out)⟩⟩
      · rw [if_neg c2] at H
        have c2b0 : decide (i < (l0.length : Int)) = false := decide_eq_false c2
        clear c2
        obtain rfl : sortDedup o = r := by simpa using H
        clear H
        go_wp2_with (first
          | (go_at_call 62; refine (rows_sort cmpL cmpL_total (fun x => x.length < 9223372036854775807) 63 #[] compare_enters compare_at (fun _ => True) _ o w _ HB.out HP.out (by have := HL.out; omega) HO6.out).mono ?_; rintro e w3 ⟨rfl, ys, hp, hs, ho, hb, hk⟩; have n1_ := Aside0.mk (Kd.S_mono ho (fun _ _ => trivial)); have n2_ := Aside0.mk hb; have n3_ := Aside0.mk hp; have n4_ := Aside0.mk hs; clear HO6 HB; have HO6 := n1_; have HB := n2_; have HPM := n3_; have HSO := n4_; clear n1_ n2_ n3_ n4_ ho hb hk hp hs)
          | (go_at_call 93; refine (rows_compact (fun _ => True) _ ys w _ HB.out (fun x hx => HP.out x ((HPM.out.mem_iff).1 hx)) (HSO.out.imp (fun h_ => by omega)) HO6.out).mono ?_; rintro e w4 ⟨v4, rfl, zs, hz1, hz2, ho, hb, hk⟩; have n1_ := Aside0.mk (Kd.S_mono ho (fun _ _ => trivial)); have n2_ := Aside0.mk hb; have n3_ := Aside0.mk (sortDedup_is hz1 (fun z => (hz2 z).trans HPM.out.mem_iff)); clear HO6 HB; have HO6 := n1_; have HB := n2_; have HZ := n3_; clear n1_ n2_ n3_ ho hb hk hz1 hz2))
        go_ret
        exact ⟨_, rfl, by rw [← HZ.out]; exact HO6.out, HB.out⟩

def impl_BranchesOf.f (k : Nat) (l0 : List Int) (a1 a2 : Int) : Option (List (List Int) × Bool) := (impl_isSolution.f k l0 a1 a2).bind fun t => (if t = true then ((impl_branches.f k l0 a1).bind fun o => (if o.length < 5864062014805 then some (o, true) else none)) else some ([], false))
theorem impl_BranchesOf.mono : ∀ a0 a1 a2 k, LeO (impl_BranchesOf.f k a0 a1 a2) (impl_BranchesOf.f (k + 1) a0 a1 a2) := by
  intro a0 a1 a2 k
  unfold impl_BranchesOf.f
  repeat' first
    | (with_reducible exact impl_isSolution.mono _ _ _ _)
    | (with_reducible exact impl_branches.mono _ _ _)
    | (with_reducible exact LeO.refl _)
    | (with_reducible exact LeO.none _)
    | (with_reducible refine LeO.ite ?_ ?_)
    | (with_reducible refine LeO.bind ?_ (fun _ => ?_))
set_option maxHeartbeats 4000000 in
set_option maxRecDepth 100000 in
theorem impl_BranchesOf.calls (k : Nat) (A0 : Option Addr) (c0 : Nat) (l0 : List Int) (a1 : Int) (a2 : Int) (r1 : List (List Int)) (r2 : Bool) (w : World) (hr0 : Kd.C (Kd.int .i64) w A0 l0.length l0) (hc0 : l0.length ≤ c0) (h : impl_BranchesOf.f k l0 a1 a2 = some (r1, r2)) :
    Calls Try.prog 11 #[.slice A0 l0.length c0, .int .i64 a1, .int .i64 a2] w fun e w' => ∃ v0_ : Value, e = .returned (.tuple #[v0_, .bool r2]) ∧ Kd.S (Kd.slice 3 (Kd.int .i64)) 22 w' w.heap.size (fun _ => True) v0_ r1 ∧ Below w.heap.size w w' := by
  unfold impl_BranchesOf.f at h
  obtain ⟨t, A3, h⟩ := Option.bind_eq_some_iff.mp h
  have HR0 := Aside0.mk hr0
  have HC0 := Aside0.mk hc0
  have HB := Aside0.mk (Below.refl w.heap.size w)
  have HA3 := Aside0.mk A3
  clear hr0 hc0 A3
  cases t with
  | false =>
    obtain ⟨rfl, rfl⟩ : ([] : List (List Int)) = r1 ∧ false = r2 := by simpa using h
    clear h
    go_enter Try.func11, Try.ntmps11
    go_wp2_with (go_at_call 50; refine (impl_isSolution.calls k A0 c0 l0 a1 a2 false _ (by repeat (first | exact (Kd.C_below HR0.out HB.out) | (with_reducible refine Kd.C_alloc ?_ _) | (with_reducible refine Kd.C_drewN ?_ _) | (with_reducible refine Kd.C_drew ?_))) HC0.out HA3.out).mono ?_; rintro e w4 ⟨rfl, hb⟩; have n2_ := Aside0.mk (below_step (by repeat (first | (with_reducible first | exact HB.out | apply below_alloc | apply pw_below_drewN | apply below_drew1) | exact HB.out)) hb); clear HB hb; have HB := n2_; clear n2_)
    go_ret2
    exact ⟨_, rfl, Kd.S_nil _ _ _ _ _, (by repeat (first | (with_reducible first | exact HB.out | apply below_alloc | apply pw_below_drewN | apply below_drew1) | exact HB.out))⟩
  | true =>
    replace h : ((impl_branches.f k l0 a1).bind fun o => (if o.length < 5864062014805 then some (o, true) else none)) = some (r1, r2) := by simpa using h
    obtain ⟨o, A4, h⟩ := Option.bind_eq_some_iff.mp h
    by_cases c5 : o.length < 5864062014805
    · obtain ⟨rfl, rfl⟩ : o = r1 ∧ true = r2 := by simpa [c5] using h
      have HA4 := Aside0.mk A4
      have HZ := Aside0.mk c5
      clear h A4 c5
      go_enter Try.func11, Try.ntmps11
      go_wp2_with (first
        | (go_at_call 50; refine (impl_isSolution.calls k A0 c0 l0 a1 a2 true _ (by repeat (first | exact (Kd.C_below HR0.out HB.out) | (with_reducible refine Kd.C_alloc ?_ _) | (with_reducible refine Kd.C_drewN ?_ _) | (with_reducible refine Kd.C_drew ?_))) HC0.out HA3.out).mono ?_; rintro e w4 ⟨rfl, hb⟩; have n2_ := Aside0.mk (below_step (by repeat (first | (with_reducible first | exact HB.out | apply below_alloc | apply pw_below_drewN | apply below_drew1) | exact HB.out)) hb); clear HB hb; have HB := n2_; clear n2_)
        | (go_at_call 52; refine (impl_branches.calls k A0 c0 l0 a1 o _ (by repeat (first | exact (Kd.C_below HR0.out HB.out) | (with_reducible refine Kd.C_alloc ?_ _) | (with_reducible refine Kd.C_drewN ?_ _) | (with_reducible refine Kd.C_drew ?_))) HC0.out HA4.out).mono ?_; rintro e w5 ⟨v5, rfl, ho0, hb⟩; have n1_ := Aside0.mk (Kd.S_lower ho0 (below_size (by repeat (first | (with_reducible first | exact HB.out | apply below_alloc | apply pw_below_drewN | apply below_drew1) | exact HB.out)))); have n2_ := Aside0.mk (below_step (by repeat (first | (with_reducible first | exact HB.out | apply below_alloc | apply pw_below_drewN | apply below_drew1) | exact HB.out)) hb); clear HB hb ho0; have HO6 := n1_; have HB := n2_; clear n1_ n2_)
        | (go_at_call 51; refine (rows_clone v5 o w _ (by repeat (first | (with_reducible first | exact HB.out | apply below_alloc | apply pw_below_drewN | apply below_drew1) | exact HB.out)) HZ.out (by (with_reducible repeat (first | apply Kd.S_alloc | apply Kd.S_drewN | apply Kd.S_drew)); exact HO6.out)).mono ?_; rintro e w6 ⟨v6, rfl, ho, hb⟩; have n0_ := Aside0.mk ho; have n1_ := Aside0.mk hb; clear HO6 HB ho hb; have HO6 := n0_; have HB := n1_; clear n0_ n1_))
      go_ret2
      exact ⟨_, rfl, HO6.out, HB.out⟩
    · exact absurd h (by simp [c5])
end Go.Proofs.Ytgpoljimomfbbaa.P
