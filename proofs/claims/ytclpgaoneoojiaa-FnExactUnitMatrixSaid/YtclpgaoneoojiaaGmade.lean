-- GIVEN loop.example/g01122/impl.unit making
/- The contract of impl.unit, in the printer's form: the rows of the matrix lie in blocks of their own. -/
import Derived.Test.YtclpgaoneoojiaaUmarkSS
namespace Go.Proofs.Ytclpgaoneoojiaa.P
open Go.RowKit Go.Proofs.YtclpgaoneoojiaaW.PrintWords Go.Proofs.YtclpgaoneoojiaaW.PrintLast
set_option linter.unusedVariables false
set_option linter.unusedSimpArgs false

def uAt (i j : Nat) : Int := if i = j then 1 else 0
def uRow (i m : Nat) : List Int := (List.range m).map (uAt i)
def uMat (n m : Nat) : List (List Int) := (List.range m).map fun i => uRow i n
theorem uRow_succ (i m : Nat) : uRow i (m + 1) = uRow i m ++ [uAt i m] := by simp [uRow, List.range_succ]
theorem uMat_succ (n m : Nat) : uMat n (m + 1) = uMat n m ++ [uRow m n] := by simp [uMat, List.range_succ]
theorem uRow_length (i m : Nat) : (uRow i m).length = m := by simp [uRow]
theorem uMat_length (n m : Nat) : (uMat n m).length = m := by simp [uMat]
def impl_unit.f (a0 : Int) : Option (List (List Int)) := if 0 ≤ a0 ∧ a0 ≤ 4 then some (uMat a0.toNat a0.toNat) else none

theorem unit_at (i j : Nat) (w : World) : Calls Try.prog 41 #[.int .i64 (i : Int), .int .i64 (j : Int)] w fun e w' => e = .returned (.int .i64 (uAt i j)) ∧ Drawn0 w w' := by
  unfold uAt
  by_cases h : i = j
  · subst h
    rw [if_pos rfl]
    have c0 : ((i : Int) == (i : Int)) = true := beq_self_eq_true _
    go_enter Try.func41, Try.ntmps41
    go_wp2
    go_ret
    exact ⟨rfl, by repeat (first | exact Drawn0.refl _ | apply Drawn0.step)⟩
  · rw [if_neg h]
    have c0 : ((i : Int) == (j : Int)) = false := beq_eq_false_iff_ne.mpr (by omega)
    go_enter Try.func41, Try.ntmps41
    go_wp2
    go_ret
    exact ⟨rfl, by repeat (first | exact Drawn0.refl _ | apply Drawn0.step)⟩

set_option maxHeartbeats 8000000 in
set_option maxRecDepth 100000 in
theorem made_unit (n : Nat) (hn : n ≤ 4) (w : World) :
    Calls Try.prog 40 #[.int .i64 (n : Int), .func (.func 41) #[] #[]] w fun e w' => ∃ v0_ : Value, e = .returned (.agg #[v0_]) ∧ Kd.S KII 35 w' w.heap.size (fun _ => True) v0_ (uMat n n) ∧ Below w.heap.size w w' := by
  have hu24 := Try.underlying24
  have HB := Aside0.mk (Below.refl w.heap.size w)
  have HN := Aside0.mk hn
  obtain ⟨nn, hnn⟩ : ∃ nn : Int, (n : Int) = nn := ⟨_, rfl⟩
  have HNN := Aside0.mk hnn
  rw [hnn]
  clear hn hnn
  go_enter Try.func40, Try.ntmps40
  go_wp2_with (first
    | ((with_reducible refine gate_dst (N := 4) rfl ?_); refine box_event ?hg (N := 4) ?hd (cs := #[.slice none 0 0]) (t := 24) ?hr ?_; (case hd => rfl); (case hg => rfl); (case hr => first | (go_simp; done) | (go_simp; rfl)); intro gr hg w1 hbox hb
       have GR := Aside0.mk (show w.heap.size ≤ gr by rw [hg]; exact below_size HB.out)
       have n0_ := Aside0.mk (below_step HB.out hb)
       clear HB
       have HB := n0_
       have BR := Aside0.mk hbox
       clear n0_ hb hbox hg)
    | ((with_reducible refine gate_dst (N := 5) rfl ?_); refine box_event ?hg (N := 5) ?hd (cs := #[.slice none 0 0]) (t := 24) ?hr ?_; (case hd => rfl); (case hg => rfl); (case hr => first | (go_simp; done) | (go_simp; rfl)); intro gm hg w2 hbox hb
       have GM := Aside0.mk (show w.heap.size ≤ gm by rw [hg]; exact below_size HB.out)
       have NE := Aside0.mk (show gr ≠ gm by rw [hg]; exact Nat.ne_of_lt (blk_lt BR.out))
       have n0_ := Aside0.mk (below_step HB.out hb)
       have n1_ := Aside0.mk (blk_below (g := gr) BR.out hb)
       clear HB BR
       have HB := n0_
       have BR := n1_
       have BM := Aside0.mk hbox
       clear n0_ n1_ hb hbox hg
       have hcz_ : w2.cell? ⟨gm, 0, none⟩ = some (.slice none 0 0) := (blk_cell BM.out 0).trans rfl
       have hfz_ : w2.frozen? ⟨gm, 0, none⟩ = false := blk_frozen BM.out 0)
    | ((with_reducible refine gate_store (t := 24) (p := 5) rfl ?_); refine store_event (t := 24) (p := 5) (v := ?vo1_) (w1 := (w2.setCell ⟨gm, 0, none⟩ (.slice none 0 0))) ?hg ?ho ?hn ?hr ?_; (case ho => rfl); (case hg => rfl); (case hn => rfl); (case hr => first | (go_simp; done) | (go_simp; rfl)); intro w3 hw
       have n0_ := Aside0.mk (show Below w.heap.size w w3 by rw [hw]; exact below_set HB.out GM.out)
       have n1_ := Aside0.mk (show w3.heap[gm]? = some (.cells #[.slice none 0 0] 24 (0, 0)) by rw [hw]; exact blk_put (cs := #[.slice none 0 0]) BM.out 0 _ rfl)
       have n2_ := Aside0.mk (show w3.heap[gr]? = some (.cells #[.slice none 0 0] 24 (0, 0)) by rw [hw]; exact blk_far BR.out NE.out _)
       clear HB BM BR hcz_ hfz_ hw
       have HB := n0_
       have BM := n1_
       have BR := n2_
       clear n0_ n1_ n2_))
  go_loopg [11] n (fun gg v11 wr => ∃ (i : Nat) (vS : Value), v11 = .int .i64 (i : Int) ∧ i ≤ n ∧ n - i ≤ gg ∧ Aside0 (wr.heap[gm]? = some (.cells #[vS] 24 (0, 0))) ∧ Aside0 (wr.heap[gr]? = some (.cells #[.slice none 0 0] 24 (0, 0))) ∧ Aside0 (Kd.S KII 35 wr w.heap.size (fun k_ => k_ ≠ gm ∧ k_ ≠ gr) vS (uMat n i)) ∧ Aside0 (Below w.heap.size w wr))
  case atStart => exact ⟨0, .slice none 0 0, rfl, by omega, by omega, ⟨BM.out⟩, ⟨BR.out⟩, ⟨Kd.S_nil _ _ _ _ _⟩, ⟨HB.out⟩⟩
  case round =>
    clear BM BR HB
    obtain ⟨i, vS, rfl, hi, hg, BM, BR, HS, HB⟩ := hrel
    have HGG := Aside0.mk hg
    have HNN' := HNN.out
    by_cases hlt : i < n
    · have HLT := Aside0.mk hlt
      have hil : ((i : Nat) : Int) < nn := by omega
      obtain ⟨ii, hii⟩ : ∃ ii : Int, (i : Int) = ii := ⟨_, rfl⟩
      have HII := Aside0.mk hii
      rw [hii] at hil ⊢
      have c0 : decide (ii < nn) = true := decide_eq_true hil
      clear hg hi hlt hil hii HNN'
      go_wp2_with (first
        | ((with_reducible refine gate_dst (N := 14) rfl ?_); refine Kd.R_lit (Kd.int .i64) _ 3 ?hg (N := 14) ?hd (xs := ([] : List Int)) (inner := []) (ok := fun _ => True) (okp := fun _ => True) ?hr ?hp (fun _ hk => hk) trivial (Below.refl _ _) (Nat.le_refl _) (by simp) ?_; (case hd => rfl); (case hg => rfl); (case hr => first | (go_simp; done) | (go_simp; rfl)); (case hp => exact (Reps.none _ _)); intro v4 w4 ho hb hg_ hnew_
           have n0_ := Aside0.mk (below_step HB.out hb)
           have n1_ := Aside0.mk (blk_below (g := gm) BM.out hb)
           have n2_ := Aside0.mk (blk_below (g := gr) BR.out hb)
           have n3_ := Aside0.mk (Kd.S_elder' HS.out (Kd.R_base ho) hb)
           have n4_ := Aside0.mk (Kd.R_lower ho (below_size HB.out))
           clear HB BM BR HS hg_ hnew_
           have HB := n0_
           have BM := n1_
           have BR := n2_
           have HS := n3_
           have HO7 := n4_
           clear n0_ n1_ n2_ n3_ n4_ ho hb))
      go_loopg [7, 16] n (fun gg v7 v16 wr2 => ∃ (j : Nat), v16 = .int .i64 (j : Int) ∧ j ≤ n ∧ n - j ≤ gg ∧ Aside0 (Kd.R (Kd.int .i64) 3 wr2 w.heap.size (fun _ => True) v7 (uRow i j)) ∧ Aside0 (wr2.heap[gm]? = some (.cells #[vS] 24 (0, 0))) ∧ Aside0 (wr2.heap[gr]? = some (.cells #[.slice none 0 0] 24 (0, 0))) ∧ Aside0 (Kd.S KII 35 wr2 w.heap.size (fun k_ => (k_ ≠ gm ∧ k_ ≠ gr) ∧ some k_ ≠ (v7 : Value).ownBlock) vS (uMat n i)) ∧ Aside0 (Below w.heap.size w wr2))
      case atStart => exact ⟨0, rfl, by omega, by omega, ⟨HO7.out⟩, ⟨BM.out⟩, ⟨BR.out⟩, ⟨HS.out⟩, ⟨HB.out⟩⟩
      case round =>
        clear HO7 BM BR HS HB
        obtain ⟨j, rfl, hj, hg, HO7, BM, BR, HS, HB⟩ := hrel
        have HGJ := Aside0.mk hg
        have HNN' := HNN.out
        by_cases hltj : j < n
        · have HLJ := Aside0.mk hltj
          have hjl : ((j : Nat) : Int) < nn := by omega
          obtain ⟨jj, hjj⟩ : ∃ jj : Int, (j : Int) = jj := ⟨_, rfl⟩
          have HJJ := Aside0.mk hjj
          rw [hjj] at hjl ⊢
          have c1 : decide (jj < nn) = true := decide_eq_true hjl
          have HAT : ∀ W, Calls Try.prog 41 #[.int .i64 ii, .int .i64 jj] W fun e w' => e = .returned (.int .i64 (uAt i j)) ∧ Drawn0 W w' := fun W => by rw [← HII.out, ← HJJ.out]; exact unit_at i j W
          have HAT := Aside0.mk HAT
          have HRS := Aside0.mk (uRow_succ i j)
          have HRL := Aside0.mk (uRow_length i j)
          clear hg hj hltj hjl hjj HNN'
          have M1 := Aside0.mk (Kd.R_ne HO7.out BM.out (by decide))
          have M2 := Aside0.mk (Kd.R_ne HO7.out BR.out (by decide))
          generalize uAt i j = x at HAT HRS
          go_wp2_with (first
            | (go_at_call 41; refine (HAT.out _).mono ?_; rintro e w' ⟨rfl, ⟨nd, rfl⟩⟩)
            | ((with_reducible refine gate_builtin (b := .append) (xs := #[.tmp 19, .tmp 24]) rfl ?_); at_builtin; refine Kd.R_append (Kd.int .i64) (w0 := w) w.heap.size rfl (.tmp 19) (.tmp 24) 35 3 (.int .i64 0) 8 rfl Try.underlying35 info3 rfl (by decide) (by omega) u7 (uRow i j) x [.int .i64 x] (fun _ => True) (fun _ => False) rfl rfl ?aP (fun _ hk => hk.elim) (fun _ _ => trivial) ?aO ?aB ?aS ?aL ?_; (case aP => exact rfl); (case aB => exact (by repeat (first | (with_reducible first | exact HB.out | apply below_alloc | apply pw_below_drewN | apply below_drew1) | exact HB.out))); (case aO => exact (by (with_reducible repeat (first | apply Kd.R_alloc | apply Kd.R_drewN | apply Kd.R_drew)); exact HO7.out)); (case aS => exact (below_size (by repeat (first | (with_reducible first | exact HB.out | apply below_alloc | apply pw_below_drewN | apply below_drew1) | exact HB.out)))); (case aL => have := HRL.out; have := HLJ.out; have := HN.out; omega); intro v8 w8 ho hb hg hat
               have n0_ := Aside0.mk (Kd.S_after (ok := (fun k_ => k_ ≠ gm ∧ k_ ≠ gr)) (by (with_reducible repeat (first | apply Kd.S_alloc | apply Kd.S_drewN | apply Kd.S_drew)); exact HS.out) hg hat)
               have n1_ := Aside0.mk (blk_grown (g := gm) (by (with_reducible repeat (first | refine blk_drewN ?_ _ | refine blk_drew ?_ | refine blk_alloc ?_ _)); exact BM.out) hg M1.out)
               have n2_ := Aside0.mk (blk_grown (g := gr) (by (with_reducible repeat (first | refine blk_drewN ?_ _ | refine blk_drew ?_ | refine blk_alloc ?_ _)); exact BR.out) hg M2.out)
               rw [← HRS.out] at ho
               clear HB BM BR HS HO7 M1 M2
               have HB := Aside0.mk hb
               have BM := n1_
               have BR := n2_
               have HS := n0_
               have HO7 := Aside0.mk ho
               clear n0_ n1_ n2_ ho hb hg hat))
          go_roundg (n - (j + 1))
          case measure => have := HGJ.out; have := HLJ.out; omega
          case rel =>
            have hw : wrap64 (jj + 1) = ((j + 1 : Nat) : Int) := by have := HJJ.out; have := HLJ.out; have := HN.out; rw [w64 (by omega) (by omega)]; omega
            exact ⟨j + 1, by rw [← hw], by have := HLJ.out; omega, by omega, ⟨HO7.out⟩, ⟨BM.out⟩, ⟨BR.out⟩, ⟨HS.out⟩, ⟨HB.out⟩⟩
        · obtain rfl : j = n := by omega
          have c1 : decide ((j : Int) < nn) = false := decide_eq_false (by omega)
          have HMS := Aside0.mk (uMat_succ j i)
          have HML := Aside0.mk (uMat_length j i)
          clear hg hj hltj HNN'
          obtain ⟨A7, c7, e7⟩ := Kd.R_slice HO7.out
          subst e7
          have hcm_ : wr.cell? ⟨gm, 0, none⟩ = some vS := (blk_cell BM.out 0).trans rfl
          have hfm_ : wr.frozen? ⟨gm, 0, none⟩ = false := blk_frozen BM.out 0
          have HRS := Aside0.mk (uRow_length i j)
          generalize uRow i j = RR at HO7 HMS HRS HS
          generalize uMat j i = MM at HS HMS HML
          obtain ⟨M9, hM9⟩ : ∃ M9, M9 = uMat j (i + 1) := ⟨_, rfl⟩
          rw [← hM9] at HMS
          have HM9 := Aside0.mk hM9
          clear hM9
          have M1 := Aside0.mk (Kd.S_ne HS.out BM.out (by decide))
          have M2 := Aside0.mk (Kd.S_ne HS.out BR.out (by decide))
          have T1 := Aside0.mk (Kd.R_apart' HO7.out (Kd.S_typed HS.out) (by decide))
          have T2 := Aside0.mk (Kd.R_types HO7.out BM.out (by decide))
          have T3 := Aside0.mk (Kd.R_types HO7.out BR.out (by decide))
          go_wp2_with (first
            | ((with_reducible refine gate_builtin (b := .append) (xs := #[.tmp 28, .tmp 30]) rfl ?_); at_builtin; refine Kd.S_append (Kd.slice 3 (Kd.int .i64)) (w0 := w) w.heap.size rfl (.tmp 28) (.tmp 30) 22 35 (.slice none 0 0) 24 rfl Try.underlying22 info35 rfl (by decide) (by omega) vS MM RR [.slice A7 RR.length c7] (fun k_ => k_ ≠ gm ∧ k_ ≠ gr) (fun k_ => some k_ = (Value.slice A7 RR.length c7).ownBlock) rfl rfl ?aP ?aK ?aF ?aO ?aB ?aS ?aL ?_; (case aP => exact ⟨_, rfl, Kd.R_tight rfl HO7.out⟩); (case aK => exact fun k_ hk => ⟨⟨(T2.out.1 k_ hk.symm).2, (T3.out.1 k_ hk.symm).2⟩, (T1.out.1 k_ hk.symm).2⟩); (case aF => exact fun k_ hk => ⟨fun e_ => by have := blk_lt BM.out; omega, fun e_ => by have := blk_lt BR.out; omega⟩); (case aO => exact Kd.S_mono HS.out (fun k_ hk => ⟨hk.1, fun he => hk.2 he⟩)); (case aB => exact HB.out); (case aS => exact below_size HB.out); (case aL => have := HML.out; have := HN.out; have := HLT.out; omega); intro v9 w9 ho hb hg hat
               have n1_ := Aside0.mk (blk_grown (g := gm) (by (with_reducible repeat (first | refine blk_drewN ?_ _ | refine blk_drew ?_ | refine blk_alloc ?_ _)); exact BM.out) hg M1.out)
               have n2_ := Aside0.mk (blk_grown (g := gr) (by (with_reducible repeat (first | refine blk_drewN ?_ _ | refine blk_drew ?_ | refine blk_alloc ?_ _)); exact BR.out) hg M2.out)
               rw [← HMS.out] at ho
               clear HB BM BR HS HO7 M1 M2 T1 T2 T3 hcm_ hfm_
               have HB := Aside0.mk hb
               have BM := n1_
               have BR := n2_
               have HS := Aside0.mk ho
               clear n1_ n2_ ho hb hg hat
               obtain ⟨A9, c9, e9⟩ := Kd.S_slice HS.out
               subst e9
               have hcm_ : w9.cell? ⟨gm, 0, none⟩ = some vS := (blk_cell BM.out 0).trans rfl
               have hfm_ : w9.frozen? ⟨gm, 0, none⟩ = false := blk_frozen BM.out 0)
            | ((with_reducible refine gate_store (t := 22) (p := 32) rfl ?_); refine store_event (t := 22) (p := 32) (v := ?vo2_) (w1 := (w9.setCell ⟨gm, 0, none⟩ (.slice A9 M9.length c9))) ?hg ?ho ?hn ?hr ?_; (case ho => rfl); (case hg => rfl); (case hn => rfl); (case hr => first | (go_simp; done) | (go_simp; rfl)); intro w10 hw
               have n0_ := Aside0.mk (show Below w.heap.size w w10 by rw [hw]; exact below_set HB.out GM.out)
               have n1_ := Aside0.mk (show w10.heap[gm]? = some (.cells #[(.slice A9 M9.length c9)] 24 (0, 0)) by rw [hw]; exact blk_put (cs := #[vS]) BM.out 0 _ rfl)
               have n2_ := Aside0.mk (show w10.heap[gr]? = some (.cells #[.slice none 0 0] 24 (0, 0)) by rw [hw]; exact blk_far BR.out NE.out _)
               have n3_ := Aside0.mk (show Kd.S KII 35 w10 w.heap.size (fun k_ => k_ ≠ gm ∧ k_ ≠ gr) (.slice A9 M9.length c9) M9 by rw [hw]; exact Kd.S_far HS.out (fun k_ hk_ => hk_.1) _)
               clear HB BM BR HS hcm_ hfm_ hw
               have HB := n0_
               have BM := n1_
               have BR := n2_
               have HS := n3_
               clear n0_ n1_ n2_ n3_))
          go_roundg (j - (i + 1))
          case measure => have := HGG.out; have := HLT.out; omega
          case rel =>
            have hw : wrap64 (ii + 1) = ((i + 1 : Nat) : Int) := by have := HII.out; have := HLT.out; have := HN.out; rw [w64 (by omega) (by omega)]; omega
            exact ⟨i + 1, _, by rw [← hw], by have := HLT.out; omega, by omega, ⟨BM.out⟩, ⟨BR.out⟩, ⟨by rw [← HM9.out]; exact HS.out⟩, ⟨HB.out⟩⟩
    · obtain rfl : i = n := by omega
      have c0 : decide ((i : Int) < nn) = false := decide_eq_false (by omega)
      clear hg hi hlt HNN'
      have hcm_ : wr.cell? ⟨gm, 0, none⟩ = some vS := (blk_cell BM.out 0).trans rfl
      have hfm_ : wr.frozen? ⟨gm, 0, none⟩ = false := blk_frozen BM.out 0
      have hcr_ : wr.cell? ⟨gr, 0, none⟩ = some (.slice none 0 0) := (blk_cell BR.out 0).trans rfl
      have hfr_ : wr.frozen? ⟨gr, 0, none⟩ = false := blk_frozen BR.out 0
      obtain ⟨MM, hMM⟩ : ∃ MM, MM = uMat i i := ⟨_, rfl⟩
      rw [← hMM] at HS
      have HMM := Aside0.mk hMM
      clear hMM
      obtain ⟨AS, cS, eS⟩ := Kd.S_slice HS.out
      subst eS
      go_wp2_with (first
        | ((with_reducible refine gate_store (t := 24) (p := 4) rfl ?_); refine store_event (t := 24) (p := 4) (v := ?vo3_) (w1 := (wr.setCell ⟨gr, 0, none⟩ (.slice AS MM.length cS))) ?hg ?ho ?hn ?hr ?_; (case ho => rfl); (case hg => rfl); (case hn => rfl); (case hr => first | (go_simp; done) | (go_simp; rfl)); intro w11 hw
           have n0_ := Aside0.mk (show Below w.heap.size w w11 by rw [hw]; exact below_set HB.out GR.out)
           have n2_ := Aside0.mk (show w11.heap[gr]? = some (.cells #[(.slice AS MM.length cS)] 24 (0, 0)) by rw [hw]; exact blk_put (cs := #[.slice none 0 0]) BR.out 0 _ rfl)
           have n3_ := Aside0.mk (show Kd.S KII 35 w11 w.heap.size (fun k_ => k_ ≠ gm ∧ k_ ≠ gr) (.slice AS MM.length cS) MM by rw [hw]; exact Kd.S_far HS.out (fun k_ hk_ => hk_.2) _)
           clear HB BM BR HS hcm_ hfm_ hcr_ hfr_ hw
           have HB := n0_
           have BR := n2_
           have HS := n3_
           clear n0_ n2_ n3_))
      refine bodyPost_ret (results_cell_row rfl _ _ gr 24 #[(.slice AS MM.length cS)] (0, 0) _ rfl (by (with_reducible repeat (first | refine blk_drewN ?_ _ | refine blk_drew ?_ | refine blk_alloc ?_ _)); exact BR.out) Try.underlying24 rfl (by kernel_rfl)) rfl ?_
      exact ⟨_, rfl, Kd.S_mono (ok := fun k_ => k_ ≠ gm ∧ k_ ≠ gr) (by rw [← HMM.out]; exact HS.out) (fun _ _ => trivial), HB.out⟩

set_option maxHeartbeats 4000000 in
set_option maxRecDepth 100000 in
theorem impl_unit.calls (a0 : Int) (r : List (List Int)) (w : World) (h : impl_unit.f a0 = some r) :
    Calls Try.prog 26 #[.int .i64 a0] w fun e w' => ∃ v0_ : Value, e = .returned (.agg #[v0_]) ∧ Kd.S KII 35 w' w.heap.size (fun _ => True) v0_ r ∧ Below w.heap.size w w' := by
  have hu24 := Try.underlying24
  unfold impl_unit.f at h
  by_cases ha : 0 ≤ a0 ∧ a0 ≤ 4
  · rw [if_pos ha] at h
    obtain rfl := Option.some.inj h
    clear h
    obtain ⟨n, rfl⟩ : ∃ n : Nat, a0 = (n : Int) := ⟨a0.toNat, by omega⟩
    have HM := Aside0.mk (made_unit n (by omega))
    have HB := Aside0.mk (Below.refl w.heap.size w)
    rw [Int.toNat_natCast]
    generalize uMat n n = MM at HM ⊢
    clear ha
    generalize (n : Int) = nn at HM
    go_enter Try.func26, Try.ntmps26
    go_wp2_with (first
      | ((with_reducible refine gate_dst (N := 2) rfl ?_); refine box_event ?hg (N := 2) ?hd (cs := #[.slice none 0 0]) (t := 24) ?hr ?_; (case hd => rfl); (case hg => rfl); (case hr => first | (go_simp; done) | (go_simp; rfl)); intro gr hg w1 hbox hb
         have GR := Aside0.mk (show w.heap.size ≤ gr by rw [hg]; exact below_size HB.out)
         have n0_ := Aside0.mk (below_step HB.out hb)
         clear HB
         have HB := n0_
         have BR := Aside0.mk hbox
         clear n0_ hb hbox hg)
      | (go_at_call 40; refine (HM.out _).mono ?_; rintro e w2 ⟨v2, rfl, ho0, hb⟩
         have n0_ := Aside0.mk (Kd.S_lower (Kd.S_newB ho0 (g := gr) (by (with_reducible repeat (first | refine blk_drewN ?_ _ | refine blk_drew ?_ | refine blk_alloc ?_ _)); exact BR.out)) (below_size (by repeat (first | (with_reducible first | exact HB.out | apply below_alloc | apply pw_below_drewN | apply below_drew1) | exact HB.out))))
         have n1_ := Aside0.mk (below_step (by repeat (first | (with_reducible first | exact HB.out | apply below_alloc | apply pw_below_drewN | apply below_drew1) | exact HB.out)) hb)
         have n2_ := Aside0.mk (blk_below (g := gr) (by (with_reducible repeat (first | refine blk_drewN ?_ _ | refine blk_drew ?_ | refine blk_alloc ?_ _)); exact BR.out) hb)
         clear HB BR
         have HS := n0_
         have HB := n1_
         have BR := n2_
         clear n0_ n1_ n2_ ho0 hb
         obtain ⟨AS, cS, eS⟩ := Kd.S_slice HS.out
         subst eS
         have hcr_ : w2.cell? ⟨gr, 0, none⟩ = some (.slice none 0 0) := (blk_cell BR.out 0).trans rfl
         have hfr_ : w2.frozen? ⟨gr, 0, none⟩ = false := blk_frozen BR.out 0)
      | ((with_reducible refine gate_store (t := 24) (p := 2) rfl ?_); refine store_event (t := 24) (p := 2) (v := ?vo4_) (w1 := (w2.setCell ⟨gr, 0, none⟩ (.slice AS MM.length cS))) ?hg ?ho ?hn ?hr ?_; (case ho => rfl); (case hg => rfl); (case hn => rfl); (case hr => first | (go_simp; done) | (go_simp; rfl)); intro w11 hw
         have n0_ := Aside0.mk (show Below w.heap.size w w11 by rw [hw]; exact below_set HB.out GR.out)
         have n2_ := Aside0.mk (show w11.heap[gr]? = some (.cells #[.slice AS MM.length cS] 24 (0, 0)) by rw [hw]; exact blk_put (cs := #[.slice none 0 0]) BR.out 0 _ rfl)
         have n3_ := Aside0.mk (show Kd.S KII 35 w11 w.heap.size (fun k_ => True ∧ k_ ≠ gr) (.slice AS MM.length cS) MM by rw [hw]; exact Kd.S_far HS.out (fun k_ hk_ => hk_.2) _)
         clear HB BR HS hcr_ hfr_ hw
         have HB := n0_
         have BR := n2_
         have HS := n3_
         clear n0_ n2_ n3_))
    refine bodyPost_ret (results_cell_row rfl _ _ gr 24 #[.slice AS MM.length cS] (0, 0) _ rfl (by (with_reducible repeat (first | refine blk_drewN ?_ _ | refine blk_drew ?_ | refine blk_alloc ?_ _)); exact BR.out) Try.underlying24 rfl (by kernel_rfl)) rfl ?_
    exact ⟨_, rfl, Kd.S_mono HS.out (fun _ _ => trivial), HB.out⟩
  · rw [if_neg ha] at h
    exact absurd h (by simp)
end Go.Proofs.Ytclpgaoneoojiaa.P
