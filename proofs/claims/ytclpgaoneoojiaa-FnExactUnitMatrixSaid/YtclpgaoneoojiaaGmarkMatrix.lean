-- GIVEN loop.example/g01122/laws.markMatrix follow making
/- laws.markMatrix writes 1, 2, .. into the rows of a matrix, if no two of them lie in one block; laws.heldMatrix finds them there. -/
import Derived.Test.YtclpgaoneoojiaaUmarkSS
import Derived.Test.YtclpgaoneoojiaaPFeqMatrix
import Derived.Test.YtclpgaoneoojiaaPFheldMatrix
namespace Go.Proofs.Ytclpgaoneoojiaa.P
open Go.RowKit Go.Proofs.YtclpgaoneoojiaaW.PrintWords Go.Proofs.YtclpgaoneoojiaaW.PrintLast
set_option linter.unusedVariables false
set_option linter.unusedSimpArgs false

set_option maxHeartbeats 4000000 in
set_option maxRecDepth 100000 in
theorem markM_calls (P0_ : Nat → Prop) (A : Option Addr) (c : Nat) (L : List (List Int)) (r : Int) (hr : 1 + (total L : Int) = r) (w0 w : World) (hB : Below w0.heap.size w0 w) (hs : Kd.S KII 35 w w0.heap.size P0_ (.slice A L.length c) L) (hz : total L ≤ 1000000000) :
    Calls Try.prog 10 #[.agg #[.slice A L.length c], .int .i64 1] w fun e w' => e = .returned (.int .i64 r) ∧ Kd.S KII 35 w' w0.heap.size P0_ (.slice A L.length c) (marked 1 L) ∧ Below w0.heap.size w0 w' ∧ Kept w w' P0_ := by
  have hu24 := Try.underlying24
  have HS := Aside0.mk hs
  have HB := Aside0.mk hB
  have HR := Aside0.mk hr
  have HZ := Aside0.mk hz
  clear hs hB hr hz
  go_enter Try.func10, Try.ntmps10
  go_wp2_with (first
    | ((with_reducible refine gate_dst (N := 2) rfl ?_); refine box_event ?hg (N := 2) ?hd (cs := #[.slice A L.length c]) (t := 24) ?hr ?_; (case hd => rfl); (case hg => rfl); (case hr => first | (go_simp; done) | (go_simp; rfl)); intro gb hg w4 hbox hb
       have n0_ := Aside0.mk (below_step (by repeat (first | (with_reducible first | exact HB.out | apply below_alloc | apply pw_below_drewN | apply below_drew1) | exact HB.out)) hb)
       have n1_ := Aside0.mk hbox
       have n3_ := Aside0.mk (Kept.of_below hb P0_)
       have n2_ := Aside0.mk (Kd.S_below (by (with_reducible repeat (first | apply Kd.S_alloc | apply Kd.S_drewN | apply Kd.S_drew)); exact HS.out) hb)
       clear HB HS
       have HB := n0_
       have BK := n1_
       have HS := n2_
       have HK := n3_
       clear n0_ n1_ n2_ n3_ hb hbox hg
       have hcz5_0 : w4.cell? ⟨gb, 0, none⟩ = some (.slice A L.length c) := (blk_cell BK.out 0).trans rfl
       have hfz5_0 := blk_frozen BK.out 0)
    | ((with_reducible refine gate_callee (f := 28) rfl ?_); refine goesL_ (some 8) rfl rfl Try.func28 (by kernel_rfl) rfl #[.slice A L.length c, .int .i64 1] rfl (by (try simp only [List.map_toArray, List.map_cons, List.map_nil]); first | done | rfl | (simp only [List.length_drop, List.length_take]; rfl)) ?_; refine (markSS_calls P0_ _ L r HR.out w0 _ (by repeat (first | (with_reducible first | exact HB.out | apply below_alloc | apply pw_below_drewN | apply below_drew1) | exact HB.out)) (by (with_reducible repeat (first | apply Kd.S_alloc | apply Kd.S_drewN | apply Kd.S_drew)); exact HS.out) HZ.out).mono ?_; rintro e w6 ⟨rfl, hs, hb, hk⟩; refine ⟨_, rfl, ?_⟩; have n0_ := Aside0.mk (Kept.then_ (by repeat (first | (with_reducible first | exact HK.out | apply Kept.alloc | apply Kept.drewN | apply Kept.drew) | exact HK.out)) hk (fun k_ h_ => .inl h_)); clear HB HS HK; have HB := Aside0.mk hb; have HS := Aside0.mk hs; have HK := n0_; clear hs hb hk n0_))
  go_ret
  exact ⟨by rfl, by (with_reducible repeat (first | apply Kd.S_alloc | apply Kd.S_drewN | apply Kd.S_drew)); exact HS.out, by repeat (first | (with_reducible first | exact HB.out | apply below_alloc | apply pw_below_drewN | apply below_drew1) | exact HB.out), by repeat (first | (with_reducible first | exact HK.out | apply Kept.alloc | apply Kept.drewN | apply Kept.drew) | exact HK.out)⟩
theorem eqMatrix_ev (L : List (List Int)) (hn : L.length ≤ 1000000000) (ht : total L ≤ 1000000000) : Ev (fun k => laws_eqMatrix.f k L L) true := by
  unfold laws_eqMatrix.f
  refine Ev.bind (eqIntSS_ev L hn ht) ?_
  simp only [if_true]
  exact Ev.is rfl
theorem heldMatrix_ev (L : List (List Int)) (hn : L.length ≤ 1000000000) (ht : total L ≤ 1000000000) : Ev (fun k => laws_heldMatrix.f k (marked 1 L) 1) (1 + (total L : Int)) := by
  unfold laws_heldMatrix.f
  refine Ev.bind (heldIntSS_ev L hn ht) ?_
  have h : ¬ (1 + (total L : Int) < 0) := by omega
  simp only [h, if_false]
  exact Ev.is rfl
theorem heldM_calls (K : Nat) (V : List (List Int)) (A : Option Addr) (c : Nat) (r : Int) (e base : Nat) (ok : Nat → Prop) (w : World) (hs : Kd.S KII e w base ok (.slice A V.length c) (marked 1 V)) (h : laws_heldMatrix.f K (marked 1 V) 1 = some r) :
    Calls Try.prog 11 #[.agg #[.slice A V.length c], .int .i64 1] w fun e w' => e = .returned (.int .i64 r) ∧ Below w.heap.size w w' := by
  have hr := Kd.S_reads' hs
  have h_ := laws_heldMatrix.calls K A c (marked 1 V) 1 r w hr.2.2 (hr.1 ▸ hr.2.1) h
  rw [marked_length] at h_
  exact h_
end Go.Proofs.Ytclpgaoneoojiaa.P
