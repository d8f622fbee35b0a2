-- GIVEN loop.example/g01122/impl.isWord making
/- The contract of impl.isWord, in the printer's form: a text of at most 40 bytes, each of them one of two. -/
import Derived.Test.YtkphmbcoefkilaaP0
namespace Go.Proofs.Ytkphmbcoefkilaa.P
open Go.RowKit Go.Proofs.YtkphmbcoefkilaaW.PrintWords Go.Proofs.YtkphmbcoefkilaaW.PrintLast
set_option linter.unusedVariables false
set_option linter.unusedSimpArgs false

def oneOf (a b c : Int) : Bool := c == a || c == b
def impl_isWord.f (a0 : ByteArray) (a1 a2 : Int) : Option Bool := some (decide ((a0.size : Int) ≤ 40) && (bytesOf a0).all (oneOf a1 a2))

theorem isWord_closure (n x y : Int) (B1 B2 : Nat) (w : World) (h1 : w.cell? ⟨B1, 0, none⟩ = some (.int .u8 x)) (h2 : w.cell? ⟨B2, 0, none⟩ = some (.int .u8 y)) :
    Calls Try.prog 81 #[.int .u8 n, .pointer (some ⟨B1, 0, none⟩), .pointer (some ⟨B2, 0, none⟩)] w fun e w' => e = .returned (.bool (!oneOf x y n)) ∧ Drawn0 w w' := by
  unfold oneOf
  cases c1 : (n == x) <;> cases c2 : (n == y)
  all_goals
    have d1 : (n != x) = !(n == x) := rfl
    have d2 : (n != y) = !(n == y) := rfl
    rw [c1] at d1
    rw [c2] at d2
    go_enter Try.func81, Try.ntmps81
    go_wp2
    repeat (go_quiet (fail); try go_wp2)
    go_ret
    exact ⟨by simp_all, by repeat (first | exact Drawn0.refl _ | apply Drawn0.step)⟩

def oneOfHits (l : List Int) (x y i : Int) : Prop := decide (0 ≤ i) = !l.all (oneOf x y)
theorem oneOf_take_succ (l : List Int) (x y : Int) (k : Nat) (h : k < l.length) : (l.take (k + 1)).all (oneOf x y) = ((l.take k).all (oneOf x y) && oneOf x y (rd l k)) := by
  rw [List.take_succ_eq_append_getElem h, List.all_append]
  simp [rd, List.getD_eq_getElem?_getD, h]
theorem oneOf_none (l : List Int) (x y : Int) (h : (l.take l.length).all (oneOf x y) = true) : oneOfHits l x y (-1) := by
  rw [List.take_length] at h
  unfold oneOfHits
  rw [h]
  rfl
theorem oneOf_at (l : List Int) (x y : Int) (k : Nat) (h : k < l.length) (hq : oneOf x y (rd l k) = false) : oneOfHits l x y k := by
  unfold oneOfHits
  rw [decide_eq_true (by omega : 0 ≤ (k : Int)), eq_comm, Bool.not_eq_true']
  rw [List.all_eq_false]
  refine ⟨l[k], List.getElem_mem h, ?_⟩
  simp [rd, List.getD_eq_getElem?_getD, h] at hq
  simp [hq]

set_option maxHeartbeats 1000000 in
theorem isWord_index (A0 : Option Addr) (c0 : Nat) (l0 : List Int) (x y : Int) (B1 B2 : Nat) (w : World) (hr0 : Kd.C (Kd.int .u8) w A0 l0.length l0) (hl : l0.length ≤ 9223372036854775807)
    (h1 : w.cell? ⟨B1, 0, none⟩ = some (.int .u8 x)) (h2 : w.cell? ⟨B2, 0, none⟩ = some (.int .u8 y)) :
    Calls Try.prog 97 #[.slice A0 l0.length c0, .func (.func 81) #[] #[.pointer (some ⟨B1, 0, none⟩), .pointer (some ⟨B2, 0, none⟩)]] w
      fun e w' => (∃ i : Int, e = .returned (.int .i64 i) ∧ oneOfHits l0 x y i) ∧ Drawn0 w w' := by
  have HR := Aside0.mk hr0
  clear hr0
  go_enter Try.func97, Try.ntmps97
  go_wp2
  go_loopg [5, 8] l0.length (fun gg _ s8 wr => ∃ kk m : Nat, kk ≤ l0.length ∧ l0.length - kk ≤ gg ∧ s8 = .int .i64 kk ∧ w.drewN m = wr ∧ Aside0 ((l0.take kk).all (oneOf x y) = true))
  case atStart => exact ⟨0, 0, Nat.zero_le _, by omega, rfl, rfl, ⟨by simp⟩⟩
  case round =>
    obtain ⟨kk, m, hkk, hg, rfl, rfl, HA⟩ := hrel
    by_cases hlt : kk < l0.length
    · have hltz : (kk : Int) < (l0.length : Int) := by omega
      obtain ⟨ad, e1, hx⟩ := Kd.at_int HR.out (kk : Int) (by omega) (by omega)
      cases e1
      rw [Int.toNat_natCast] at hx
      have hcall := fun m => isWord_closure (rd l0 (kk : Int)) x y B1 B2 (w.drewN m) h1 h2
      have HS := Aside0.mk (oneOf_take_succ l0 x y kk hlt)
      cases hq : oneOf x y (rd l0 (kk : Int)) with
      | true =>
        rw [hq] at hcall
        have HQ := Aside0.mk hq
        clear hq h1 h2
        go_wp2_with (go_at_call 81; refine (hcall _).mono ?_; rintro e w' ⟨rfl, ⟨n, rfl⟩⟩)
        go_roundg (l0.length - (kk + 1))
        case measure => omega
        case rel => exact ⟨kk + 1, _, by omega, by omega, by go_num, rfl, ⟨by rw [HS.out, HA.out, HQ.out]; rfl⟩⟩
      | false =>
        rw [hq] at hcall
        have HQ := Aside0.mk hq
        clear hq h1 h2
        go_wp2_with (go_at_call 81; refine (hcall _).mono ?_; rintro e w' ⟨rfl, ⟨n, rfl⟩⟩)
        go_ret
        exact ⟨⟨_, rfl, oneOf_at l0 x y kk hlt HQ.out⟩, ⟨⟨_, rfl⟩⟩⟩
    · have hltz : ¬ (kk : Int) < (l0.length : Int) := by omega
      have hk : kk = l0.length := by omega
      subst hk
      go_wp2
      go_ret
      exact ⟨⟨_, rfl, oneOf_none l0 x y HA.out⟩, ⟨⟨_, rfl⟩⟩⟩

theorem isWord_contains (A0 : Option Addr) (c0 : Nat) (l0 : List Int) (x y : Int) (B1 B2 : Nat) (w : World) (hr0 : Kd.C (Kd.int .u8) w A0 l0.length l0) (hl : l0.length ≤ 9223372036854775807)
    (h1 : w.cell? ⟨B1, 0, none⟩ = some (.int .u8 x)) (h2 : w.cell? ⟨B2, 0, none⟩ = some (.int .u8 y)) :
    Calls Try.prog 80 #[.slice A0 l0.length c0, .func (.func 81) #[] #[.pointer (some ⟨B1, 0, none⟩), .pointer (some ⟨B2, 0, none⟩)]] w
      fun e w' => e = .returned (.bool (!l0.all (oneOf x y))) ∧ Drawn0 w w' := by
  have hC := isWord_index A0 c0 l0 x y B1 B2 w hr0 hl h1 h2
  clear hr0 h1 h2
  go_enter Try.func80, Try.ntmps80
  go_wp2_with (go_at_call 97; refine hC.mono ?_; rintro e w' ⟨⟨i, rfl, hi_⟩, ⟨n, rfl⟩⟩; have HI := Aside0.mk hi_; clear hi_)
  go_ret
  refine ⟨?_, ⟨⟨n, rfl⟩⟩⟩
  exact congrArg (fun b => Ending.returned (.bool b)) HI.out

theorem below_bytes (w : World) (e : TypeId) (s : ByteArray) : Below w.heap.size w (Lib.bytesWorld w e s) :=
  ⟨rfl, rfl, rfl, by rw [Lib.bytesWorld_size]; omega, fun i hi => Lib.bytesWorld_at_old w e s i hi⟩
theorem reads_bytes (w : World) (e : TypeId) (s : ByteArray) (hs : s.size ≤ 9223372036854775807) : Kd.C (Kd.int .u8) (Lib.bytesWorld w e s) (some ⟨w.heap.size, 0, none⟩) s.size (bytesOf s) :=
  Kd.C_of_reads (d := (0 : Int)) ⟨bytesOf_length s, hs, fun _ => ⟨_, rfl, fun j hj => by
    rw [add_plain, Lib.bytesWorld_cell w e s j hj]
    have h1 : j < s.data.toList.length := by simpa using hj
    simp [bytesOf, List.getD_eq_getElem?_getD, List.getElem?_eq_getElem h1]⟩⟩

theorem impl_isWord.calls (a0 : ByteArray) (a1 : Int) (a2 : Int) (r : Bool) (w : World) (h : impl_isWord.f a0 a1 a2 = some r) :
    Calls Try.prog 69 #[.string a0, .int .u8 a1, .int .u8 a2] w fun e w' => e = .returned (.bool r) ∧ Below w.heap.size w w' := by
  obtain rfl : (decide ((a0.size : Int) ≤ 40) && (bytesOf a0).all (oneOf a1 a2)) = r := Option.some.inj h
  clear h
  by_cases hs : (a0.size : Int) ≤ 40
  · have hb1 : Below w.heap.size w (w.alloc (.cells #[.int .u8 a1] 5)) := below_alloc (Below.refl _ _) _
    have hb2 : Below w.heap.size w ((w.alloc (.cells #[.int .u8 a1] 5)).alloc (.cells #[.int .u8 a2] 5)) := below_alloc hb1 _
    obtain ⟨W, hW⟩ : ∃ W, W = ((w.alloc (.cells #[.int .u8 a1] 5)).alloc (.cells #[.int .u8 a2] 5)) := ⟨_, rfl⟩
    have k1 : W.cell? ⟨w.heap.size, 0, none⟩ = some (.int .u8 a1) := by rw [hW]; simp
    have k2 : W.cell? ⟨w.heap.size + 1, 0, none⟩ = some (.int .u8 a2) := by rw [hW]; simp
    rw [← hW] at hb2
    have hcv := Lib.run_convert_string_bytes (P := Try.prog) W 9 38 5 a0 Try.underlying9 Try.underlying38 Try.underlying5
    have hb3 := hb2.trans ((below_bytes W 5 a0).mono hb2.size)
    have hC := isWord_contains (some ⟨W.heap.size, 0, none⟩) (grownCap W a0.size 0 5) (bytesOf a0) a1 a2 w.heap.size (w.heap.size + 1) (Lib.bytesWorld W 5 a0) (by rw [bytesOf_length]; exact reads_bytes W 5 a0 (by omega)) (by rw [bytesOf_length]; omega)
      (pw_cell_below (below_bytes W _ a0) k1) (pw_cell_below (below_bytes W _ a0) k2)
    rw [bytesOf_length] at hC
    generalize Lib.bytesWorld W 5 a0 = W2 at hcv hC hb3
    generalize grownCap W a0.size 0 5 = cp at hcv hC
    generalize W.heap.size = g at hcv hC
    have HB := Aside0.mk hb3
    clear hb1 hb2 hb3 k1 k2
    subst hW
    have hd : decide ((a0.size : Int) ≤ 40) = true := decide_eq_true hs
    rw [hd]
    go_enter Try.func69, Try.ntmps69
    go_wp2_with (go_at_call 80; refine hC.mono ?_; rintro e w' ⟨rfl, ⟨n, rfl⟩⟩)
    go_ret
    exact ⟨by simp, pw_below_drewN HB.out n⟩
  · have hd : decide ((a0.size : Int) ≤ 40) = false := decide_eq_false hs
    rw [hd]
    go_enter Try.func69, Try.ntmps69
    go_wp2
    repeat (go_quiet (fail); try go_wp2)
    go_ret
    exact ⟨rfl, by repeat (first | exact Below.refl _ _ | apply below_alloc)⟩

end Go.Proofs.Ytkphmbcoefkilaa.P
