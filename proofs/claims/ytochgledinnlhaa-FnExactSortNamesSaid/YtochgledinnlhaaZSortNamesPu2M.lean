/- Printed by a program of this session: what functions of the translation come to, each contract as it stands. No condition. -/
import Derived.Test.YtochgledinnlhaaZSortNamesWLastM
import Derived.Test.YtochgledinnlhaaZSortNamesWWords
section
namespace Go.Proofs.Ytochgledinnlhaa.Pu
open Go.RowKit Go.Proofs.Ytochgledinnlhaa.Ext Go.Proofs.YtochgledinnlhaaW.PrintWords Go.Proofs.YtochgledinnlhaaW.PrintLast Go.Proofs.YtochgledinnlhaaW.PrintMore
attribute [local go_sem] max2_int min2_int max_two min_two max_three min_three max_four min_four   -- for this text's walks alone
set_option linter.unusedVariables false
set_option linter.unusedSimpArgs false

/-! ### laws_eqStringS: function 10 -/
def laws_eqStringS.l0 : Nat → List ByteArray → List ByteArray → Int → Option (Bool)
  | 0, _, _, _ => none
  | k + 1, x0, x1, x5 => if x5 < (x0.length : Int) then (if 0 ≤ x5 then (if x5 < (x1.length : Int) then (if (rdOf ByteArray.empty x0 x5).toList = (rdOf ByteArray.empty x1 x5).toList then (laws_eqStringS.l0 k x0 x1 (wrap64 (x5 + 1))) else (some false)) else (none)) else (none)) else (some true)
def laws_eqStringS.f (k : Nat) (l0 : List ByteArray) (l1 : List ByteArray) : Option (Bool) := if (l0.length : Int) = (l1.length : Int) then (laws_eqStringS.l0 k l0 l1 0) else (some false)
set_option maxHeartbeats 8000000 in
set_option maxRecDepth 100000 in
theorem laws_eqStringS.calls (k : Nat) (A0 : Option Addr) (c0 : Nat) (l0 : List ByteArray) (A1 : Option Addr) (c1 : Nat) (l1 : List ByteArray) (r : Bool) (w : World) (hr0 : Kd.C Kd.string w A0 l0.length l0) (hc0 : l0.length ≤ c0) (hr1 : Kd.C Kd.string w A1 l1.length l1) (hc1 : l1.length ≤ c1) (h : laws_eqStringS.f k l0 l1 = some r) :
    Calls Try.prog 10 #[.slice A0 l0.length c0, .slice A1 l1.length c1] w fun e w' => e = .returned (.bool r) ∧ Drawn0 w w' := by
  have HR0 := Aside0.mk hr0
  have HC0 := Aside0.mk hc0
  clear hr0 hc0
  have HR1 := Aside0.mk hr1
  have HC1 := Aside0.mk hc1
  clear hr1 hc1
  have H : (if (l0.length : Int) = (l1.length : Int) then (laws_eqStringS.l0 k l0 l1 0) else (some false)) = some r := h
  clear h
  by_cases c3 : (l0.length : Int) = (l1.length : Int)
  · rw [if_pos c3] at H
    have c3b0 : ((l0.length : Int) == (l1.length : Int)) = true := beq_iff_eq.mpr c3
    have c3b1 : ((l0.length : Int) != (l1.length : Int)) = false := bne_eq_false_iff_eq.mpr c3
    have c3b2 : (l0.length == l1.length) = true := by first | simpa using c3 | (simp at c3 ⊢; omega)
    clear c3
    have H' := Aside0.mk H
    clear H
    go_enter Try.func10, Try.ntmps10
    go_wp2
    repeat (go_quiet (fail); try go_wp2)
    go_loopg [5] k (fun kq v5 w' => ∃ (x5_1 : Int), v5 = .int .i64 x5_1 ∧ Aside0 (laws_eqStringS.l0 kq l0 l1 x5_1 = some r) ∧ Aside0 (kq ≤ k) ∧ Drawn0 w w')
    case atStart => exact ⟨(0), (by first | rfl | (simp; done) | (simp [i64_w, i32_w]; done) | (simp [*]; done)), H', ⟨Nat.le_refl _⟩, by repeat (first | exact Drawn0.refl _ | apply Drawn0.step)⟩
    case round =>
      clear H'
      try clear c1
      try clear p2
      try clear c3
      try clear c3b0
      try clear c3b1
      try clear c3b2
      obtain ⟨x5_1, rfl, HA, HK1, ⟨m1, rfl⟩⟩ := hrel
      cases gk with
      | zero => exact absurd HA.out (by simp [laws_eqStringS.l0])
      | succ k1 =>
        have H := HA.out
        clear HA
        simp only [laws_eqStringS.l0] at H
        by_cases c4 : x5_1 < (l0.length : Int)
        · rw [if_pos c4] at H
          have c4b0 : decide (x5_1 < (l0.length : Int)) = true := decide_eq_true c4
          clear c4
          by_cases c5 : 0 ≤ x5_1
          · rw [if_pos c5] at H
            have c5b0 : decide (0 ≤ x5_1) = true := decide_eq_true c5
            clear c5
            by_cases c6 : x5_1 < (l1.length : Int)
            · rw [if_pos c6] at H
              have c6b0 : decide (x5_1 < (l1.length : Int)) = true := decide_eq_true c6
              clear c6
              by_cases c7 : (rdOf ByteArray.empty l0 x5_1).toList = (rdOf ByteArray.empty l1 x5_1).toList
              · rw [if_pos c7] at H
                have c7b0 : ((rdOf ByteArray.empty l0 x5_1).toList == (rdOf ByteArray.empty l1 x5_1).toList) = true := beq_iff_eq.mpr c7
                have c7b1 : ((rdOf ByteArray.empty l0 x5_1).toList != (rdOf ByteArray.empty l1 x5_1).toList) = false := bne_eq_false_iff_eq.mpr c7
                clear c7
                have H' := Aside0.mk H
                clear H
                have p127 : 0 ≤ (x5_1 : Int) := of_decide_eq_true (by first | (with_reducible assumption) | assumption)
                have q127 : x5_1 < (l0.length : Int) := of_decide_eq_true (by first | (with_reducible assumption) | assumption)
                obtain ⟨ad127, e127, hx127_0⟩ := Kd.at_string HR0.out x5_1 p127 q127
                cases e127
                replace p127 := eq_true p127
                replace q127 := eq_true q127
                have p128 : 0 ≤ (x5_1 : Int) := of_decide_eq_true (by first | (with_reducible assumption) | assumption)
                have q128 : x5_1 < (l1.length : Int) := of_decide_eq_true (by first | (with_reducible assumption) | assumption)
                obtain ⟨ad128, e128, hx128_0⟩ := Kd.at_string HR1.out x5_1 p128 q128
                cases e128
                replace p128 := eq_true p128
                replace q128 := eq_true q128
                go_wp2
                repeat (go_quiet (fail); try go_wp2)
                go_roundg k1
                case measure => have := HK1.out; omega
                case rel => exact ⟨(wrap64 (x5_1 + 1)), (by first | rfl | (simp; done) | (simp [i64_w, i32_w]; done) | (simp [*]; done)), H', ⟨by have := HK1.out; omega⟩, by repeat (first | exact Drawn0.refl _ | apply Drawn0.step)⟩
              · rw [if_neg c7] at H
                have c7b0 : ((rdOf ByteArray.empty l0 x5_1).toList == (rdOf ByteArray.empty l1 x5_1).toList) = false := beq_eq_false_iff_ne.mpr c7
                have c7b1 : ((rdOf ByteArray.empty l0 x5_1).toList != (rdOf ByteArray.empty l1 x5_1).toList) = true := bne_iff_ne.mpr c7
                obtain rfl := Option.some.inj H
                have p127 : 0 ≤ (x5_1 : Int) := of_decide_eq_true (by first | (with_reducible assumption) | assumption)
                have q127 : x5_1 < (l0.length : Int) := of_decide_eq_true (by first | (with_reducible assumption) | assumption)
                obtain ⟨ad127, e127, hx127_0⟩ := Kd.at_string HR0.out x5_1 p127 q127
                cases e127
                replace p127 := eq_true p127
                replace q127 := eq_true q127
                have p128 : 0 ≤ (x5_1 : Int) := of_decide_eq_true (by first | (with_reducible assumption) | assumption)
                have q128 : x5_1 < (l1.length : Int) := of_decide_eq_true (by first | (with_reducible assumption) | assumption)
                obtain ⟨ad128, e128, hx128_0⟩ := Kd.at_string HR1.out x5_1 p128 q128
                cases e128
                replace p128 := eq_true p128
                replace q128 := eq_true q128
                go_wp2
                repeat (go_quiet (fail); try go_wp2)
                go_ret
                exact ⟨by first | rfl | (simp; done) | (simp [i64_w, i32_w]; done) | (simp [*]; done), by repeat (first | exact Drawn0.refl _ | apply Drawn0.step)⟩
            · rw [if_neg c6] at H
              exact absurd H (by simp)
          · rw [if_neg c5] at H
            exact absurd H (by simp)
        · rw [if_neg c4] at H
          have c4b0 : decide (x5_1 < (l0.length : Int)) = false := decide_eq_false c4
          clear c4
          obtain rfl := Option.some.inj H
          go_wp2
          repeat (go_quiet (fail); try go_wp2)
          go_ret
          exact ⟨by first | rfl | (simp; done) | (simp [i64_w, i32_w]; done) | (simp [*]; done), by repeat (first | exact Drawn0.refl _ | apply Drawn0.step)⟩
  · rw [if_neg c3] at H
    have c3b0 : ((l0.length : Int) == (l1.length : Int)) = false := beq_eq_false_iff_ne.mpr c3
    have c3b1 : ((l0.length : Int) != (l1.length : Int)) = true := bne_iff_ne.mpr c3
    have c3b2 : (l0.length == l1.length) = false := by first | simpa using c3 | (simp at c3 ⊢; omega)
    obtain rfl := Option.some.inj H
    go_enter Try.func10, Try.ntmps10
    go_wp2
    repeat (go_quiet (fail); try go_wp2)
    go_ret
    exact ⟨by first | rfl | (simp; done) | (simp [i64_w, i32_w]; done) | (simp [*]; done), by repeat (first | exact Drawn0.refl _ | apply Drawn0.step)⟩

/-! ### laws_markText: function 28 -/
def laws_markText.l0 : Nat → Int → ByteArray → Option (ByteArray)
  | 0, _, _ => none
  | k + 1, x0, x3 => if x0 > 0 then ((some (([(wrap64 (48 + (Int.tmod x0 10))) % 256] : List Int) : List Int)).bind fun y129 => (if (strOfNums y129).size + x3.size ≤ 9223372036854775807 then (laws_markText.l0 k (wrap64 (Int.tdiv x0 10)) ((strOfNums y129) ++ x3)) else (none))) else (if 1 + x3.size ≤ 9223372036854775807 then (some ((⟨#[109]⟩ : ByteArray) ++ x3)) else (none))
def laws_markText.f (k : Nat) (a0 : Int) : Option (ByteArray) := if a0 ≤ 0 then (some (⟨#[109, 48]⟩ : ByteArray)) else (laws_markText.l0 k a0 (⟨#[]⟩ : ByteArray))
set_option maxHeartbeats 8000000 in
set_option maxRecDepth 100000 in
theorem laws_markText.calls (k : Nat) (a0 : Int) (r : ByteArray) (w : World) (h : laws_markText.f k a0 = some r) :
    Calls Try.prog 28 #[.int .i64 a0] w fun e w' => e = .returned (.string r) ∧ Below w.heap.size w w' := by
  have HB := Aside0.mk (Below.refl w.heap.size w)
  have H : (if a0 ≤ 0 then (some (⟨#[109, 48]⟩ : ByteArray)) else (laws_markText.l0 k a0 (⟨#[]⟩ : ByteArray))) = some r := h
  clear h
  by_cases c2 : a0 ≤ 0
  · rw [if_pos c2] at H
    have c2b0 : decide (a0 ≤ 0) = true := decide_eq_true c2
    clear c2
    obtain rfl := Option.some.inj H
    go_enter Try.func28, Try.ntmps28
    go_wp2
    go_ret
    exact ⟨by first | rfl | (simp [errW_none, errW_some] <;> rfl) | (simp [*, errW_none, errW_some] <;> rfl), by repeat (first | (with_reducible first | exact HB.out | apply below_alloc | apply pw_below_drewN | apply below_drew1) | exact HB.out)⟩
  · rw [if_neg c2] at H
    have c2b0 : decide (a0 ≤ 0) = false := decide_eq_false c2
    clear c2
    have H' := Aside0.mk H
    clear H
    go_enter Try.func28, Try.ntmps28
    go_wp2
    go_loopg [0, 3] k (fun kq v0 v3 w' => ∃ (x0_1 : Int) (x3_1 : ByteArray), v0 = .int .i64 x0_1 ∧ v3 = .string x3_1 ∧ Aside0 (laws_markText.l0 kq x0_1 x3_1 = some r) ∧ Aside0 (kq ≤ k) ∧ Aside0 (Below w.heap.size w w'))
    case atStart => exact ⟨(a0), ((⟨#[]⟩ : ByteArray)), (by first | rfl | (simp; done) | (simp [i64_w, i32_w]; done) | (simp [*]; done)), (by first | rfl | (simp; done) | (simp [i64_w, i32_w]; done) | (simp [*]; done)), H', ⟨Nat.le_refl _⟩, ⟨by repeat (first | (with_reducible first | exact HB.out | apply below_alloc | apply pw_below_drewN | apply below_drew1) | exact HB.out)⟩⟩
    case round =>
      clear H'
      try clear c2
      try clear c2b0
      try clear p2
      obtain ⟨x0_1, x3_1, rfl, rfl, HA, HK1, HB⟩ := hrel
      cases gk with
      | zero => exact absurd HA.out (by simp [laws_markText.l0])
      | succ k1 =>
        have H := HA.out
        clear HA
        simp only [laws_markText.l0] at H
        by_cases c3 : x0_1 > 0
        · rw [if_pos c3] at H
          have c3b0 : decide (0 < x0_1) = true := decide_eq_true c3
          clear c3
          obtain ⟨y129, hy129⟩ : ∃ y_ : List Int, y_ = (([(wrap64 (48 + (Int.tmod x0_1 10))) % 256] : List Int)) := ⟨_, rfl⟩
          replace H : (if (strOfNums y129).size + x3_1.size ≤ 9223372036854775807 then (laws_markText.l0 k1 (wrap64 (Int.tdiv x0_1 10)) ((strOfNums y129) ++ x3_1)) else (none)) = some r := by first | (rw [hy129]; with_reducible exact H) | (have H2_ := (Option.bind_some _ _).symm.trans H; rw [hy129]; with_reducible exact H2_) | (have H2_ := (Option.bind_some _ _).symm.trans H; with_reducible exact H2_) | with_reducible exact H | (rw [hy129]; exact H) | exact H
          have Ny129 := Aside0.mk hy129
          clear hy129
          by_cases c4 : (strOfNums y129).size + x3_1.size ≤ 9223372036854775807
          · rw [if_pos c4] at H
            have c4b0 := eq_true c4
            have c4b1 : decide ((strOfNums y129).size + x3_1.size ≤ 9223372036854775807) = true := decide_eq_true c4
            try have c4b2 : (9223372036854775807 < (strOfNums y129).size + x3_1.size) = False := eq_false (Nat.not_lt.2 c4)
            have H' := Aside0.mk H
            clear H
            go_wp2_with (first | ((with_reducible refine gate_dst (N := 12) rfl ?_); refine Kd.R_lit (Kd.int .u8) _ 5 ?hg (N := 12) ?hd (xs := ([(wrap64 (48 + (Int.tmod x0_1 10))) % 256] : List Int)) (inner := [.int .u8 ((wrap64 (48 + (Int.tmod x0_1 10))) % 256)]) (ok := fun _ => True) (okp := fun _ => True) ?hr ?hp (fun _ hk => hk) trivial (Below.refl _ _) (Nat.le_refl _) (by simp) ?_; (case hd => rfl); (case hg => rfl); (case hr => first | (go_simp; done) | (go_simp; rfl)); (case hp => exact (Reps.one (show Kd.M (Kd.int .u8) _ _ _ ((wrap64 (48 + (Int.tmod x0_1 10))) % 256) [.int .u8 ((wrap64 (48 + (Int.tmod x0_1 10))) % 256)] from rfl) (Reps.none _ _))); intro v130 w5 ho6 hb hg_ hnew_; clear hg_ hnew_; (first | rw [← Ny129.out] at ho6 | (simp only [Int.reduceToNat] at ho6; rw [← Ny129.out] at ho6)); have n0_ := Aside0.mk (Kd.R_lower ho6 (below_size (by repeat (first | (with_reducible first | exact HB.out | apply below_alloc | apply pw_below_drewN | apply below_drew1) | exact HB.out)))); have n1_ := Aside0.mk (below_step (by repeat (first | (with_reducible first | exact HB.out | apply below_alloc | apply pw_below_drewN | apply below_drew1) | exact HB.out)) hb); clear HB; have HO131 := n0_; have HB := n1_; clear n0_ n1_; clear hb ho6; have hcv7 := own_string (P := Try.prog) Try.underlying28 Try.underlying5 Try.underlying9 (Kd.own_of_R HO131.out)))
            go_roundg k1
            case measure => have := HK1.out; omega
            case rel => exact ⟨(wrap64 (Int.tdiv x0_1 10)), ((strOfNums y129) ++ x3_1), (by first | rfl | (simp; done) | (simp [i64_w, i32_w]; done) | (simp [*]; done)), (by first | rfl | (simp; done) | (simp [i64_w, i32_w]; done) | (simp [*]; done)), H', ⟨by have := HK1.out; omega⟩, ⟨by repeat (first | (with_reducible first | exact HB.out | apply below_alloc | apply pw_below_drewN | apply below_drew1) | exact HB.out)⟩⟩
          · rw [if_neg c4] at H
            exact absurd H (by simp)
        · rw [if_neg c3] at H
          have c3b0 : decide (0 < x0_1) = false := decide_eq_false c3
          clear c3
          by_cases c8 : 1 + x3_1.size ≤ 9223372036854775807
          · rw [if_pos c8] at H
            have c8b0 := eq_true c8
            have c8b1 : decide (1 + x3_1.size ≤ 9223372036854775807) = true := decide_eq_true c8
            try have c8b2 : (9223372036854775807 < 1 + x3_1.size) = False := eq_false (Nat.not_lt.2 c8)
            obtain rfl := Option.some.inj H
            go_wp2
            go_ret
            exact ⟨by first | rfl | (simp [errW_none, errW_some] <;> rfl) | (simp [*, errW_none, errW_some] <;> rfl), by repeat (first | (with_reducible first | exact HB.out | apply below_alloc | apply pw_below_drewN | apply below_drew1) | exact HB.out)⟩
          · rw [if_neg c8] at H
            exact absurd H (by simp)

/-! ### laws_markStringS: function 11 -/
def laws_markStringS.l0 : Nat → List ByteArray → Int → Int → Option (Int × List ByteArray)
  | 0, _, _, _ => none
  | k + 1, x0, x1, x5 => if x5 < (x0.length : Int) then ((laws_markText.f k x1).bind fun t132 => (if 0 ≤ x5 then (laws_markStringS.l0 k (x0.set (x5 : Int).toNat t132) (wrap64 (x1 + 1)) (wrap64 (x5 + 1))) else (none))) else (some (x1, x0))
def laws_markStringS.f (k : Nat) (l0 : List ByteArray) (a1 : Int) : Option (Int × List ByteArray) := laws_markStringS.l0 k l0 a1 0
set_option maxHeartbeats 8000000 in
set_option maxRecDepth 100000 in
theorem laws_markStringS.calls (k : Nat) (P0_ : Nat → Prop) (u9000_ : Value) (l0 : List ByteArray) (a1 : Int) (r1 : Int) (r2 : List ByteArray) (w0 w : World) (hB : Below w0.heap.size w0 w) (ho0 : Kd.R Kd.string 9 w w0.heap.size P0_ u9000_ l0) (h : laws_markStringS.f k l0 a1 = some (r1, r2)) :
    Calls Try.prog 11 #[u9000_, .int .i64 a1] w fun e w' => e = .returned (.int .i64 r1) ∧ Kd.R Kd.string 9 w' w0.heap.size (fun k_ => (P0_ k_ ∨ w.heap.size ≤ k_)) u9000_ r2 ∧ Below w0.heap.size w0 w' ∧ Kept w w' (fun k_ => P0_ k_) := by
  have HO0 := Aside0.mk (show Kd.R Kd.string 9 w w0.heap.size (fun k_ => (P0_ k_ ∨ w.heap.size ≤ k_)) u9000_ l0 from Kd.R_mono ho0 (fun k_ hk => (.inl hk)))
  have HK := Aside0.mk (Kept.refl w (fun k_ => P0_ k_))
  have HW0 := Aside0.mk hB.size
  have HB := Aside0.mk hB
  clear hB
  have H : (laws_markStringS.l0 k l0 a1 0) = some (r1, r2) := h
  clear h
  have H' := Aside0.mk H
  clear H
  go_enter Try.func11, Try.ntmps11
  go_wp2
  go_loopg [1, 5] k (fun kq v1 v5 w' => ∃ (x0_1 : List ByteArray) (x1_1 : Int) (x5_1 : Int), v1 = .int .i64 x1_1 ∧ v5 = .int .i64 x5_1 ∧ Aside0 (laws_markStringS.l0 kq x0_1 x1_1 x5_1 = some (r1, r2)) ∧ Aside0 (kq ≤ k) ∧ Aside0 (Kd.R Kd.string 9 w' w0.heap.size (fun k_ => (P0_ k_ ∨ w.heap.size ≤ k_)) u9000_ x0_1) ∧ Aside0 (Kept w w' (fun k_ => P0_ k_)) ∧ Aside0 (Below w0.heap.size w0 w'))
  case atStart => exact ⟨(l0), (a1), (0), (by first | rfl | (simp; done) | (simp [i64_w, i32_w]; done) | (simp [*]; done)), (by first | rfl | (simp; done) | (simp [i64_w, i32_w]; done) | (simp [*]; done)), H', ⟨Nat.le_refl _⟩, ⟨by (with_reducible repeat (first | apply Kd.R_alloc | apply Kd.R_drewN | apply Kd.R_drew)); exact HO0.out⟩, ⟨by repeat (first | (with_reducible first | exact HK.out | apply Kept.alloc | apply Kept.drewN | apply Kept.drew) | exact HK.out)⟩, ⟨by repeat (first | (with_reducible first | exact HB.out | apply below_alloc | apply pw_below_drewN | apply below_drew1) | exact HB.out)⟩⟩
  case round =>
    clear H'
    try clear c1
    try clear p2
    obtain ⟨x0_1, x1_1, x5_1, rfl, rfl, HA, HK1, HO_0, HK, HB⟩ := hrel
    cases gk with
    | zero => exact absurd HA.out (by simp [laws_markStringS.l0])
    | succ k1 =>
      have H := HA.out
      clear HA
      simp only [laws_markStringS.l0] at H
      by_cases c3 : x5_1 < (x0_1.length : Int)
      · rw [if_pos c3] at H
        have c3b0 : decide (x5_1 < (x0_1.length : Int)) = true := decide_eq_true c3
        clear c3
        replace H := Option.bind_eq_some_iff.mp H
        obtain ⟨t132, A40, H⟩ := H
        replace H : (if 0 ≤ x5_1 then (laws_markStringS.l0 k1 (x0_1.set (x5_1 : Int).toNat t132) (wrap64 (x1_1 + 1)) (wrap64 (x5_1 + 1))) else (none)) = some (r1, r2) := H
        have A4 := Aside0.mk A40
        clear A40
        by_cases c5 : 0 ≤ x5_1
        · rw [if_pos c5] at H
          have c5b0 : decide (0 ≤ x5_1) = true := decide_eq_true c5
          clear c5
          obtain ⟨y133, hy133⟩ : ∃ y_ : List ByteArray, y_ = (x0_1.set (x5_1 : Int).toNat t132) := ⟨_, rfl⟩
          replace H : (laws_markStringS.l0 k1 y133 (wrap64 (x1_1 + 1)) (wrap64 (x5_1 + 1))) = some (r1, r2) := by first | (rw [hy133]; with_reducible exact H) | (have H2_ := (Option.bind_some _ _).symm.trans H; rw [hy133]; with_reducible exact H2_) | (have H2_ := (Option.bind_some _ _).symm.trans H; with_reducible exact H2_) | with_reducible exact H | (rw [hy133]; exact H) | exact H
          have Ny133 := Aside0.mk hy133
          clear hy133
          have H' := Aside0.mk H
          clear H
          obtain ⟨Ao7, co7, eo7⟩ := Kd.R_slice HO_0.out
          subst eo7
          go_wp2_with (first | ((with_reducible refine gate_callee (f := 28) rfl ?_); refine goesL_ (some 15) rfl rfl Try.func28 (by kernel_rfl) rfl #[.int .i64 x1_1] rfl (by (try simp only [List.map_toArray, List.map_cons, List.map_nil]); first | done | rfl | (simp only [List.length_drop, List.length_take]; rfl)) ?_; (with_reducible refine (laws_markText.calls k1 x1_1 t132 _ A4.out).mono ?_); rintro e w8 ⟨rfl, hb⟩; refine ⟨_, rfl, ?_⟩; have n0_ := Aside0.mk (Kd.R_below (by (with_reducible repeat (first | apply Kd.R_alloc | apply Kd.R_drewN | apply Kd.R_drew)); exact HO_0.out) hb); have n1_ := Aside0.mk (Kept.below (S := (fun k_ => P0_ k_)) (by repeat (first | (with_reducible first | exact HK.out | apply Kept.alloc | apply Kept.drewN | apply Kept.drew) | exact HK.out)) hb); have n2_ := Aside0.mk (below_step (by repeat (first | (with_reducible first | exact HB.out | apply below_alloc | apply pw_below_drewN | apply below_drew1) | exact HB.out)) hb); clear HO_0; clear HK; clear HB; have HO_0 := n0_; have HK := n1_; have HB := n2_; clear n0_ n1_ n2_; (try clear hb); (try clear hb2); (try clear hk); (try clear hi); have p6 : 0 ≤ (x5_1 : Int) := of_decide_eq_true (by first | (with_reducible assumption) | assumption); have q6 : (x5_1 : Int) < ((x0_1.length : Int) : Int) := of_decide_eq_true (by first | (with_reducible assumption) | assumption); obtain ⟨go6, co6, eo6, gb6, gl6, cl6, HG6⟩ := Kd.R_form HO_0.out (by omega); (first | cases eo6 | (injection eo6 with ea_ en_ ec_; (first | subst ea_ | (injection ea_ with ea_; subst ea_)); subst ec_; clear en_)); have GB6 := Aside0.mk gb6; have GG6 := Aside0.mk HG6; clear gb6 gl6 HG6; have HMgo6 := Aside0.mk (show (P0_ go6 ∨ w.heap.size ≤ go6) from (HO_0.out.1 _ rfl)); obtain ⟨hx6_0, hf6_0⟩ := Kd.R_celln (⟨#[]⟩ : ByteArray) HO_0.out (x5_1 : Int) p6 q6; replace p6 := eq_true p6; replace q6 := eq_true q6; obtain ⟨hy9_, hz9_⟩ := Kd.R_celln (⟨#[]⟩ : ByteArray) HO_0.out (x5_1 : Int) (of_decide_eq_true (by first | (with_reducible assumption) | assumption)) (of_decide_eq_true (by first | (with_reducible assumption) | assumption)); have HP9 := Kd.R_putg HO_0.out (x5_1 : Int) t132) | ((with_reducible refine gate_store (t := 9) (p := 16) rfl ?_); refine store_event (t := 9) (p := 16) (v := ?vo_w10) (w1 := (w8.setCell ⟨go6, (x5_1 : Int).toNat, none⟩ (.string t132))) ?hg ?ho ?hn ?hr ?_; (case ho => rfl); (case hg => rfl); (case hn => rfl); (case hr => first | (go_simp; done) | (go_simp; rfl)); intro w10 hw; have hg : w8.grownBy w10 (some go6) := (by rw [hw]; exact HP9.2); have hp_ : Kd.R Kd.string 9 w10 w0.heap.size (fun k_ => (P0_ k_ ∨ w.heap.size ≤ k_)) (.slice (some ⟨go6, 0, none⟩) x0_1.length co7) y133 := (by rw [hw, Ny133.out]; exact HP9.1); clear HP9; have n0_ := Aside0.mk (hp_); have n1_ := Aside0.mk ((by rw [hw]; exact below_set (HB.out) GB6.out : Below w0.heap.size w0 w10)); have n2_ := Aside0.mk (Kept.of_grown (S := (fun k_ => P0_ k_)) hg (by repeat (first | (with_reducible first | exact HK.out | apply Kept.alloc | apply Kept.drewN | apply Kept.drew) | exact HK.out)) (fun k_ e_ => (HO_0.out.1 k_ e_))); clear HO_0; clear HB; clear HK; have HO_0 := n0_; have HB := n1_; have HK := n2_; clear n0_ n1_ n2_; clear hg hw hp_))
          go_roundg k1
          case measure => have := HK1.out; omega
          case rel => exact ⟨(y133), (wrap64 (x1_1 + 1)), (wrap64 (x5_1 + 1)), (by first | rfl | (simp; done) | (simp [i64_w, i32_w]; done) | (simp [*]; done)), (by first | rfl | (simp; done) | (simp [i64_w, i32_w]; done) | (simp [*]; done)), H', ⟨by have := HK1.out; omega⟩, ⟨by (with_reducible repeat (first | apply Kd.R_alloc | apply Kd.R_drewN | apply Kd.R_drew)); exact HO_0.out⟩, ⟨by repeat (first | (with_reducible first | exact HK.out | apply Kept.alloc | apply Kept.drewN | apply Kept.drew) | exact HK.out)⟩, ⟨by repeat (first | (with_reducible first | exact HB.out | apply below_alloc | apply pw_below_drewN | apply below_drew1) | exact HB.out)⟩⟩
        · rw [if_neg c5] at H
          exact absurd H (by simp)
      · rw [if_neg c3] at H
        have c3b0 : decide (x5_1 < (x0_1.length : Int)) = false := decide_eq_false c3
        clear c3
        simp only [Option.some.injEq, Prod.mk.injEq] at H
        obtain ⟨rfl, rfl⟩ := H
        obtain ⟨Ao11, co11, eo11⟩ := Kd.R_slice HO_0.out
        subst eo11
        go_wp2
        go_ret
        exact ⟨by first | rfl | (simp [errW_none, errW_some] <;> rfl) | (simp [*, errW_none, errW_some] <;> rfl), by (with_reducible repeat (first | apply Kd.R_alloc | apply Kd.R_drewN | apply Kd.R_drew)); exact HO_0.out, by repeat (first | (with_reducible first | exact HB.out | apply below_alloc | apply pw_below_drewN | apply below_drew1) | exact HB.out), by repeat (first | (with_reducible first | exact HK.out | apply Kept.alloc | apply Kept.drewN | apply Kept.drew) | exact HK.out)⟩

/-! ### laws_heldStringS: function 12 -/
def laws_heldStringS.l0 : Nat → List ByteArray → Int → Int → Option (Int)
  | 0, _, _, _ => none
  | k + 1, x0, x1, x5 => if x5 < (x0.length : Int) then (if 0 ≤ x5 then ((laws_markText.f k x1).bind fun t135 => (if (rdOf ByteArray.empty x0 x5).toList = t135.toList then (laws_heldStringS.l0 k x0 (wrap64 (x1 + 1)) (wrap64 (x5 + 1))) else (some (-1)))) else (none)) else (some x1)
def laws_heldStringS.f (k : Nat) (l0 : List ByteArray) (a1 : Int) : Option (Int) := laws_heldStringS.l0 k l0 a1 0
set_option maxHeartbeats 8000000 in
set_option maxRecDepth 100000 in
theorem laws_heldStringS.calls (k : Nat) (A0 : Option Addr) (c0 : Nat) (l0 : List ByteArray) (a1 : Int) (r : Int) (w : World) (hr0 : Kd.C Kd.string w A0 l0.length l0) (hc0 : l0.length ≤ c0) (h : laws_heldStringS.f k l0 a1 = some r) :
    Calls Try.prog 12 #[.slice A0 l0.length c0, .int .i64 a1] w fun e w' => e = .returned (.int .i64 r) ∧ Below w.heap.size w w' := by
  have HR0 := Aside0.mk hr0
  have HC0 := Aside0.mk hc0
  clear hr0 hc0
  have HB := Aside0.mk (Below.refl w.heap.size w)
  have H : (laws_heldStringS.l0 k l0 a1 0) = some r := h
  clear h
  have H' := Aside0.mk H
  clear H
  go_enter Try.func12, Try.ntmps12
  go_wp2
  go_loopg [1, 5] k (fun kq v1 v5 w' => ∃ (x1_1 : Int) (x5_1 : Int), v1 = .int .i64 x1_1 ∧ v5 = .int .i64 x5_1 ∧ Aside0 (laws_heldStringS.l0 kq l0 x1_1 x5_1 = some r) ∧ Aside0 (kq ≤ k) ∧ Aside0 (Below w.heap.size w w'))
  case atStart => exact ⟨(a1), (0), (by first | rfl | (simp; done) | (simp [i64_w, i32_w]; done) | (simp [*]; done)), (by first | rfl | (simp; done) | (simp [i64_w, i32_w]; done) | (simp [*]; done)), H', ⟨Nat.le_refl _⟩, ⟨by repeat (first | (with_reducible first | exact HB.out | apply below_alloc | apply pw_below_drewN | apply below_drew1) | exact HB.out)⟩⟩
  case round =>
    clear H'
    try clear c1
    try clear p2
    obtain ⟨x1_1, x5_1, rfl, rfl, HA, HK1, HB⟩ := hrel
    cases gk with
    | zero => exact absurd HA.out (by simp [laws_heldStringS.l0])
    | succ k1 =>
      have H := HA.out
      clear HA
      simp only [laws_heldStringS.l0] at H
      by_cases c3 : x5_1 < (l0.length : Int)
      · rw [if_pos c3] at H
        have c3b0 : decide (x5_1 < (l0.length : Int)) = true := decide_eq_true c3
        clear c3
        by_cases c4 : 0 ≤ x5_1
        · rw [if_pos c4] at H
          have c4b0 : decide (0 ≤ x5_1) = true := decide_eq_true c4
          clear c4
          replace H := Option.bind_eq_some_iff.mp H
          obtain ⟨t135, A50, H⟩ := H
          replace H : (if (rdOf ByteArray.empty l0 x5_1).toList = t135.toList then (laws_heldStringS.l0 k1 l0 (wrap64 (x1_1 + 1)) (wrap64 (x5_1 + 1))) else (some (-1))) = some r := H
          have A5 := Aside0.mk A50
          clear A50
          have HC6 := Aside0.mk H
          clear H
          try go_wp2
          have n0_ := Aside0.mk (below_drew1 HB.out)
          clear HB
          have HB := n0_
          clear n0_
          have p134 : 0 ≤ (x5_1 : Int) := of_decide_eq_true (by first | (with_reducible assumption) | assumption)
          have q134 : x5_1 < (l0.length : Int) := of_decide_eq_true (by first | (with_reducible assumption) | assumption)
          obtain ⟨ad134, e134, hx134_0⟩ := Kd.at_string HR0.out x5_1 p134 q134
          have hw134_0 := hx134_0
          cases e134
          replace hx134_0 := (HB.out.cell (World.block_lt_of_cell? w _ hx134_0)).trans hx134_0
          replace p134 := eq_true p134
          replace q134 := eq_true q134
          refine start_ (n := 7) (S := fun w' => w'.cell? (ad134.add (x5_1).toNat) = some (.string (rdOf ByteArray.empty l0 x5_1))) (ds := []) #[false, false, false, false, false, false, false] (by kernel_rfl) rfl rfl (((HB.out.cell (World.block_lt_of_cell? w _ hw134_0)).trans hw134_0)) (fun hHeld => ?_)
          generalize wr.drew = w7 at HB hx134_0 hHeld ⊢
          refine pure_ (i := 0) (N := some 12) (v := ?_) (a' := ?_) #[true, false, false, false, false, false, false] rfl rfl (by kernel_rfl) (fun _ _ _ h => h) (Or.inl ⟨by rfl, ?_⟩) ?_ ?_
          rotate_left
          · intro w'
            go_simp
            with_reducible rfl
          rotate_left
          · simp only [Act.put, List.setIfInBounds_toArray, List.set_cons_zero, List.set_cons_succ, i64_w, i32_w]
            rfl
          refine pure_ (i := 1) (N := some 13) (v := ?_) (a' := ?_) #[true, true, false, false, false, false, false] rfl rfl (by kernel_rfl) (fun _ _ _ h => h) (Or.inl ⟨by rfl, ?_⟩) ?_ ?_
          rotate_left
          · intro w'
            go_simp
            with_reducible rfl
          rotate_left
          · simp only [Act.put, List.setIfInBounds_toArray, List.set_cons_zero, List.set_cons_succ, i64_w, i32_w]
            rfl
          refine pure_ (i := 2) (N := some 14) (v := ?_) (a' := ?_) #[true, true, true, false, false, false, false] rfl rfl (by kernel_rfl) (fun _ _ _ h => h) (Or.inl ⟨by rfl, ?_⟩) ?_ ?_
          rotate_left
          · intro w'
            go_simp
            with_reducible rfl
          rotate_left
          · simp only [Act.put, List.setIfInBounds_toArray, List.set_cons_zero, List.set_cons_succ, i64_w, i32_w]
            rfl
          refine pure_ (i := 4) (N := some 16) (v := ?_) (a' := ?_) #[true, true, true, false, true, false, false] rfl rfl (by kernel_rfl) (fun _ _ _ h => h) (Or.inl ⟨by rfl, ?_⟩) ?_ ?_
          rotate_left
          · intro w'
            go_simp
            with_reducible rfl
          rotate_left
          · simp only [Act.put, List.setIfInBounds_toArray, List.set_cons_zero, List.set_cons_succ, i64_w, i32_w]
            rfl
          refine take_ (i := 3) (N := some 15) (v := ?_) (a' := ?_) #[true, true, true, true, true, false, false] rfl rfl (by kernel_rfl) (fun _ _ _ h => h) (Or.inl ⟨by rfl, ?_⟩) hHeld ?_ ?_
          rotate_left
          · intro w' s0
            go_simp
            with_reducible rfl
          rotate_left
          · simp only [Act.put, List.setIfInBounds_toArray, List.set_cons_zero, List.set_cons_succ, i64_w, i32_w]
            rfl
          refine one_ (i := 5) (N := some 17) #[true, true, true, true, true, true, false] rfl rfl (by kernel_rfl) (by decide) (fun K hK => ?_)
          refine goes_ Try.func28 (by kernel_rfl) rfl #[.int .i64 x1_1] (by rfl) rfl rfl (by (try simp only [List.map_toArray, List.map_cons, List.map_nil]); first | done | rfl | (simp only [List.length_drop, List.length_take]; rfl)) ?_
          with_reducible refine (laws_markText.calls k1 x1_1 t135 _ A5.out).mono ?_
          rintro e w8 ⟨rfl, hb⟩
          refine ⟨_, rfl, ?_⟩
          have n0_ := Aside0.mk (below_step (by repeat (first | (with_reducible first | exact HB.out | apply below_alloc | apply pw_below_drewN | apply below_drew1) | exact HB.out)) hb)
          clear HB
          have HB := n0_
          clear n0_
          (try clear hb)
          (try clear hb2)
          (try clear hk)
          (try clear hi)
          refine hK.out _ _ (((HB.out.cell (World.block_lt_of_cell? w _ hw134_0)).trans hw134_0)) (fun hHeld => ?_)
          clear hK K
          refine norm_ (a' := ?_) ?_ ?_
          rotate_left
          · show Act.put _ (some 17) _ = _
            simp only [Act.put, List.setIfInBounds_toArray, List.set_cons_zero, List.set_cons_succ, i64_w, i32_w]
            rfl
          refine pure_ (i := 6) (N := some 18) (v := ?_) (a' := ?_) #[true, true, true, true, true, true, true] rfl rfl (by kernel_rfl) (fun _ _ _ h => h) (Or.inl ⟨by rfl, ?_⟩) ?_ ?_
          rotate_left
          · intro w'
            go_simp
            with_reducible rfl
          rotate_left
          · simp only [Act.put, List.setIfInBounds_toArray, List.set_cons_zero, List.set_cons_succ, i64_w, i32_w]
            rfl
          refine done_ (by kernel_rfl) ?_
          go_upto_if 18 with (fail)
          have H := HC6.out
          clear HC6
          by_cases c9 : (rdOf ByteArray.empty l0 x5_1).toList = t135.toList
          · rw [if_pos c9] at H
            have c9b0 : ((rdOf ByteArray.empty l0 x5_1).toList == t135.toList) = true := beq_iff_eq.mpr c9
            have c9b1 : ((rdOf ByteArray.empty l0 x5_1).toList != t135.toList) = false := bne_eq_false_iff_eq.mpr c9
            clear c9
            (first | rw [c9b0] | (simp only [i64_w, i32_w]; rw [c9b0]) | (rw [c9b1]; (try simp only [Bool.not_true, Bool.not_false])) | skip)
            have H' := Aside0.mk H
            clear H
            go_wp2
            go_roundg k1
            case measure => have := HK1.out; omega
            case rel => exact ⟨(wrap64 (x1_1 + 1)), (wrap64 (x5_1 + 1)), (by first | rfl | (simp; done) | (simp [i64_w, i32_w]; done) | (simp [*]; done)), (by first | rfl | (simp; done) | (simp [i64_w, i32_w]; done) | (simp [*]; done)), H', ⟨by have := HK1.out; omega⟩, ⟨by repeat (first | (with_reducible first | exact HB.out | apply below_alloc | apply pw_below_drewN | apply below_drew1) | exact HB.out)⟩⟩
          · rw [if_neg c9] at H
            have c9b0 : ((rdOf ByteArray.empty l0 x5_1).toList == t135.toList) = false := beq_eq_false_iff_ne.mpr c9
            have c9b1 : ((rdOf ByteArray.empty l0 x5_1).toList != t135.toList) = true := bne_iff_ne.mpr c9
            (first | rw [c9b0] | (simp only [i64_w, i32_w]; rw [c9b0]) | (rw [c9b1]; (try simp only [Bool.not_true, Bool.not_false])) | skip)
            obtain rfl := Option.some.inj H
            go_wp2
            go_ret
            exact ⟨by first | rfl | (simp [errW_none, errW_some] <;> rfl) | (simp [*, errW_none, errW_some] <;> rfl), by repeat (first | (with_reducible first | exact HB.out | apply below_alloc | apply pw_below_drewN | apply below_drew1) | exact HB.out)⟩
        · rw [if_neg c4] at H
          exact absurd H (by simp)
      · rw [if_neg c3] at H
        have c3b0 : decide (x5_1 < (l0.length : Int)) = false := decide_eq_false c3
        clear c3
        obtain rfl := Option.some.inj H
        go_wp2
        go_ret
        exact ⟨by first | rfl | (simp [errW_none, errW_some] <;> rfl) | (simp [*, errW_none, errW_some] <;> rfl), by repeat (first | (with_reducible first | exact HB.out | apply below_alloc | apply pw_below_drewN | apply below_drew1) | exact HB.out)⟩

-- NOT PRINTED: function 3 (laws_FnExactUniteNames)

end Go.Proofs.Ytochgledinnlhaa.Pu
end
section
namespace Go.Proofs.Ytochgledinnlhaa.Pl
open Go.RowKit Go.Proofs.YtochgledinnlhaaW.PrintWords
set_option linter.unusedVariables false
theorem Ev.up {α : Type} {g : Nat → Option α} {r : α} (h : Ev (fun k => g (k + 1)) r) : Ev g r := Ev.step (f := fun k => g (k + 1)) (fun _ => rfl) h
theorem Ev.pos {α : Type} {A B : Nat → Option α} {r : α} {c : Prop} [Decidable c] (hc : c) (h : Ev A r) : Ev (fun n => if c then A n else B n) r :=
  Ev.congr (f := A) (fun k => by rw [if_pos hc]) h
theorem Ev.neg {α : Type} {A B : Nat → Option α} {r : α} {c : Prop} [Decidable c] (hc : ¬ c) (h : Ev B r) : Ev (fun n => if c then A n else B n) r :=
  Ev.congr (f := B) (fun k => by rw [if_neg hc]) h
theorem Ev.cases {α : Type} {A B : Nat → Option α} {r : α} {c : Prop} [Decidable c] (h1 : c → Ev A r) (h2 : ¬ c → Ev B r) : Ev (fun n => if c then A n else B n) r := by
  by_cases hc : c
  · exact Ev.pos hc (h1 hc)
  · exact Ev.neg hc (h2 hc)
theorem Ev.eq {α : Type} {g : Nat → Option α} {r r' : α} (h : Ev g r) (e : r = r') : Ev g r' := e ▸ h
theorem Ev.const {α : Type} {a r : α} (e : a = r) : Ev (fun _ => some a) r := by subst e; exact Ev.now _
theorem Ev.none_bind {α β : Type} {a : α} {f : Nat → α → Option β} {r : β} (h : Ev (fun n => f n a) r) : Ev (fun n => (some a).bind (f n)) r := h
theorem w1 {i n : Nat} (h : i < n) (hn : n ≤ maxLen) : wrap64 ((i : Int) + 1) = ((i + 1 : Nat) : Int) := by
  have : n ≤ 9223372036854775807 := hn
  unfold wrap64
  omega
theorem w1' {i n : Nat} (h : i < n) (hn : n ≤ 1048576) : wrap64 ((i : Int) + 1) = ((i + 1 : Nat) : Int) := w1 h (by unfold maxLen; omega)
theorem w64 {a : Int} (h : -9223372036854775808 ≤ a) (h2 : a ≤ 9223372036854775807) : wrap64 a = a := by unfold wrap64; omega
/-- What is left of a budget, or -1. -/
def cut (n : Nat) (left : Int) : Int := if (n : Int) ≤ left then left - n else -1
theorem cut_zero {left : Int} (h : 0 ≤ left) : cut 0 left = left := by unfold cut; rw [if_pos (by omega)]; omega
theorem cut_neg {n : Nat} {left : Int} : cut n left < 0 ↔ ¬ ((n : Int) ≤ left) := by
  unfold cut
  split <;> omega
theorem cut_le {n : Nat} {left : Int} (h : 0 ≤ left) : cut n left ≤ left := by unfold cut; split <;> omega
theorem cut_add {m n : Nat} {left : Int} (h : 0 ≤ cut m left) : cut n (cut m left) = cut (m + n) left := by
  unfold cut at *
  split at h
  · rename_i h1
    simp only [if_pos h1]
    by_cases h2 : (n : Int) ≤ left - m
    · rw [if_pos h2, if_pos (by omega)]; omega
    · rw [if_neg h2, if_neg (by omega)]
  · omega
theorem cut_add' {m n : Nat} {left : Int} (h : cut m left < 0) : cut (m + n) left = -1 := by
  have := cut_neg.1 h
  unfold cut
  rw [if_neg (by omega)]
/-- 'left -= n; if left < 0 { return -1 }' -/
theorem cut_sub {n : Nat} {left : Int} (h : 0 ≤ left) (hl : left ≤ 1048576) (hn : n ≤ maxLen) : (wrap64 (left - (n : Int)) < 0 ↔ cut n left < 0) ∧ (0 ≤ cut n left → wrap64 (left - (n : Int)) = cut n left) := by
  have hn' : n ≤ 9223372036854775807 := hn
  have e : wrap64 (left - (n : Int)) = left - n := w64 (by omega) (by omega)
  rw [e, cut_neg]
  unfold cut
  constructor
  · omega
  · intro h2
    split at h2
    · rename_i h3; rw [if_pos h3]
    · omega
def sumF (W : Nat → Nat) : Nat → Nat → Nat
  | _, 0 => 0
  | i, m + 1 => W i + sumF W (i + 1) m
theorem sz_loop' (n : Nat) (L : Nat → Int → Nat → Option Int) (W : Nat → Nat)
    (h1 : ∀ k left i, i < n → 0 ≤ left → left ≤ 1048576 → L (k + 1) left i = if cut (W i) left < 0 then some (-1) else L k (cut (W i) left) (i + 1))
    (h2 : ∀ k left, L (k + 1) left n = some left) :
    ∀ m i left, i + m = n → 0 ≤ left → left ≤ 1048576 → Ev (fun k => L k left i) (cut (sumF W i m) left) := by
  intro m
  induction m with
  | zero =>
    intro i left hi h0 hl
    obtain rfl : i = n := by omega
    refine Ev.step (h2 · left) ?_
    exact Ev.const (cut_zero h0).symm
  | succ m ih =>
    intro i left hi h0 hl
    refine Ev.step (fun k => h1 k left i (by omega) h0 hl) ?_
    by_cases hc : cut (W i) left < 0
    · exact Ev.pos hc (Ev.const (cut_add' hc).symm)
    · refine Ev.neg hc (Ev.eq (ih (i + 1) _ (by omega) (by omega) ?_) (cut_add (by omega)))
      have := cut_le (n := W i) h0
      omega
theorem Ev.map {α β : Type} {g : Nat → Option α} {a : α} (f : α → β) (h : Ev g a) : Ev (fun k => (g k).map f) (f a) := by
  obtain ⟨K, hK⟩ := h
  exact ⟨K, fun k hk => by show (g k).map f = _; rw [hK k hk]; rfl⟩
theorem to_loop {α : Type} (n : Nat) (X : Nat → Nat → Option α) (L : Nat → List α → Nat → Option (List α)) (v : Nat → α)
    (h1 : ∀ k out i, i < n → out.length = n → L (k + 1) out i = (X k i).bind fun t => L k (out.set i t) (i + 1))
    (h2 : ∀ k out, L (k + 1) out n = some out)
    (hX : ∀ i, i < n → Ev (fun k => X k i) (v i)) :
    ∀ m i out, i + m = n → out.length = n → Ev (fun k => L k out i) (out.take i ++ (List.range' i m).map v) := by
  intro m
  induction m with
  | zero =>
    intro i out hi hl
    obtain rfl : i = n := by omega
    refine Ev.step (h2 · out) (Ev.const ?_)
    simp [← hl]
  | succ m ih =>
    intro i out hi hl
    refine Ev.step (fun k => h1 k out i (by omega) hl) (Ev.bind (hX i (by omega)) ?_)
    refine Ev.eq (ih (i + 1) (out.set i (v i)) (by omega) (by simpa using hl)) ?_
    rw [List.range'_succ, List.map_cons, List.take_succ_eq_append_getElem (by simp; omega)]
    simp [List.take_set_of_le]
theorem eq_loop (n : Nat) (X : Nat → Nat → Option Bool) (L : Nat → Nat → Option Bool)
    (h1 : ∀ k i, i < n → L (k + 1) i = (X k i).bind fun t => if t = true then L k (i + 1) else some false)
    (h2 : ∀ k, L (k + 1) n = some true)
    (hX : ∀ i, i < n → Ev (fun k => X k i) true) :
    ∀ m i, i + m = n → Ev (fun k => L k i) true := by
  intro m
  induction m with
  | zero =>
    intro i hi
    obtain rfl : i = n := by omega
    exact Ev.step h2 (Ev.now _)
  | succ m ih =>
    intro i hi
    exact Ev.step (fun k => h1 k i (by omega)) (Ev.bind (hX i (by omega)) (Ev.pos rfl (ih (i + 1) (by omega))))
theorem range_map_getElem {α β : Type} (f : α → β) (d : α) (xs : List α) : (List.range' 0 xs.length).map (fun i => f (xs.getD i d)) = xs.map f := by
  apply List.ext_getElem
  · simp
  · intro i h1 h2
    simp at h1
    simp [h1]
theorem sumF_list {α : Type} (f : α → Nat) (d : α) (xs : List α) : ∀ m i, i + m = xs.length → sumF (fun i => f (xs.getD i d)) i m = ((xs.drop i).map f).sum := by
  intro m
  induction m with
  | zero => intro i hi; simp [sumF, List.drop_of_length_le (show xs.length ≤ i by omega)]
  | succ m ih =>
    intro i hi
    have hlt : i < xs.length := by omega
    rw [List.drop_eq_getElem_cons hlt, List.map_cons, List.sum_cons, sumF, ih (i + 1) (by omega)]
    simp [List.getD_eq_getElem?_getD, hlt]
def szs (xs : List ByteArray) : Nat := (xs.map ByteArray.size).sum
def wts (xs : List ByteArray) : Nat := xs.length + szs xs
theorem rdOf_str (xs : List ByteArray) (i : Nat) : rdOf ByteArray.empty xs (i : Int) = xs.getD i ByteArray.empty := by simp [rdOf]
theorem mem_getD {α : Type} (xs : List α) (d : α) (i : Nat) (h : i < xs.length) : xs.getD i d ∈ xs := by
  simp [List.getD_eq_getElem?_getD, h]
/-- Two texts with rounds come to the same. -/
def Same {α : Type} (f g : Nat → Option α) : Prop := ∃ r, Ev f r ∧ Ev g r
theorem Same.symm {α : Type} {f g : Nat → Option α} (h : Same f g) : Same g f := let ⟨r, a, b⟩ := h; ⟨r, b, a⟩
theorem Same.bind {α β : Type} {f g : Nat → Option α} {F G : Nat → α → Option β} (h : Same f g) (k : ∀ r, Ev f r → Ev g r → Same (F · r) (G · r)) : Same (fun n => (f n).bind (F n)) (fun n => (g n).bind (G n)) := by
  obtain ⟨r, a, b⟩ := h
  obtain ⟨s, c, d⟩ := k r a b
  exact ⟨s, Ev.bind a c, Ev.bind b d⟩
theorem Same.posL {α : Type} {A B g : Nat → Option α} {c : Prop} [Decidable c] (hc : c) (h : Same A g) : Same (fun n => if c then A n else B n) g := let ⟨r, a, b⟩ := h; ⟨r, Ev.pos hc a, b⟩
theorem Same.negL {α : Type} {A B g : Nat → Option α} {c : Prop} [Decidable c] (hc : ¬ c) (h : Same B g) : Same (fun n => if c then A n else B n) g := let ⟨r, a, b⟩ := h; ⟨r, Ev.neg hc a, b⟩
theorem Same.posR {α : Type} {A B g : Nat → Option α} {c : Prop} [Decidable c] (hc : c) (h : Same g A) : Same g (fun n => if c then A n else B n) := let ⟨r, a, b⟩ := h; ⟨r, a, Ev.pos hc b⟩
theorem Same.negR {α : Type} {A B g : Nat → Option α} {c : Prop} [Decidable c] (hc : ¬ c) (h : Same g B) : Same g (fun n => if c then A n else B n) := let ⟨r, a, b⟩ := h; ⟨r, a, Ev.neg hc b⟩
theorem Same.pos {α : Type} {A B C D : Nat → Option α} {c d : Prop} [Decidable c] [Decidable d] (hc : c) (hd : d) (h : Same A C) : Same (fun n => if c then A n else B n) (fun n => if d then C n else D n) := Same.posL hc (Same.posR hd h)
theorem Same.neg {α : Type} {A B C D : Nat → Option α} {c d : Prop} [Decidable c] [Decidable d] (hc : ¬ c) (hd : ¬ d) (h : Same B D) : Same (fun n => if c then A n else B n) (fun n => if d then C n else D n) := Same.negL hc (Same.negR hd h)
theorem Same.up {α : Type} {f g : Nat → Option α} (h : Same (fun k => f (k + 1)) (fun k => g (k + 1))) : Same f g := let ⟨r, a, b⟩ := h; ⟨r, Ev.up a, Ev.up b⟩
/-- A loop over an index, on both sides, with one state. -/
theorem Same.loop {σ ρ : Type} (n : Nat) (L M : Nat → σ → Nat → Option ρ) (hend : ∀ s, Same (fun k => L k s n) (fun k => M k s n))
    (hstep : ∀ i s, i < n → (∀ s', Same (fun k => L k s' (i + 1)) (fun k => M k s' (i + 1))) → Same (fun k => L k s i) (fun k => M k s i)) : ∀ s, Same (fun k => L k s 0) (fun k => M k s 0) := by
  suffices h : ∀ m i s, i + m = n → Same (fun k => L k s i) (fun k => M k s i) from fun s => h n 0 s (by omega)
  intro m
  induction m with
  | zero => intro i s hi; obtain rfl : i = n := by omega
            exact hend s
  | succ m ih => intro i s hi; exact hstep i s (by omega) (fun s' => ih (i + 1) s' (by omega))
end Go.Proofs.Ytochgledinnlhaa.Pl
end
section
namespace Go.Proofs.Ytochgledinnlhaa.Pu
open Go.RowKit Go.Proofs.YtochgledinnlhaaW.PrintWords Go.Proofs.Ytochgledinnlhaa.Pl
set_option linter.unusedVariables false
set_option linter.unusedSimpArgs false
theorem szStringS_ev (xs : List ByteArray) (hx : xs.length ≤ maxLen ∧ ∀ y ∈ xs, y.size ≤ maxLen) (left : Int) (h0 : 0 ≤ left) (hl : left ≤ 1048576) : Ev (fun k => laws_szStringS.f k xs left) (cut (wts xs) left) := by
  simp only [laws_szStringS.f]
  have hs := cut_sub (n := xs.length) h0 hl hx.1
  by_cases hc : cut xs.length left < 0
  · exact Ev.pos (hs.1.2 hc) (Ev.const (cut_add' hc).symm)
  · refine Ev.neg (fun h => hc (hs.1.1 h)) ?_
    rw [hs.2 (by omega)]
    have hl2 := cut_le (n := xs.length) h0
    have hw := sz_loop' xs.length (fun k left i => laws_szStringS.l0 k xs left (i : Int)) (fun i => (xs.getD i ByteArray.empty).size) (fun k left i hi h0 hl => by
      have hz := cut_sub (n := (xs.getD i ByteArray.empty).size) h0 hl (hx.2 _ (mem_getD xs _ i hi))
      simp only [laws_szStringS.l0, rdOf_str]
      rw [if_pos (by omega), if_pos (by omega)]
      by_cases hc : cut (xs.getD i ByteArray.empty).size left < 0
      · rw [if_pos (hz.1.2 hc), if_pos hc]
      · rw [if_neg (fun h => hc (hz.1.1 h)), if_neg hc, hz.2 (by omega), w1 hi hx.1]) (fun k left => by simp only [laws_szStringS.l0]; rw [if_neg (by omega)]) xs.length 0 _ (by omega) (show 0 ≤ cut xs.length left by omega) (by omega)
    refine Ev.eq hw ?_
    rw [cut_add (by omega), sumF_list ByteArray.size ByteArray.empty xs xs.length 0 (by omega)]
    rfl
theorem toStringS_ev (xs : List ByteArray) (hx : xs.length ≤ 1048576) : Ev (fun k => laws_toStringS.f k xs) xs := by
  simp only [laws_toStringS.f]
  refine Ev.pos (by omega) (Ev.pos (by omega) ?_)
  have hw := to_loop xs.length (fun k i => some (xs.getD i ByteArray.empty)) (fun k out i => laws_toStringS.l0 k xs out (i : Int)) (fun i => xs.getD i ByteArray.empty) (fun k out i hi hl => by
    simp only [laws_toStringS.l0, rdOf_str]
    rw [if_pos (by omega), if_pos (by omega), if_pos (by omega), w1' hi hx]
    rfl) (fun k out => by simp only [laws_toStringS.l0]; rw [if_neg (by omega)]) (fun i hi => Ev.now _) xs.length 0 (List.replicate ((xs.length : Int)).toNat (⟨#[]⟩ : ByteArray)) (by omega) (by simp)
  refine Ev.eq hw ?_
  rw [List.take_zero, List.nil_append, range_map_getElem (fun x => x) ByteArray.empty xs, List.map_id']
theorem eqStringS_ev (xs : List ByteArray) (hx : xs.length ≤ 1048576) : Ev (fun k => laws_eqStringS.f k xs xs) true := by
  simp only [laws_eqStringS.f]
  refine Ev.pos (by simp) ?_
  exact eq_loop xs.length (fun k i => some true) (fun k i => laws_eqStringS.l0 k xs xs (i : Int)) (fun k i hi => by
    simp only [laws_eqStringS.l0]
    rw [if_pos (by omega), if_pos (by omega), if_pos (by omega), w1' hi hx]
    simp) (fun k => by simp only [laws_eqStringS.l0]; rw [if_neg (by omega)]) (fun i hi => Ev.now _) xs.length 0 (by omega)
end Go.Proofs.Ytochgledinnlhaa.Pu
end
section
namespace Go.Proofs.Ytochgledinnlhaa.Pu
open Go.RowKit Go.Proofs.YtochgledinnlhaaW.PrintWords Go.Proofs.YtochgledinnlhaaW.PrintLast Go.Proofs.Ytochgledinnlhaa.Pl Go.Proofs.Ytochgledinnlhaa.Ext
set_option linter.unusedVariables false
set_option linter.unusedSimpArgs false
theorem strOne (n : Int) : (strOfNums [n]).size = 1 := by simp [strOfNums]; rfl
theorem markLoop_ex : ∀ (m : Nat) (x : Int) (s : ByteArray), 0 ≤ x → x ≤ 4611686018427387904 → x < (10 : Int) ^ m → s.size + m ≤ 1000 → ∃ r, Ev (fun k => laws_markText.l0 k x s) r := by
  intro m
  induction m with
  | zero =>
    intro x s h0 hb h1 hs
    refine ⟨(⟨#[109]⟩ : ByteArray) ++ s, Ev.up ?_⟩
    simp only [laws_markText.l0]
    exact Ev.neg (by simp at h1; omega) (Ev.pos (by omega) (Ev.now _))
  | succ m ih =>
    intro x s h0 hb h1 hs
    by_cases hx : x > 0
    · have ht : Int.tdiv x 10 = x / 10 := Int.tdiv_eq_ediv_of_nonneg h0
      have hw : wrap64 (Int.tdiv x 10) = x / 10 := by rw [ht]; exact w64 (by omega) (by omega)
      have hl : x / 10 < (10 : Int) ^ m := by
        rw [Int.pow_succ] at h1
        omega
      obtain ⟨r, hr⟩ := ih (x / 10) (strOfNums [(wrap64 (48 + (Int.tmod x 10))) % 256] ++ s) (by omega) (by omega) hl (by rw [ByteArray.size_append, strOne]; omega)
      refine ⟨r, Ev.up ?_⟩
      simp only [laws_markText.l0]
      refine Ev.pos hx ?_
      refine Ev.none_bind (Ev.pos (by rw [strOne]; omega) ?_)
      rw [hw]
      exact hr
    · refine ⟨(⟨#[109]⟩ : ByteArray) ++ s, Ev.up ?_⟩
      simp only [laws_markText.l0]
      exact Ev.neg hx (Ev.pos (by omega) (Ev.now _))
theorem markText_ex (a : Int) (hb : a ≤ 4611686018427387904) : ∃ r, Ev (fun k => laws_markText.f k a) r := by
  by_cases h : a ≤ 0
  · refine ⟨(⟨#[109, 48]⟩ : ByteArray), ?_⟩
    simp only [laws_markText.f]
    exact Ev.pos h (Ev.now _)
  · obtain ⟨r, hr⟩ := markLoop_ex 19 a ⟨#[]⟩ (by omega) hb (by omega) (by decide)
    refine ⟨r, ?_⟩
    simp only [laws_markText.f]
    exact Ev.neg h hr
open Classical in
/-- The text that marks k. -/
noncomputable def mt (a : Int) : ByteArray := if h : ∃ r, Ev (fun k => laws_markText.f k a) r then h.choose else ⟨#[]⟩
theorem mt_ev (a : Int) (hb : a ≤ 4611686018427387904) : Ev (fun k => laws_markText.f k a) (mt a) := by
  have h := markText_ex a hb
  unfold mt
  rw [dif_pos h]
  exact h.choose_spec
noncomputable def mtS (a : Int) : Nat → List ByteArray
  | 0 => []
  | n + 1 => mt a :: mtS (a + 1) n
theorem mtS_length : ∀ (n : Nat) (a : Int), (mtS a n).length = n
  | 0, _ => rfl
  | n + 1, a => by simp [mtS, mtS_length n]
theorem markLoopS_ev (xs : List ByteArray) (hx : xs.length ≤ 1048576) : ∀ (m i : Nat) (out : List ByteArray) (a : Int), i + m = xs.length → out.length = xs.length → 0 ≤ a → a + m ≤ 4611686018427387904 →
    Ev (fun k => laws_markStringS.l0 k out a (i : Int)) (a + m, out.take i ++ mtS a m) := by
  intro m
  induction m with
  | zero =>
    intro i out a hi hl h0 hb
    refine Ev.up ?_
    simp only [laws_markStringS.l0]
    refine Ev.neg (by omega) (Ev.const ?_)
    rw [List.take_of_length_le (by omega)]
    simp [mtS]
  | succ m ih =>
    intro i out a hi hl h0 hb
    refine Ev.up ?_
    simp only [laws_markStringS.l0]
    refine Ev.pos (by omega) (Ev.bind (mt_ev a (by omega)) (Ev.pos (by omega) ?_))
    rw [w1' (show i < xs.length by omega) hx, show wrap64 (a + 1) = a + 1 from w64 (by omega) (by omega)]
    refine Ev.eq (ih (i + 1) (out.set i (mt a)) (a + 1) (by omega) (by simpa using hl) (by omega) (by omega)) ?_
    rw [List.take_succ_eq_append_getElem (by simp; omega)]
    simp only [List.getElem_set_self, List.take_set_of_le (Nat.le_refl i), mtS, List.append_assoc, List.singleton_append, Prod.mk.injEq, and_true]
    omega
theorem markStringS_ev (xs : List ByteArray) (hx : xs.length ≤ 1048576) (a : Int) (h0 : 0 ≤ a) (hb : a + xs.length ≤ 4611686018427387904) : Ev (fun k => laws_markStringS.f k xs a) (a + xs.length, mtS a xs.length) := by
  simp only [laws_markStringS.f]
  simpa using markLoopS_ev xs hx xs.length 0 xs a (by omega) rfl h0 hb
theorem mtS_getD (d : ByteArray) : ∀ (n i : Nat) (a : Int), i < n → (mtS a n).getD i d = mt (a + i)
  | 0, i, _, h => by omega
  | n + 1, 0, a, _ => by simp [mtS]
  | n + 1, i + 1, a, h => by
    have := mtS_getD d n i (a + 1) (by omega)
    simp only [mtS, List.getD_cons_succ, this]
    congr 1
    omega
theorem heldStringS_ev (n : Nat) (hn : n ≤ 1048576) (a : Int) (h0 : 0 ≤ a) (hb : a + n ≤ 4611686018427387904) : Ev (fun k => laws_heldStringS.f k (mtS a n) a) (a + n) := by
  suffices h : ∀ (m i : Nat), i + m = n → Ev (fun k => laws_heldStringS.l0 k (mtS a n) (a + i) (i : Int)) (a + n) by
    simp only [laws_heldStringS.f]
    simpa using h n 0 (by omega)
  intro m
  induction m with
  | zero =>
    intro i hi
    refine Ev.up ?_
    simp only [laws_heldStringS.l0, mtS_length]
    exact Ev.neg (by omega) (Ev.const (by omega))
  | succ m ih =>
    intro i hi
    refine Ev.up ?_
    simp only [laws_heldStringS.l0, mtS_length]
    refine Ev.pos (by omega) (Ev.pos (by omega) (Ev.bind (mt_ev (a + i) (by omega)) (Ev.pos ?_ ?_)))
    · rw [rdOf_str, mtS_getD _ n i a (by omega)]
    · rw [w1' (show i < n by omega) hn, show wrap64 (a + i + 1) = a + ((i + 1 : Nat) : Int) from by rw [w64 (by omega) (by omega)]; omega]
      exact ih (i + 1) (by omega)
/-- markStringS at a row that it is given to write. -/
theorem markStringS_own (xs : List ByteArray) (hx : xs.length ≤ 1048576) (a : Int) (h0 : 0 ≤ a) (hb : a + xs.length ≤ 4611686018427387904) (v : Value) (ok : Nat → Prop) (w0 w : World) (hB : Below w0.heap.size w0 w) (ho : Kd.R Kd.string 9 w w0.heap.size ok v xs) :
    Calls Try.prog 11 #[v, .int .i64 a] w fun e w' => e = .returned (.int .i64 (a + xs.length)) ∧ Kd.R Kd.string 9 w' w0.heap.size ok v (mtS a xs.length) ∧ Below w0.heap.size w0 w' ∧ Kept w w' ok := by
  obtain ⟨K, hK⟩ := markStringS_ev xs hx a h0 hb
  refine (laws_markStringS.calls K ok v xs a _ _ w0 w hB ho (hK K (Nat.le_refl K))).mono ?_
  rintro e w' ⟨he, hr, hb', hk⟩
  exact ⟨he, Kd.R_reok rfl hr ho.1, hb', hk⟩
end Go.Proofs.Ytochgledinnlhaa.Pu
end
section
namespace Go.Proofs.Ytochgledinnlhaa.Pu
open Go.RowKit Go.Proofs.Ytochgledinnlhaa.Ext Go.Proofs.YtochgledinnlhaaW.PrintWords Go.Proofs.YtochgledinnlhaaW.PrintLast Go.Proofs.YtochgledinnlhaaW.PrintMore
attribute [local go_sem] max2_int min2_int max_two min_two max_three min_three max_four min_four   -- for this text's walks alone
set_option linter.unusedVariables false
set_option linter.unusedSimpArgs false

/-! ### slices_Clone_string_string: function 29 -/
/-- slices.Clone at texts: the same texts, in a row of their own. -/
def slices_Clone_string_string.f (l0 : List ByteArray) : Option (List ByteArray) := if l0.length < 8796093022208 then some l0 else none
set_option maxHeartbeats 1000000 in
set_option maxRecDepth 100000 in
theorem slices_Clone_string_string.calls (A0 : Option Addr) (c0 : Nat) (l0 : List ByteArray) (r : List ByteArray) (w : World) (hr0 : Kd.C Kd.string w A0 l0.length l0) (hc0 : l0.length ≤ c0) (h : slices_Clone_string_string.f l0 = some r) :
    Calls Try.prog 29 #[.slice A0 l0.length c0] w fun e w' => ∃ v0_ : Value, e = .returned (v0_) ∧ Kd.R Kd.string 9 w' w.heap.size (fun _ => True) v0_ r ∧ Below w.heap.size w w' := by
  unfold slices_Clone_string_string.f at h
  by_cases hl : l0.length < 8796093022208
  · rw [if_pos hl] at h
    obtain rfl := Option.some.inj h
    have HL := Aside0.mk hl
    have HR0 := Aside0.mk hr0
    have HC0 := Aside0.mk hc0
    clear h hl hr0 hc0
    cases A0 with
    | none =>
      have hz : l0 = [] := by
        rcases Nat.eq_zero_or_pos l0.length with h0 | h0
        · exact List.eq_nil_of_length_eq_zero h0
        · obtain ⟨ad, h, _⟩ := HR0.out.2.2 h0
          cases h
      subst hz
      have he : ∀ n c w', (binOp .eql 22 (.slice none n c) (.slice none 0 0)).run Try.prog w' = .ok (.bool true) w' := fun n c w' => Go.Proofs.Ytochgledinnlhaa.Ext.eql_slice_nil Try.underlying22 none n c w'
      go_enter Try.func29, Try.ntmps29
      go_wp2
      go_ret
      exact ⟨_, rfl, Kd.R_nil _ _ _ _ _, Below.refl _ _⟩
    | some ad =>
      have he : ∀ n c w', (binOp .eql 22 (.slice (some ad) n c) (.slice none 0 0)).run Try.prog w' = .ok (.bool false) w' := fun n c w' => Go.Proofs.Ytochgledinnlhaa.Ext.eql_slice_nil Try.underlying22 (some ad) n c w'
      go_enter Try.func29, Try.ntmps29
      go_wp2_with (first
        | ((with_reducible refine gate_dst (N := 5) rfl ?_); refine Kd.R_lit Kd.string _ 9 ?hg (N := 5) ?hd (xs := ([] : List ByteArray)) (inner := []) (ok := fun _ => True) (okp := fun _ => True) ?hr ?hp (fun _ hk => hk) trivial (Below.refl _ _) (Nat.le_refl _) (by simp) ?_; (case hd => rfl); (case hg => rfl); (case hr => first | (go_simp; done) | (go_simp; rfl)); (case hp => exact (Reps.none _ _)); intro v5 w5 ho5 hb5 hg_ hnew_; clear hg_ hnew_; have HO5 := Aside0.mk ho5; have HB5 := Aside0.mk hb5; clear ho5 hb5)
        | ((with_reducible refine gate_builtin (b := .append) (xs := #[.tmp 5, .tmp 6]) rfl ?_); at_builtin; refine Kd.R_append_rows Kd.string (w0 := w) w.heap.size rfl (.tmp 5) (.tmp 6) 22 9 (.string ⟨#[]⟩) 16 rfl Try.underlying22 info9 rfl (by decide) (by omega) v5 ([] : List ByteArray) l0 _ _ _ (fun _ => True) (fun _ => False) rfl rfl ?aO ?aR (fun _ _ h => h) (fun _ h => h.elim) ?aF ?aB ?aS ?aL ?_; (case aR => exact (Kd.C_below HR0.out HB5.out)); (case aB => exact HB5.out); (case aF => exact (fun _ _ => trivial)); (case aO => exact HO5.out); (case aS => exact below_size HB5.out); (case aL => have := HL.out; simp; omega); intro v7 w7 ho hb hg hat; have HO7 := Aside0.mk ho; have HB7 := Aside0.mk hb; clear ho hb hg hat; obtain ⟨A7, c7, e7⟩ := Kd.R_slice HO7.out; subst e7))
      go_ret
      exact ⟨_, by first | rfl | (simp [errW_none, errW_some] <;> rfl) | (simp [*, errW_none, errW_some] <;> rfl), HO7.out, HB7.out⟩
  · rw [if_neg hl] at h
    cases h

end Go.Proofs.Ytochgledinnlhaa.Pu
end
section
namespace Go.Proofs.Ytochgledinnlhaa.Pu
open Go.RowKit Go.Proofs.YtochgledinnlhaaW.PrintWords Go.Proofs.YtochgledinnlhaaW.PrintLast Go.Proofs.Ytochgledinnlhaa.Pl Go.Proofs.Ytochgledinnlhaa.Ext
set_option linter.unusedVariables false
set_option linter.unusedSimpArgs false
open Go.Sort Go.Lib Go.Proofs
theorem heap_map (w : World) (g : Nat) (f : Array Value → Array Value) {c : Array Value} {e : TypeId} {fr : Nat × Nat} (h : w.heap[g]? = some (.cells c e fr)) : (mapBlock w g f).heap[g]? = some (.cells (f c) e fr) := by simp [mapBlock, Array.getElem?_modify, h, onCells]
theorem heap_map_other (w : World) (g k : Nat) (f : Array Value → Array Value) (h : g ≠ k) : (mapBlock w g f).heap[k]? = w.heap[k]? := by simp [mapBlock, Array.getElem?_modify, h]
def bs (l : List UInt8) : ByteArray := ⟨l.toArray⟩
theorem bs_self (s : ByteArray) : bs s.data.toList = s := by unfold bs; simp
def sorted (l0 : List ByteArray) : List (List UInt8) := (l0.map (·.data.toList)).mergeSort fun x y => decide (x ≤ y)
def impl_SortNames.f (_k : Nat) (l0 : List ByteArray) : Option (List ByteArray) := if l0.length < 8796093022208 then some ((Lib.compact (sorted l0)).map bs) else none
theorem sorted_length (l0 : List ByteArray) : (sorted l0).length = l0.length := by simp [sorted]
theorem compact_le {α : Type} [Inhabited α] [DecidableEq α] (zs : List α) : (Lib.compact zs).length ≤ zs.length := by
  unfold Lib.compact Lib.compactUpTo
  rw [List.length_map]
  exact Nat.le_trans (List.length_filter_le _ _) (by simp)
theorem cells_put (d : List (List UInt8)) (c : Array Value) (j : Nat) (h : j < d.length) (hc : j < c.size) : (putCells encStr 0 d.toArray c)[j]? = some (encStr d[j]) := by
  simp only [putCells, Array.getElem?_mapIdx, Array.getElem?_eq_getElem hc, Option.map_some]
  rw [if_pos ⟨Nat.zero_le _, by simpa using h⟩]
  simp [getElem!_pos, h]
set_option maxHeartbeats 4000000 in
set_option maxRecDepth 100000 in
theorem impl_SortNames.calls (k : Nat) (A0 : Option Addr) (c0 : Nat) (l0 : List ByteArray) (r : List ByteArray) (w : World) (hr0 : Kd.C Kd.string w A0 l0.length l0) (hc0 : l0.length ≤ c0) (h : impl_SortNames.f k l0 = some r) :
    Calls Try.prog 14 #[.slice A0 l0.length c0] w fun e w' => ∃ v0_ : Value, e = .returned (v0_) ∧ Kd.R Kd.string 9 w' w.heap.size (fun _ => True) v0_ r ∧ Below w.heap.size w w' := by
  unfold impl_SortNames.f at h
  by_cases hl : l0.length < 8796093022208
  · rw [if_pos hl] at h
    obtain rfl := Option.some.inj h
    have HCl := Aside0.mk (slices_Clone_string_string.calls A0 c0 l0 l0 w hr0 hc0 (by unfold slices_Clone_string_string.f; rw [if_pos hl]))
    have HL := Aside0.mk hl
    clear h hr0 hc0 hl
    go_enter Try.func14, Try.ntmps14
    go_upto_region 2 with (go_at_call 29; refine HCl.out.mono ?_; rintro e w1 ⟨v3, rfl, ho, hb⟩; have HO := Aside0.mk ho; have HB := Aside0.mk hb; obtain ⟨A3, c3, e3⟩ := Kd.R_slice ho; subst e3; clear ho hb)
    by_cases h0 : l0.length = 0
    · obtain rfl := List.length_eq_zero_iff.1 h0
      clear h0
      go_upto_region 3 with (go_at_call 30; refine (Try.slices_Sort_string_none A3 c3 w1).mono ?_; rintro e w2 ⟨rfl, rfl⟩)
      go_wp2_with (go_at_call 31; refine (Try.slices_Compact_string_empty A3 c3 _).mono ?_; rintro e w3 ⟨rfl, rfl⟩)
      go_ret
      exact ⟨_, rfl, by have h2 := compact_le (sorted []); rw [sorted_length] at h2; have h3 : Lib.compact (sorted []) = [] := List.eq_nil_of_length_eq_zero (Nat.le_zero.1 h2); rw [h3]; exact HO.out, HB.out⟩
    · obtain ⟨hlen, hor⟩ := Kd.own_of_R HO.out
      rcases hor with ⟨hn, _⟩ | ⟨g, cap, cur, hv, hg, hh, hc1, hc2, hcs, htk⟩
      · injection hn with _ h2 _
        exact absurd h2 h0
      · injection hv with hA _ hcap
        subst hA hcap
        have hsl : (l0.map (·.data.toList)).length = l0.length := by simp
        have hH : Holds encStr w1 g 0 (l0.map (·.data.toList)).toArray := by
          intro j hj
          have hj' : j < l0.length := by simpa using hj
          have hjc : j < cur.size := by omega
          refine ⟨?_, by simp [World.frozen?, hh]⟩
          rw [Nat.zero_add, blk_cell hh j, Array.getElem?_eq_getElem hjc]
          have h2 : cur.toList[j]? = (encs Value.string l0)[j]? := by
            rw [← htk, List.getElem?_take_of_lt (by omega)]
          simp only [encs, List.getElem?_map, List.getElem?_eq_getElem hj', Option.map_some] at h2
          rw [Array.getElem?_toList, Array.getElem?_eq_getElem hjc] at h2
          rw [h2]
          simp [getElem!_pos, hj', encStr]
        have hgs : g < w1.heap.size := blk_lt hh
        have HS := Aside0.mk (Try.slices_Sort_string g 0 c3 (l0.map (·.data.toList)) w1 hH hgs (by rw [hsl]; have := HL.out; omega))
        rw [hsl] at HS
        have HH := Aside0.mk hH
        clear hH hsl
        have HA := Aside0.mk (And.intro hg (And.intro hh (And.intro hc1 (And.intro hc2 (And.intro hcs hgs)))))
        clear hg hh hc1 hc2 hcs htk hgs hlen h0
        go_upto_region 3 with (go_at_call 30; refine HS.out.mono ?_; rintro e w2 ⟨rfl, n, os, hw2_⟩; have HW2 := Aside0.mk hw2_; clear hw2_)
        have hw2 := HW2.out
        have hst : (sorted l0).toArray.size = (l0.map (·.data.toList)).toArray.size := by simp [sorted]
        have hgn : g < (Go.Sort.ahead w1 n).heap.size := HA.out.2.2.2.2.2
        have hH2 : Holds encStr w2 g 0 (sorted l0).toArray := by
          rw [hw2]
          exact holds_grow encStr _ os g 0 _ (by rw [size_putRow]; exact hgn) (holds_putRow encStr _ g 0 _ _ (holds_ahead encStr w1 n g 0 _ HH.out) hst)
        have hh2 : w2.heap[g]? = some (.cells (putCells encStr 0 (sorted l0).toArray cur) 9 (0, 0)) := by
          rw [hw2, heap_grow_old _ os (by rw [size_putRow]; exact hgn)]
          exact heap_map _ g _ HA.out.2.1
        have hb2 : Below w.heap.size w w2 := by
          have HB' := HB.out
          refine ⟨?_, ?_, ?_, ?_, fun k hk => ?_⟩
          · rw [hw2]; exact HB'.os
          · rw [hw2]; exact HB'.tape
          · rw [hw2]; exact HB'.output
          · rw [hw2, size_grow, size_putRow]; have := HB'.size; simp; omega
          · have hk1 : k < w1.heap.size := Nat.lt_of_lt_of_le hk HB'.size
            rw [hw2, heap_grow_old _ os (by rw [size_putRow]; exact hk1)]
            refine (heap_map_other _ g k _ (by have := HA.out.1; omega)).trans (HB'.block k hk)
        have HCo := Aside0.mk (Try.slices_Compact_string g 0 c3 (sorted l0) w2 hH2 (by rw [sorted_length]; have := HL.out; omega) (by rw [sorted_length]; exact HA.out.2.2.1))
        rw [sorted_length] at HCo
        have HD := Aside0.mk (And.intro hh2 hb2)
        clear hH2 hh2 hb2 hw2 hst hgn
        go_wp2_with (go_at_call 31; refine HCo.out.mono ?_; rintro e w3 ⟨rfl, q, hw3⟩; have HW := Aside0.mk hw3; clear hw3)
        go_ret
        obtain ⟨hg, hh, hc1, hc2, hcs, hgs⟩ := HA.out
        obtain ⟨hh2, hb2⟩ := HD.out
        have hcl := compact_le (sorted l0)
        rw [sorted_length] at hcl
        have hh3 : w3.heap[g]? = some (.cells (putCells encStr 0 (Lib.compact (sorted l0) ++ List.replicate (l0.length - (Lib.compact (sorted l0)).length) []).toArray (putCells encStr 0 (sorted l0).toArray cur)) 9 (0, 0)) := by
          rw [HW.out]
          exact heap_map _ g _ hh2
        refine ⟨_, rfl, Kd.R_of_own (h1 := fun _ => rfl) (xs := (Lib.compact (sorted l0)).map bs) ?_ (fun _ _ => trivial), ?_⟩
        · rw [List.length_map]
          refine ⟨by simp [encs], .inr ⟨g, c3, _, rfl, hg, hh3, by omega, hc2, by simp [putCells]; omega, ?_⟩⟩
          apply List.ext_getElem?
          intro j
          rw [Nat.mul_one]
          by_cases hj : j < (Lib.compact (sorted l0)).length
          · rw [List.getElem?_take_of_lt hj, Array.getElem?_toList, cells_put _ _ j (by simp; omega) (by simp [putCells]; omega)]
            simp [encs, bs, encStr, List.getElem?_eq_getElem, hj, List.getElem_append_left]
          · rw [List.getElem?_eq_none (by simp; omega), List.getElem?_eq_none (by simp [encs]; omega)]
        · refine ⟨?_, ?_, ?_, ?_, fun k hk => ?_⟩
          · rw [HW.out]; exact hb2.os
          · rw [HW.out]; exact hb2.tape
          · rw [HW.out]; exact hb2.output
          · rw [HW.out, size_putRow]; exact hb2.size
          · rw [HW.out]
            exact (heap_map_other _ g k _ (by omega)).trans (hb2.block k hk)
  · rw [if_neg hl] at h
    cases h

end Go.Proofs.Ytochgledinnlhaa.Pu
end
