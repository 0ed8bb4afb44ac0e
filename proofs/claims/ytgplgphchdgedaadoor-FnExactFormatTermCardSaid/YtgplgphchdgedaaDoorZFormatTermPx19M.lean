/- Printed by a program of this session: what functions of the translation come to, each contract as it stands. No condition. -/
import Derived.Test.YtgplgphchdgedaaDoorZFormatTermSh
import Derived.Test.YtgplgphchdgedaaDoorZFormatTermPx0M
import Derived.Test.YtgplgphchdgedaaDoorZFormatTermPx17M
section
namespace Go.Proofs.YtgplgphchdgedaaDoor.Px
open Go.RowKit Go.Proofs.YtgplgphchdgedaaDoor.Ext Go.Proofs.YtgplgphchdgedaaDoorW.PrintWords Go.Proofs.YtgplgphchdgedaaDoorW.PrintLast Go.Proofs.YtgplgphchdgedaaDoorW.PrintMore
attribute [local go_sem] max2_int min2_int max_two min_two max_three min_three max_four min_four   -- for this text's walks alone
set_option linter.unusedVariables false
set_option linter.unusedSimpArgs false

/-! ### impl_typeForm: function 70 -/
mutual
def impl_typeForm.j3 : Nat → Bool → Int → Int → List (S33) → Option (Bool)
 | 0, _, _, _, _ => none
 | k + 1, x1, x2, x700, x702 => if x1 = true then (impl_typeForm.j4 k x2 true x702) else (if x700 = 3 then (impl_typeForm.j4 k x2 true x702) else (impl_typeForm.j4 k x2 (x700 == 4) x702))
def impl_typeForm.j4 : Nat → Int → Bool → List (S33) → Option (Bool)
 | 0, _, _, _ => none
 | k + 1, x2, x8, x702 => impl_typeForm.l0 k x2 x8 (x702.length : Int) 0 x702
def impl_typeForm.l0 : Nat → Int → Bool → Int → Int → List (S33) → Option (Bool)
 | 0, _, _, _, _, _ => none
 | k + 1, x2, x8, x102, x103, x702 => if x103 < x102 then (if 0 ≤ x103 then (if x103 < (x702.length : Int) then ((impl_typeForm.f k ((rd_T33 x702 x103).f0) ((rd_T33 x702 x103).f1) ((rd_T33 x702 x103).f2) x8 (wrap64 (x2 + 1))).bind fun t325 => (if t325 = true then (impl_typeForm.l0 k x2 x8 x102 (wrap64 (x103 + 1)) x702) else (some false))) else (none)) else (none)) else (some true)
def impl_typeForm.j0 : Nat → Bool → Int → Bool → Int → List ByteArray → List (S33) → Option (Bool)
 | 0, _, _, _, _, _, _ => none
 | k + 1, x1, x2, x22, x700, x701, x702 => if x22 = true then (some false) else (if x700 = 5 then (impl_typeForm.j1 k x1 x2 x1 x700 x701 x702) else (impl_typeForm.j1 k x1 x2 false x700 x701 x702))
def impl_typeForm.j1 : Nat → Bool → Int → Bool → Int → List ByteArray → List (S33) → Option (Bool)
 | 0, _, _, _, _, _, _ => none
 | k + 1, x1, x2, x48, x700, x701, x702 => if x48 = true then (some false) else (if x700 = 3 then ((impl_labelsOk.f k x701).bind fun t323 => (impl_typeForm.j2 k x1 x2 (!t323) x700 x701 x702)) else (impl_typeForm.j2 k x1 x2 false x700 x701 x702))
def impl_typeForm.j2 : Nat → Bool → Int → Bool → Int → List ByteArray → List (S33) → Option (Bool)
 | 0, _, _, _, _, _, _ => none
 | k + 1, x1, x2, x48, x700, x701, x702 => if x48 = true then (some false) else (if x700 = 3 then (impl_typeForm.j3 k x1 x2 x700 x702) else (if (x701.length : Int) > 0 then (some false) else (impl_typeForm.j3 k x1 x2 x700 x702)))
def impl_typeForm.f : Nat → Int → List ByteArray → List (S33) → Bool → Int → Option (Bool)
 | 0, _, _, _, _, _ => none
 | k + 1, a0_0, l0_1, l0_2, a1, a2 => if -9223372036854775808 ≤ (l0_1.length : Int) then (if (l0_1.length : Int) ≤ 9223372036854775807 then (if -9223372036854775808 ≤ a0_0 then (if a0_0 ≤ 9223372036854775807 then (if a0_0 < 1 then (impl_typeForm.j0 k a1 a2 true a0_0 l0_1 l0_2) else (if a0_0 > 5 then (impl_typeForm.j0 k a1 a2 true a0_0 l0_1 l0_2) else (if a2 > 7 then (impl_typeForm.j0 k a1 a2 true a0_0 l0_1 l0_2) else (impl_typeForm.j0 k a1 a2 ((l0_2.length : Int) != (imPut (imPut (imPut im0 4 1) 5 2) 3 (l0_1.length : Int) a0_0)) a0_0 l0_1 l0_2)))) else (none)) else (none)) else (none)) else (none)
end
set_option maxHeartbeats 8000000 in
set_option maxRecDepth 100000 in
theorem impl_typeForm.calls (k : Nat) : ∀ (ad0 : Addr) (a0_0 : Int) (A0_1 : Option Addr) (c0_1 : Nat) (l0_1 : List ByteArray) (A0_2 : Option Addr) (c0_2 : Nat) (l0_2 : List (S33)) (a1 : Bool) (a2 : Int) (r : Bool) (w : World) (hp0 : Cells w ad0 [.int .i64 a0_0, .slice A0_1 l0_1.length c0_1, .slice A0_2 l0_2.length c0_2]) (hr0_1 : Kd.C Kd.string w A0_1 l0_1.length l0_1) (hc0_1 : l0_1.length ≤ c0_1) (hr0_2 : Kd.C k33 w A0_2 l0_2.length l0_2) (hc0_2 : l0_2.length ≤ c0_2) (h : impl_typeForm.f k a0_0 l0_1 l0_2 a1 a2 = some r),
  Calls Tryd.prog 70 #[.pointer (some ad0), .bool a1, .int .i64 a2] w fun e w' => e = .returned (.bool r) ∧ Below w.heap.size w w' := by
 induction k using Nat.strongRecOn with
 | _ k ih =>
 intro ad0 a0_0 A0_1 c0_1 l0_1 A0_2 c0_2 l0_2 a1 a2 r w hp0 hr0_1 hc0_1 hr0_2 hc0_2 h
 cases k with
 | zero => exact absurd h (by simp [impl_typeForm.f])
 | succ k =>
 simp only [impl_typeForm.f] at h
 have HP0 := am hp0
 clear hp0
 have HR0_1 := am hr0_1
 have HC0_1 := am hc0_1
 clear hr0_1 hc0_1
 have HR0_2 := am hr0_2
 have HC0_2 := am hc0_2
 clear hr0_2 hc0_2
 have HB := am (Below.refl w.heap.size w)
 have H : (if -9223372036854775808 ≤ (l0_1.length : Int) then (if (l0_1.length : Int) ≤ 9223372036854775807 then (if -9223372036854775808 ≤ a0_0 then (if a0_0 ≤ 9223372036854775807 then (if a0_0 < 1 then (impl_typeForm.j0 k a1 a2 true a0_0 l0_1 l0_2) else (if a0_0 > 5 then (impl_typeForm.j0 k a1 a2 true a0_0 l0_1 l0_2) else (if a2 > 7 then (impl_typeForm.j0 k a1 a2 true a0_0 l0_1 l0_2) else (impl_typeForm.j0 k a1 a2 ((l0_2.length : Int) != (imPut (imPut (imPut im0 4 1) 5 2) 3 (l0_1.length : Int) a0_0)) a0_0 l0_1 l0_2)))) else (none)) else (none)) else (none)) else (none)) = some r := h
 clear h
 by_cases c4 : -9223372036854775808 ≤ (l0_1.length : Int)
 case neg =>
  rw [if_neg c4] at H
  exact absurd H (by simp)
 rw [if_pos c4] at H
 have c4b0 := eq_true c4
 have c4b1 : decide (-9223372036854775808 ≤ (l0_1.length : Int)) = true := decide_eq_true c4
 clear c4
 by_cases c5 : (l0_1.length : Int) ≤ 9223372036854775807
 case neg =>
  rw [if_neg c5] at H
  exact absurd H (by simp)
 rw [if_pos c5] at H
 have c5b0 := eq_true c5
 have c5b1 : decide ((l0_1.length : Int) ≤ 9223372036854775807) = true := decide_eq_true c5
 try have c5b2 : (9223372036854775807 < (l0_1.length : Int)) = False := eq_false (Nat.not_lt.2 c5)
 clear c5
 by_cases c6 : -9223372036854775808 ≤ a0_0
 case neg =>
  rw [if_neg c6] at H
  exact absurd H (by simp)
 rw [if_pos c6] at H
 have c6b0 := eq_true c6
 have c6b1 : decide (-9223372036854775808 ≤ a0_0) = true := decide_eq_true c6
 clear c6
 by_cases c7 : a0_0 ≤ 9223372036854775807
 case neg =>
  rw [if_neg c7] at H
  exact absurd H (by simp)
 rw [if_pos c7] at H
 have c7b0 := eq_true c7
 have c7b1 : decide (a0_0 ≤ 9223372036854775807) = true := decide_eq_true c7
 try have c7b2 : (9223372036854775807 < a0_0) = False := eq_false (Nat.not_lt.2 c7)
 clear c7
 have HC8 := am H
 clear H
 go_enter Tryd.func70, Tryd.ntmps70
 try go_wp2
 have n0_ := am (below_drew1 blw)
 clear HB
 revert n0_
 intro HB
 try go_wp2
 refine start_ (n := 16) (S := fun w' => w'.cell? ad0 = some (.int .i64 a0_0) ∧ w'.cell? ⟨ad0.block, ad0.off + 1, none⟩ = some (.slice A0_1 l0_1.length c0_1) ∧ w'.cell? ⟨ad0.block, ad0.off + 2, none⟩ = some (.slice A0_2 l0_2.length c0_2)) (ds := []) #[false,false,false,false,false,false,false,false,false,false,false,false,false,false,false,false] kr rfl rfl ⟨pw_cell_below HB.out (HP0.out.1), pw_cell_below HB.out (HP0.out.2.1), pw_cell_below HB.out (HP0.out.2.2.1)⟩ (fun hHeld => ?_)
 generalize w.drew = w9 at HB hHeld ⊢
 refine pure_ (i := 3) (N := (some 11)) (v := ?_) (a' := ?_) (bm 16 8) rfl rfl kr qi (Or.inl ⟨by rfl, ?_⟩) ?_ ?_
 rotate_left
 ·intro w'
  go_simp
  with_reducible rfl
 rotate_left
 ·simp only [sx]
  rfl
 refine pure_ (i := 4) (N := (some 12)) (v := ?_) (a' := ?_) (bm 16 24) rfl rfl kr qi (Or.inl ⟨by rfl, ?_⟩) ?_ ?_
 rotate_left
 ·intro w'
  go_simp
  with_reducible rfl
 rotate_left
 ·simp only [sx]
  rfl
 refine pure_ (i := 5) (N := (some 13)) (v := ?_) (a' := ?_) (bm 16 56) rfl rfl kr qi (Or.inl ⟨by rfl, ?_⟩) ?_ ?_
 rotate_left
 ·intro w'
  go_simp
  with_reducible rfl
 rotate_left
 ·simp only [sx]
  rfl
 refine take_ (i := 6) (N := (some 14)) (v := ?_) (a' := ?_) (bm 16 120) rfl rfl kr qi (Or.inl ⟨by rfl, ?_⟩) hHeld ?_ ?_
 rotate_left
 ·rintro w' ⟨s0, s1, s2⟩
  go_simp
  with_reducible rfl
 rotate_left
 ·simp only [sx]
  rfl
 refine pure_ (i := 7) (N := (some 15)) (v := ?_) (a' := ?_) (bm 16 248) rfl rfl kr qi (Or.inl ⟨by rfl, ?_⟩) ?_ ?_
 rotate_left
 ·intro w'
  go_simp
  with_reducible rfl
 rotate_left
 ·simp only [sx]
  rfl
 refine pure_ (i := 10) (N := (some 17)) (v := ?_) (a' := ?_) (bm 16 1272) rfl rfl kr qi (Or.inl ⟨by rfl, ?_⟩) ?_ ?_
 rotate_left
 ·intro w'
  go_simp
  with_reducible rfl
 rotate_left
 ·simp only [sx]
  rfl
 refine pure_ (i := 11) (N := (some 18)) (v := ?_) (a' := ?_) (bm 16 3320) rfl rfl kr qi (Or.inl ⟨by rfl, ?_⟩) ?_ ?_
 rotate_left
 ·intro w'
  go_simp
  with_reducible rfl
 rotate_left
 ·simp only [sx]
  rfl
 refine pure_ (i := 12) (N := (some 19)) (v := ?_) (a' := ?_) (bm 16 7416) rfl rfl kr qi (Or.inl ⟨by rfl, ?_⟩) ?_ ?_
 rotate_left
 ·intro w'
  go_simp
  with_reducible rfl
 rotate_left
 ·simp only [sx]
  rfl
 refine take_ (i := 13) (N := (some 20)) (v := ?_) (a' := ?_) (bm 16 15608) rfl rfl kr qi (Or.inl ⟨by rfl, ?_⟩) hHeld ?_ ?_
 rotate_left
 ·rintro w' ⟨s0, s1, s2⟩
  go_simp
  with_reducible rfl
 rotate_left
 ·simp only [sx]
  rfl
 refine one_ (i := 0) (N := (some 10)) (bm 16 15609) rfl rfl kr (by decide) (fun K hK => ?_)
 refine imm_one (t := 96) (by rfl) rfl rfl 3 3 ?_
 intro gm322 w10 hg him hb
 have GM := am (by rw [hg]; exact (below_size HB.out) : w.heap.size ≤ gm322)
 have n0_ := am (below_step HB.out hb)
 clear HB
 have HB := n0_
 have HM321 := am him
 clear n0_ him hb hg hHeld
 refine hK.out _ _ ⟨pw_cell_below HB.out (HP0.out.1), pw_cell_below HB.out (HP0.out.2.1), pw_cell_below HB.out (HP0.out.2.2.1)⟩ (fun hHeld => ?_)
 clear hK K
 refine norm_ (a' := ?_) ?_ ?_
 rotate_left
 ·show Act.put _ (some 10) _ = _
  simp only [sx]
  rfl
 refine join_ (σ := Unit) 3 #[true,true,true,true,true,true,true,true,true,false,true,true,true,true,false,false] (fun _ => []) (fun _ w' => Aside0 (IMap Tryd.prog 3 3 w' gm322 3 (imPut (imPut (imPut im0 4 1) 5 2) 3 (l0_1.length : Int))) ∧ Aside0 (Below w.heap.size w w')) (fun _ w11 hF => ?_) (fun hJ => ?_)
 rotate_left
 ·refine three_ (i := 1) (j := 2) (k := 8) (Ni := none) (Nj := none) (Nk := none) #[true,true,false,true,true,true,true,true,false,false,true,true,true,true,false,false] #[true,false,true,true,true,true,true,true,false,false,true,true,true,true,false,false] #[true,false,false,true,true,true,true,true,true,false,true,true,true,true,false,false] rfl rfl rfl rfl rfl rfl kr (by decide) (by decide) (by decide) (fun K hK => ?_) (fun K hK => ?_) (fun K hK => ?_)
  ·refine imput_one (by rfl) rfl rfl Tryd.underlying96 Tryd.underlying3 Tryd.underlying3 rfl HM321.out (by decide) 4 1 rfl rfl (by decide) (by decide) ?_
   intro w12 him hg
   have n0_ := am (pw_below_grown HB.out _ (below_size HB.out) hg (fun k_ e_ => by injection e_ with e_; rw [← e_]; exact GM.out))
   clear HB HM321
   have HB := n0_
   have HM321 := am him
   clear n0_ him hg hHeld
   refine hK.out _ _ ⟨pw_cell_below HB.out (HP0.out.1), pw_cell_below HB.out (HP0.out.2.1), pw_cell_below HB.out (HP0.out.2.2.1)⟩ (fun hHeld => ?_)
   clear hK K
   refine two_ (i := 2) (j := 8) (Ni := none) (Nj := none) #[true,true,true,true,true,true,true,true,false,false,true,true,true,true,false,false] #[true,true,false,true,true,true,true,true,true,false,true,true,true,true,false,false] rfl rfl rfl rfl kr (by decide) (by decide) (fun K hK => ?_) (fun K hK => ?_)
   ·refine imput_one (by rfl) rfl rfl Tryd.underlying96 Tryd.underlying3 Tryd.underlying3 rfl HM321.out (by decide) 5 2 rfl rfl (by decide) (by decide) ?_
    intro w13 him hg
    have n0_ := am (pw_below_grown HB.out _ (below_size HB.out) hg (fun k_ e_ => by injection e_ with e_; rw [← e_]; exact GM.out))
    clear HB HM321
    have HB := n0_
    have HM321 := am him
    clear n0_ him hg hHeld
    refine hK.out _ _ ⟨pw_cell_below HB.out (HP0.out.1), pw_cell_below HB.out (HP0.out.2.1), pw_cell_below HB.out (HP0.out.2.2.1)⟩ (fun hHeld => ?_)
    clear hK K
    refine one_ (i := 8) (N := none) (bm 16 15871) rfl rfl kr (by decide) (fun K hK => ?_)
    refine imput_one (by rfl) rfl rfl Tryd.underlying96 Tryd.underlying3 Tryd.underlying3 rfl HM321.out (by decide) 3 (l0_1.length : Int) rfl rfl (by decide) (WalkArith.wf_i64 ⟨of_decide_eq_true asw, of_decide_eq_true asw⟩) ?_
    intro w14 him hg
    have n0_ := am (pw_below_grown HB.out _ (below_size HB.out) hg (fun k_ e_ => by injection e_ with e_; rw [← e_]; exact GM.out))
    clear HB HM321
    have HB := n0_
    have HM321 := am him
    clear n0_ him hg hHeld
    refine hK.out _ _ ⟨pw_cell_below HB.out (HP0.out.1), pw_cell_below HB.out (HP0.out.2.1), pw_cell_below HB.out (HP0.out.2.2.1)⟩ (fun hHeld => ?_)
    clear hK K
    exact hJ () _ ⟨⟨IMap.congr HM321.out (fun c_ => by first | rfl | (simp only [imPut]; (repeat' split) <;> first | rfl | omega))⟩, HB⟩
   ·refine imput_one (by rfl) rfl rfl Tryd.underlying96 Tryd.underlying3 Tryd.underlying3 rfl HM321.out (by decide) 3 (l0_1.length : Int) rfl rfl (by decide) (WalkArith.wf_i64 ⟨of_decide_eq_true asw, of_decide_eq_true asw⟩) ?_
    intro w15 him hg
    have n0_ := am (pw_below_grown HB.out _ (below_size HB.out) hg (fun k_ e_ => by injection e_ with e_; rw [← e_]; exact GM.out))
    clear HB HM321
    have HB := n0_
    have HM321 := am him
    clear n0_ him hg hHeld
    refine hK.out _ _ ⟨pw_cell_below HB.out (HP0.out.1), pw_cell_below HB.out (HP0.out.2.1), pw_cell_below HB.out (HP0.out.2.2.1)⟩ (fun hHeld => ?_)
    clear hK K
    refine one_ (i := 2) (N := none) (bm 16 15871) rfl rfl kr (by decide) (fun K hK => ?_)
    refine imput_one (by rfl) rfl rfl Tryd.underlying96 Tryd.underlying3 Tryd.underlying3 rfl HM321.out (by decide) 5 2 rfl rfl (by decide) (by decide) ?_
    intro w16 him hg
    have n0_ := am (pw_below_grown HB.out _ (below_size HB.out) hg (fun k_ e_ => by injection e_ with e_; rw [← e_]; exact GM.out))
    clear HB HM321
    have HB := n0_
    have HM321 := am him
    clear n0_ him hg hHeld
    refine hK.out _ _ ⟨pw_cell_below HB.out (HP0.out.1), pw_cell_below HB.out (HP0.out.2.1), pw_cell_below HB.out (HP0.out.2.2.1)⟩ (fun hHeld => ?_)
    clear hK K
    exact hJ () _ ⟨⟨IMap.congr HM321.out (fun c_ => by first | rfl | (simp only [imPut]; (repeat' split) <;> first | rfl | omega))⟩, HB⟩
  ·refine imput_one (by rfl) rfl rfl Tryd.underlying96 Tryd.underlying3 Tryd.underlying3 rfl HM321.out (by decide) 5 2 rfl rfl (by decide) (by decide) ?_
   intro w17 him hg
   have n0_ := am (pw_below_grown HB.out _ (below_size HB.out) hg (fun k_ e_ => by injection e_ with e_; rw [← e_]; exact GM.out))
   clear HB HM321
   have HB := n0_
   have HM321 := am him
   clear n0_ him hg hHeld
   refine hK.out _ _ ⟨pw_cell_below HB.out (HP0.out.1), pw_cell_below HB.out (HP0.out.2.1), pw_cell_below HB.out (HP0.out.2.2.1)⟩ (fun hHeld => ?_)
   clear hK K
   refine two_ (i := 1) (j := 8) (Ni := none) (Nj := none) #[true,true,true,true,true,true,true,true,false,false,true,true,true,true,false,false] #[true,false,true,true,true,true,true,true,true,false,true,true,true,true,false,false] rfl rfl rfl rfl kr (by decide) (by decide) (fun K hK => ?_) (fun K hK => ?_)
   ·refine imput_one (by rfl) rfl rfl Tryd.underlying96 Tryd.underlying3 Tryd.underlying3 rfl HM321.out (by decide) 4 1 rfl rfl (by decide) (by decide) ?_
    intro w18 him hg
    have n0_ := am (pw_below_grown HB.out _ (below_size HB.out) hg (fun k_ e_ => by injection e_ with e_; rw [← e_]; exact GM.out))
    clear HB HM321
    have HB := n0_
    have HM321 := am him
    clear n0_ him hg hHeld
    refine hK.out _ _ ⟨pw_cell_below HB.out (HP0.out.1), pw_cell_below HB.out (HP0.out.2.1), pw_cell_below HB.out (HP0.out.2.2.1)⟩ (fun hHeld => ?_)
    clear hK K
    refine one_ (i := 8) (N := none) (bm 16 15871) rfl rfl kr (by decide) (fun K hK => ?_)
    refine imput_one (by rfl) rfl rfl Tryd.underlying96 Tryd.underlying3 Tryd.underlying3 rfl HM321.out (by decide) 3 (l0_1.length : Int) rfl rfl (by decide) (WalkArith.wf_i64 ⟨of_decide_eq_true asw, of_decide_eq_true asw⟩) ?_
    intro w19 him hg
    have n0_ := am (pw_below_grown HB.out _ (below_size HB.out) hg (fun k_ e_ => by injection e_ with e_; rw [← e_]; exact GM.out))
    clear HB HM321
    have HB := n0_
    have HM321 := am him
    clear n0_ him hg hHeld
    refine hK.out _ _ ⟨pw_cell_below HB.out (HP0.out.1), pw_cell_below HB.out (HP0.out.2.1), pw_cell_below HB.out (HP0.out.2.2.1)⟩ (fun hHeld => ?_)
    clear hK K
    exact hJ () _ ⟨⟨IMap.congr HM321.out (fun c_ => by first | rfl | (simp only [imPut]; (repeat' split) <;> first | rfl | omega))⟩, HB⟩
   ·refine imput_one (by rfl) rfl rfl Tryd.underlying96 Tryd.underlying3 Tryd.underlying3 rfl HM321.out (by decide) 3 (l0_1.length : Int) rfl rfl (by decide) (WalkArith.wf_i64 ⟨of_decide_eq_true asw, of_decide_eq_true asw⟩) ?_
    intro w20 him hg
    have n0_ := am (pw_below_grown HB.out _ (below_size HB.out) hg (fun k_ e_ => by injection e_ with e_; rw [← e_]; exact GM.out))
    clear HB HM321
    have HB := n0_
    have HM321 := am him
    clear n0_ him hg hHeld
    refine hK.out _ _ ⟨pw_cell_below HB.out (HP0.out.1), pw_cell_below HB.out (HP0.out.2.1), pw_cell_below HB.out (HP0.out.2.2.1)⟩ (fun hHeld => ?_)
    clear hK K
    refine one_ (i := 1) (N := none) (bm 16 15871) rfl rfl kr (by decide) (fun K hK => ?_)
    refine imput_one (by rfl) rfl rfl Tryd.underlying96 Tryd.underlying3 Tryd.underlying3 rfl HM321.out (by decide) 4 1 rfl rfl (by decide) (by decide) ?_
    intro w21 him hg
    have n0_ := am (pw_below_grown HB.out _ (below_size HB.out) hg (fun k_ e_ => by injection e_ with e_; rw [← e_]; exact GM.out))
    clear HB HM321
    have HB := n0_
    have HM321 := am him
    clear n0_ him hg hHeld
    refine hK.out _ _ ⟨pw_cell_below HB.out (HP0.out.1), pw_cell_below HB.out (HP0.out.2.1), pw_cell_below HB.out (HP0.out.2.2.1)⟩ (fun hHeld => ?_)
    clear hK K
    exact hJ () _ ⟨⟨IMap.congr HM321.out (fun c_ => by first | rfl | (simp only [imPut]; (repeat' split) <;> first | rfl | omega))⟩, HB⟩
  ·refine imput_one (by rfl) rfl rfl Tryd.underlying96 Tryd.underlying3 Tryd.underlying3 rfl HM321.out (by decide) 3 (l0_1.length : Int) rfl rfl (by decide) (WalkArith.wf_i64 ⟨of_decide_eq_true asw, of_decide_eq_true asw⟩) ?_
   intro w22 him hg
   have n0_ := am (pw_below_grown HB.out _ (below_size HB.out) hg (fun k_ e_ => by injection e_ with e_; rw [← e_]; exact GM.out))
   clear HB HM321
   have HB := n0_
   have HM321 := am him
   clear n0_ him hg hHeld
   refine hK.out _ _ ⟨pw_cell_below HB.out (HP0.out.1), pw_cell_below HB.out (HP0.out.2.1), pw_cell_below HB.out (HP0.out.2.2.1)⟩ (fun hHeld => ?_)
   clear hK K
   refine two_ (i := 1) (j := 2) (Ni := none) (Nj := none) #[true,true,false,true,true,true,true,true,true,false,true,true,true,true,false,false] #[true,false,true,true,true,true,true,true,true,false,true,true,true,true,false,false] rfl rfl rfl rfl kr (by decide) (by decide) (fun K hK => ?_) (fun K hK => ?_)
   ·refine imput_one (by rfl) rfl rfl Tryd.underlying96 Tryd.underlying3 Tryd.underlying3 rfl HM321.out (by decide) 4 1 rfl rfl (by decide) (by decide) ?_
    intro w23 him hg
    have n0_ := am (pw_below_grown HB.out _ (below_size HB.out) hg (fun k_ e_ => by injection e_ with e_; rw [← e_]; exact GM.out))
    clear HB HM321
    have HB := n0_
    have HM321 := am him
    clear n0_ him hg hHeld
    refine hK.out _ _ ⟨pw_cell_below HB.out (HP0.out.1), pw_cell_below HB.out (HP0.out.2.1), pw_cell_below HB.out (HP0.out.2.2.1)⟩ (fun hHeld => ?_)
    clear hK K
    refine one_ (i := 2) (N := none) (bm 16 15871) rfl rfl kr (by decide) (fun K hK => ?_)
    refine imput_one (by rfl) rfl rfl Tryd.underlying96 Tryd.underlying3 Tryd.underlying3 rfl HM321.out (by decide) 5 2 rfl rfl (by decide) (by decide) ?_
    intro w24 him hg
    have n0_ := am (pw_below_grown HB.out _ (below_size HB.out) hg (fun k_ e_ => by injection e_ with e_; rw [← e_]; exact GM.out))
    clear HB HM321
    have HB := n0_
    have HM321 := am him
    clear n0_ him hg hHeld
    refine hK.out _ _ ⟨pw_cell_below HB.out (HP0.out.1), pw_cell_below HB.out (HP0.out.2.1), pw_cell_below HB.out (HP0.out.2.2.1)⟩ (fun hHeld => ?_)
    clear hK K
    exact hJ () _ ⟨⟨IMap.congr HM321.out (fun c_ => by first | rfl | (simp only [imPut]; (repeat' split) <;> first | rfl | omega))⟩, HB⟩
   ·refine imput_one (by rfl) rfl rfl Tryd.underlying96 Tryd.underlying3 Tryd.underlying3 rfl HM321.out (by decide) 5 2 rfl rfl (by decide) (by decide) ?_
    intro w25 him hg
    have n0_ := am (pw_below_grown HB.out _ (below_size HB.out) hg (fun k_ e_ => by injection e_ with e_; rw [← e_]; exact GM.out))
    clear HB HM321
    have HB := n0_
    have HM321 := am him
    clear n0_ him hg hHeld
    refine hK.out _ _ ⟨pw_cell_below HB.out (HP0.out.1), pw_cell_below HB.out (HP0.out.2.1), pw_cell_below HB.out (HP0.out.2.2.1)⟩ (fun hHeld => ?_)
    clear hK K
    refine one_ (i := 1) (N := none) (bm 16 15871) rfl rfl kr (by decide) (fun K hK => ?_)
    refine imput_one (by rfl) rfl rfl Tryd.underlying96 Tryd.underlying3 Tryd.underlying3 rfl HM321.out (by decide) 4 1 rfl rfl (by decide) (by decide) ?_
    intro w26 him hg
    have n0_ := am (pw_below_grown HB.out _ (below_size HB.out) hg (fun k_ e_ => by injection e_ with e_; rw [← e_]; exact GM.out))
    clear HB HM321
    have HB := n0_
    have HM321 := am him
    clear n0_ him hg hHeld
    refine hK.out _ _ ⟨pw_cell_below HB.out (HP0.out.1), pw_cell_below HB.out (HP0.out.2.1), pw_cell_below HB.out (HP0.out.2.2.1)⟩ (fun hHeld => ?_)
    clear hK K
    exact hJ () _ ⟨⟨IMap.congr HM321.out (fun c_ => by first | rfl | (simp only [imPut]; (repeat' split) <;> first | rfl | omega))⟩, HB⟩
 clear HB HM321
 obtain ⟨HM321, HB⟩ := hF
 have hHeld : w11.cell? ad0 = some (.int .i64 a0_0) ∧ w11.cell? ⟨ad0.block, ad0.off + 1, none⟩ = some (.slice A0_1 l0_1.length c0_1) ∧ w11.cell? ⟨ad0.block, ad0.off + 2, none⟩ = some (.slice A0_2 l0_2.length c0_2) := ⟨pw_cell_below HB.out (HP0.out.1), pw_cell_below HB.out (HP0.out.2.1), pw_cell_below HB.out (HP0.out.2.2.1)⟩
 simp only [putAll]
 refine pure_ (i := 9) (N := (some 16)) (v := ?_) (a' := ?_) (bm 16 16383) rfl rfl kr qi (Or.inl ⟨by rfl, ?_⟩) ?_ ?_
 rotate_left
 ·intro w'
  go_simp
  with_reducible rfl
 rotate_left
 ·simp only [sx]
  rfl
 refine one_ (i := 14) (N := (some 21)) (bm 16 32767) rfl rfl kr (by decide) (fun K hK => ?_)
 refine imget_one (by rfl) rfl rfl Tryd.underlying96 Tryd.underlying3 Tryd.underlying3 zero3 rfl HM321.out a0_0 rfl (WalkArith.wf_i64 ⟨of_decide_eq_true asw, of_decide_eq_true asw⟩) ?_
 refine hK.out _ _ hHeld (fun hHeld => ?_)
 clear hK K
 refine norm_ (a' := ?_) ?_ ?_
 rotate_left
 ·show Act.put _ (some 21) _ = _
  simp only [sx]
  rfl
 refine pure_ (i := 15) (N := (some 7)) (v := ?_) (a' := ?_) (bm 16 65535) rfl rfl kr qi (Or.inl ⟨by rfl, ?_⟩) ?_ ?_
 rotate_left
 ·intro w'
  go_simp
  with_reducible rfl
 rotate_left
 ·simp only [sx]
  rfl
 refine done_ kr ?_
 clear hHeld GM HM321
 have hxr27_0 : w11.cell? ad0 = some (.int .i64 a0_0) := pw_cell_below HB.out (HP0.out.1)
 have hxr27_1 : w11.cell? ⟨ad0.block, ad0.off + 1, none⟩ = some (.slice A0_1 l0_1.length c0_1) := pw_cell_below HB.out (HP0.out.2.1)
 have hxr27_2 : w11.cell? ⟨ad0.block, ad0.off + 2, none⟩ = some (.slice A0_2 l0_2.length c0_2) := pw_cell_below HB.out (HP0.out.2.2.1)
 go_upto_block 0 with (fail)
 repeat (go_quiet (fail); go_upto_block 0 with (fail))
 go_cut [] (fun wc => ∃ (kq : Nat), Aside0 (impl_typeForm.j3 kq a1 a2 a0_0 l0_2 = some r) ∧ Aside0 (kq ≤ k) ∧ Aside0 (Below w.heap.size w wc))
 case first =>
  have H := HC8.out
  clear HC8
  have HC28 := am H
  clear H
  go_upto_region 2 with (fail)
  repeat (go_quiet (fail); go_upto_region 2 with (fail))
  go_cut [22] (fun v22 wc => ∃ (kq : Nat) (x22_27 : Bool), v22 = .bool x22_27 ∧ Aside0 (impl_typeForm.j0 kq a1 a2 x22_27 a0_0 l0_1 l0_2 = some r) ∧ Aside0 (kq ≤ k) ∧ Aside0 (Below w.heap.size w wc))
  case first =>
   have H := HC28.out
   clear HC28
   by_cases c29 : a0_0 < 1
   ·rw [if_pos c29] at H
    have c29b0 : decide (a0_0 < 1) = true := decide_eq_true c29
    clear c29
    (first | rw [c29b0] | (simp only [i64_w, i32_w]; rw [c29b0]) | skip)
    have H' := am H
    clear H
    have hxr30_0 : w11.cell? ad0 = some (.int .i64 a0_0) := pw_cell_below HB.out (HP0.out.1)
    have hxr30_1 : w11.cell? ⟨ad0.block, ad0.off + 1, none⟩ = some (.slice A0_1 l0_1.length c0_1) := pw_cell_below HB.out (HP0.out.2.1)
    have hxr30_2 : w11.cell? ⟨ad0.block, ad0.off + 2, none⟩ = some (.slice A0_2 l0_2.length c0_2) := pw_cell_below HB.out (HP0.out.2.2.1)
    go_wp2
    repeat (go_quiet (fail); try go_wp2)
    go_meet
    case rel => exact ⟨_, (true), rfs, H', ⟨by first | omega | exact Nat.le_refl _⟩, ⟨blw⟩⟩
   rw [if_neg c29] at H
   have c29b0 : decide (a0_0 < 1) = false := decide_eq_false c29
   clear c29
   (first | rw [c29b0] | (simp only [i64_w, i32_w]; rw [c29b0]) | skip)
   by_cases c31 : a0_0 > 5
   ·rw [if_pos c31] at H
    have c31b0 : decide (5 < a0_0) = true := decide_eq_true c31
    clear c31
    have H' := am H
    clear H
    have hxr32_0 : w11.cell? ad0 = some (.int .i64 a0_0) := pw_cell_below HB.out (HP0.out.1)
    have hxr32_1 : w11.cell? ⟨ad0.block, ad0.off + 1, none⟩ = some (.slice A0_1 l0_1.length c0_1) := pw_cell_below HB.out (HP0.out.2.1)
    have hxr32_2 : w11.cell? ⟨ad0.block, ad0.off + 2, none⟩ = some (.slice A0_2 l0_2.length c0_2) := pw_cell_below HB.out (HP0.out.2.2.1)
    go_wp2
    repeat (go_quiet (fail); try go_wp2)
    go_meet
    case rel => exact ⟨_, (true), rfs, H', ⟨by first | omega | exact Nat.le_refl _⟩, ⟨blw⟩⟩
   rw [if_neg c31] at H
   have c31b0 : decide (5 < a0_0) = false := decide_eq_false c31
   clear c31
   by_cases c33 : a2 > 7
   ·rw [if_pos c33] at H
    have c33b0 : decide (7 < a2) = true := decide_eq_true c33
    clear c33
    have H' := am H
    clear H
    have hxr34_0 : w11.cell? ad0 = some (.int .i64 a0_0) := pw_cell_below HB.out (HP0.out.1)
    have hxr34_1 : w11.cell? ⟨ad0.block, ad0.off + 1, none⟩ = some (.slice A0_1 l0_1.length c0_1) := pw_cell_below HB.out (HP0.out.2.1)
    have hxr34_2 : w11.cell? ⟨ad0.block, ad0.off + 2, none⟩ = some (.slice A0_2 l0_2.length c0_2) := pw_cell_below HB.out (HP0.out.2.2.1)
    go_wp2
    repeat (go_quiet (fail); try go_wp2)
    go_meet
    case rel => exact ⟨_, (true), rfs, H', ⟨by first | omega | exact Nat.le_refl _⟩, ⟨blw⟩⟩
   rw [if_neg c33] at H
   have c33b0 : decide (7 < a2) = false := decide_eq_false c33
   clear c33
   have H' := am H
   clear H
   have hxr35_0 : w11.cell? ad0 = some (.int .i64 a0_0) := pw_cell_below HB.out (HP0.out.1)
   have hxr35_1 : w11.cell? ⟨ad0.block, ad0.off + 1, none⟩ = some (.slice A0_1 l0_1.length c0_1) := pw_cell_below HB.out (HP0.out.2.1)
   have hxr35_2 : w11.cell? ⟨ad0.block, ad0.off + 2, none⟩ = some (.slice A0_2 l0_2.length c0_2) := pw_cell_below HB.out (HP0.out.2.2.1)
   go_wp2
   repeat (go_quiet (fail); try go_wp2)
   go_meet
   case rel => exact ⟨_, (((l0_2.length : Int) != (imPut (imPut (imPut im0 4 1) 5 2) 3 (l0_1.length : Int) a0_0))), rfs, H', ⟨by first | omega | exact Nat.le_refl _⟩, ⟨blw⟩⟩
  case rest =>
   clear HC28
   (try clear c2); (try clear p2); (try clear c3); (try clear c4); (try clear c4b0); (try clear c4b1); (try clear c5); (try clear c5b0); (try clear c5b1); (try clear c5b2); (try clear c6); (try clear c6b0); (try clear c6b1); (try clear c7); (try clear c7b0); (try clear c7b1); (try clear c7b2); (try clear c29); (try clear c29b0); (try clear c31); (try clear c31b0); (try clear c33); (try clear c33b0)
   obtain ⟨kq, x22_27, rfl, HA, HJ27, HB⟩ := hcut
   cases kq with
   | zero => exact absurd HA.out (by simp [impl_typeForm.j0])
   | succ kj27 =>
    have H := HA.out
    clear HA
    simp only [impl_typeForm.j0] at H
    by_cases c36 : x22_27 = true
    ·subst c36
     have H1 : (some false) = some r := by rw [if_pos rfl] at H; exact H
     clear H
     have H := H1
     clear H1
     obtain rfl := Option.some.inj H
     go_wp2
     repeat (go_quiet (fail); try go_wp2)
     go_ret
     exact ⟨rfw, blw⟩
    replace c36 := Bool.eq_false_iff.mpr c36
    subst c36
    have H1 : (if a0_0 = 5 then (impl_typeForm.j1 kj27 a1 a2 a1 a0_0 l0_1 l0_2) else (impl_typeForm.j1 kj27 a1 a2 false a0_0 l0_1 l0_2)) = some r := by rw [if_neg (show ¬ (false = true) by decide)] at H; exact H
    clear H
    have H := H1
    clear H1
    have HC37 := am H
    clear H
    go_upto_region 4 with (fail)
    repeat (go_quiet (fail); go_upto_region 4 with (fail))
    go_cut [48] (fun v48 wc => ∃ (kq : Nat) (x48_36 : Bool), v48 = .bool x48_36 ∧ Aside0 (impl_typeForm.j1 kq a1 a2 x48_36 a0_0 l0_1 l0_2 = some r) ∧ Aside0 (kq ≤ kj27) ∧ Aside0 (Below w.heap.size w wc))
    case first =>
     have H := HC37.out
     clear HC37
     by_cases c38 : a0_0 = 5
     case neg =>
      rw [if_neg c38] at H
      have c38b0 : (a0_0 == 5) = false := beq_eq_false_iff_ne.mpr c38
      have c38b1 : (a0_0 != 5) = true := bne_iff_ne.mpr c38
      (first | rw [c38b0] | (simp only [i64_w, i32_w]; rw [c38b0]) | (rw [c38b1]; (try simp only [Bool.not_true, Bool.not_false])) | skip)
      have H' := am H
      clear H
      have hxr40_0 : wc.cell? ad0 = some (.int .i64 a0_0) := pw_cell_below HB.out (HP0.out.1)
      have hxr40_1 : wc.cell? ⟨ad0.block, ad0.off + 1, none⟩ = some (.slice A0_1 l0_1.length c0_1) := pw_cell_below HB.out (HP0.out.2.1)
      have hxr40_2 : wc.cell? ⟨ad0.block, ad0.off + 2, none⟩ = some (.slice A0_2 l0_2.length c0_2) := pw_cell_below HB.out (HP0.out.2.2.1)
      go_wp2
      repeat (go_quiet (fail); try go_wp2)
      go_meet
      case rel => exact ⟨_, (false), rfs, H', ⟨by have := HJ27.out; first | omega | exact Nat.le_refl _⟩, ⟨blw⟩⟩
     rw [if_pos c38] at H
     have c38b0 : (a0_0 == 5) = true := beq_iff_eq.mpr c38
     have c38b1 : (a0_0 != 5) = false := bne_eq_false_iff_eq.mpr c38
     clear c38
     (first | rw [c38b0] | (simp only [i64_w, i32_w]; rw [c38b0]) | (rw [c38b1]; (try simp only [Bool.not_true, Bool.not_false])) | skip)
     have H' := am H
     clear H
     have hxr39_0 : wc.cell? ad0 = some (.int .i64 a0_0) := pw_cell_below HB.out (HP0.out.1)
     have hxr39_1 : wc.cell? ⟨ad0.block, ad0.off + 1, none⟩ = some (.slice A0_1 l0_1.length c0_1) := pw_cell_below HB.out (HP0.out.2.1)
     have hxr39_2 : wc.cell? ⟨ad0.block, ad0.off + 2, none⟩ = some (.slice A0_2 l0_2.length c0_2) := pw_cell_below HB.out (HP0.out.2.2.1)
     go_wp2
     repeat (go_quiet (fail); try go_wp2)
     go_meet
     case rel => exact ⟨_, (a1), rfs, H', ⟨by have := HJ27.out; first | omega | exact Nat.le_refl _⟩, ⟨blw⟩⟩
    case rest =>
     clear HC37
     (try clear c2); (try clear p2 p2); (try clear c3); (try clear c4); (try clear c4b0); (try clear c4b1); (try clear c5); (try clear c5b0); (try clear c5b1); (try clear c5b2); (try clear c6); (try clear c6b0); (try clear c6b1); (try clear c7); (try clear c7b0); (try clear c7b1); (try clear c7b2); (try clear c29); (try clear c29b0); (try clear c31); (try clear c31b0); (try clear c33); (try clear c33b0); (try clear c36); (try clear c38); (try clear c38b0); (try clear c38b1)
     obtain ⟨kq, x48_36, rfl, HA, HJ36, HB⟩ := hcut
     cases kq with
     | zero => exact absurd HA.out (by simp [impl_typeForm.j1])
     | succ kj36 =>
      have H := HA.out
      clear HA
      simp only [impl_typeForm.j1] at H
      by_cases c41 : x48_36 = true
      ·subst c41
       have H1 : (some false) = some r := by rw [if_pos rfl] at H; exact H
       clear H
       have H := H1
       clear H1
       obtain rfl := Option.some.inj H
       go_wp2
       repeat (go_quiet (fail); try go_wp2)
       go_ret
       exact ⟨rfw, blw⟩
      replace c41 := Bool.eq_false_iff.mpr c41
      subst c41
      have H1 : (if a0_0 = 3 then ((impl_labelsOk.f kj36 l0_1).bind fun t323 => (impl_typeForm.j2 kj36 a1 a2 (!t323) a0_0 l0_1 l0_2)) else (impl_typeForm.j2 kj36 a1 a2 false a0_0 l0_1 l0_2)) = some r := by rw [if_neg (show ¬ (false = true) by decide)] at H; exact H
      clear H
      have H := H1
      clear H1
      have HC42 := am H
      clear H
      go_upto_region 5 with (fail)
      repeat (go_quiet (fail); go_upto_region 5 with (fail))
      go_cut [48] (fun v48 wc => ∃ (kq : Nat) (x48_41 : Bool), v48 = .bool x48_41 ∧ Aside0 (impl_typeForm.j2 kq a1 a2 x48_41 a0_0 l0_1 l0_2 = some r) ∧ Aside0 (kq ≤ kj36) ∧ Aside0 (Below w.heap.size w wc))
      case first =>
       have H := HC42.out
       clear HC42
       by_cases c43 : a0_0 = 3
       case neg =>
        rw [if_neg c43] at H
        have c43b0 : (a0_0 == 3) = false := beq_eq_false_iff_ne.mpr c43
        have c43b1 : (a0_0 != 3) = true := bne_iff_ne.mpr c43
        (first | rw [c43b0] | (simp only [i64_w, i32_w]; rw [c43b0]) | (rw [c43b1]; (try simp only [Bool.not_true, Bool.not_false])) | skip)
        have H' := am H
        clear H
        have hxr46_0 : wc.cell? ad0 = some (.int .i64 a0_0) := pw_cell_below HB.out (HP0.out.1)
        have hxr46_1 : wc.cell? ⟨ad0.block, ad0.off + 1, none⟩ = some (.slice A0_1 l0_1.length c0_1) := pw_cell_below HB.out (HP0.out.2.1)
        have hxr46_2 : wc.cell? ⟨ad0.block, ad0.off + 2, none⟩ = some (.slice A0_2 l0_2.length c0_2) := pw_cell_below HB.out (HP0.out.2.2.1)
        go_wp2
        repeat (go_quiet (fail); try go_wp2)
        go_meet
        case rel => exact ⟨_, (false), rfs, H', ⟨by have := HJ27.out; have := HJ36.out; first | omega | exact Nat.le_refl _⟩, ⟨blw⟩⟩
       rw [if_pos c43] at H
       have c43b0 : (a0_0 == 3) = true := beq_iff_eq.mpr c43
       have c43b1 : (a0_0 != 3) = false := bne_eq_false_iff_eq.mpr c43
       clear c43
       (first | rw [c43b0] | (simp only [i64_w, i32_w]; rw [c43b0]) | (rw [c43b1]; (try simp only [Bool.not_true, Bool.not_false])) | skip)
       replace H := Option.bind_eq_some_iff.mp H
       obtain ⟨t323, A440, H⟩ := H
       replace H : (impl_typeForm.j2 kj36 a1 a2 (!t323) a0_0 l0_1 l0_2) = some r := H
       have A44 := am A440
       clear A440
       have H' := am H
       clear H
       have hxr45_0 : wc.cell? ad0 = some (.int .i64 a0_0) := pw_cell_below HB.out (HP0.out.1)
       have hxr45_1 : wc.cell? ⟨ad0.block, ad0.off + 1, none⟩ = some (.slice A0_1 l0_1.length c0_1) := pw_cell_below HB.out (HP0.out.2.1)
       have hxr45_2 : wc.cell? ⟨ad0.block, ad0.off + 2, none⟩ = some (.slice A0_2 l0_2.length c0_2) := pw_cell_below HB.out (HP0.out.2.2.1)
       go_wp2_with (first | (go_at_call 67; (with_reducible refine (impl_labelsOk.calls kj36 _ _ l0_1 t323 _ ?side1 ?side2 A44.out).mono ?_); (case side1 => have X_ := HR0_1; exact cbl); (case side2 => exact HC0_1.out); rintro e w' ⟨rfl, ⟨nd, rfl⟩⟩; (try exact qdw)))
       repeat (go_quiet (first | (go_at_call 67; (with_reducible refine (impl_labelsOk.calls kj36 _ _ l0_1 t323 _ ?side1 ?side2 A44.out).mono ?_); (case side1 => have X_ := HR0_1; exact cbl); (case side2 => exact HC0_1.out); rintro e w' ⟨rfl, ⟨nd, rfl⟩⟩; (try exact qdw))); try go_wp2_with (first | (go_at_call 67; (with_reducible refine (impl_labelsOk.calls kj36 _ _ l0_1 t323 _ ?side1 ?side2 A44.out).mono ?_); (case side1 => have X_ := HR0_1; exact cbl); (case side2 => exact HC0_1.out); rintro e w' ⟨rfl, ⟨nd, rfl⟩⟩; (try exact qdw))))
       go_meet
       case rel => exact ⟨_, (!t323), rfs, H', ⟨by have := HJ27.out; have := HJ36.out; first | omega | exact Nat.le_refl _⟩, ⟨blw⟩⟩
      case rest =>
       clear HC42
       (try clear c2); (try clear p2 p2); (try clear c3); (try clear c4); (try clear c4b0); (try clear c4b1); (try clear c5); (try clear c5b0); (try clear c5b1); (try clear c5b2); (try clear c6); (try clear c6b0); (try clear c6b1); (try clear c7); (try clear c7b0); (try clear c7b1); (try clear c7b2); (try clear c29); (try clear c29b0); (try clear c31); (try clear c31b0); (try clear c33); (try clear c33b0); (try clear c36); (try clear c38); (try clear c38b0); (try clear c38b1); (try clear c41); (try clear c43); (try clear c43b0); (try clear c43b1)
       obtain ⟨kq, x48_41, rfl, HA, HJ41, HB⟩ := hcut
       cases kq with
       | zero => exact absurd HA.out (by simp [impl_typeForm.j2])
       | succ kj41 =>
        have H := HA.out
        clear HA
        simp only [impl_typeForm.j2] at H
        by_cases c47 : x48_41 = true
        ·subst c47
         have H1 : (some false) = some r := by rw [if_pos rfl] at H; exact H
         clear H
         have H := H1
         clear H1
         obtain rfl := Option.some.inj H
         go_wp2
         repeat (go_quiet (fail); try go_wp2)
         go_ret
         exact ⟨rfw, blw⟩
        replace c47 := Bool.eq_false_iff.mpr c47
        subst c47
        have H1 : (if a0_0 = 3 then (impl_typeForm.j3 kj41 a1 a2 a0_0 l0_2) else (if (l0_1.length : Int) > 0 then (some false) else (impl_typeForm.j3 kj41 a1 a2 a0_0 l0_2))) = some r := by rw [if_neg (show ¬ (false = true) by decide)] at H; exact H
        clear H
        have H := H1
        clear H1
        by_cases c48 : a0_0 = 3
        ·rw [if_pos c48] at H
         have c48b0 : (a0_0 == 3) = true := beq_iff_eq.mpr c48
         have c48b1 : (a0_0 != 3) = false := bne_eq_false_iff_eq.mpr c48
         clear c48
         have H' := am H
         clear H
         have hxr49_0 : wc.cell? ad0 = some (.int .i64 a0_0) := pw_cell_below HB.out (HP0.out.1)
         have hxr49_1 : wc.cell? ⟨ad0.block, ad0.off + 1, none⟩ = some (.slice A0_1 l0_1.length c0_1) := pw_cell_below HB.out (HP0.out.2.1)
         have hxr49_2 : wc.cell? ⟨ad0.block, ad0.off + 2, none⟩ = some (.slice A0_2 l0_2.length c0_2) := pw_cell_below HB.out (HP0.out.2.2.1)
         go_wp2
         repeat (go_quiet (fail); try go_wp2)
         go_meet
         case rel => exact ⟨_, H', ⟨by have := HJ27.out; have := HJ36.out; have := HJ41.out; first | omega | exact Nat.le_refl _⟩, ⟨blw⟩⟩
        rw [if_neg c48] at H
        have c48b0 : (a0_0 == 3) = false := beq_eq_false_iff_ne.mpr c48
        have c48b1 : (a0_0 != 3) = true := bne_iff_ne.mpr c48
        by_cases c50 : (l0_1.length : Int) > 0
        ·rw [if_pos c50] at H
         have c50b0 : decide (0 < (l0_1.length : Int)) = true := decide_eq_true c50
         have c50b1 : decide (0 < l0_1.length) = true := decide_eq_true (by omega)
         clear c50
         obtain rfl := Option.some.inj H
         have hxr51_0 : wc.cell? ad0 = some (.int .i64 a0_0) := pw_cell_below HB.out (HP0.out.1)
         have hxr51_1 : wc.cell? ⟨ad0.block, ad0.off + 1, none⟩ = some (.slice A0_1 l0_1.length c0_1) := pw_cell_below HB.out (HP0.out.2.1)
         have hxr51_2 : wc.cell? ⟨ad0.block, ad0.off + 2, none⟩ = some (.slice A0_2 l0_2.length c0_2) := pw_cell_below HB.out (HP0.out.2.2.1)
         go_wp2
         repeat (go_quiet (fail); try go_wp2)
         go_ret
         exact ⟨rfw, blw⟩
        rw [if_neg c50] at H
        have c50b0 : decide (0 < (l0_1.length : Int)) = false := decide_eq_false c50
        have c50b1 : decide (0 < l0_1.length) = false := decide_eq_false (by omega)
        clear c50
        have H' := am H
        clear H
        have hxr52_0 : wc.cell? ad0 = some (.int .i64 a0_0) := pw_cell_below HB.out (HP0.out.1)
        have hxr52_1 : wc.cell? ⟨ad0.block, ad0.off + 1, none⟩ = some (.slice A0_1 l0_1.length c0_1) := pw_cell_below HB.out (HP0.out.2.1)
        have hxr52_2 : wc.cell? ⟨ad0.block, ad0.off + 2, none⟩ = some (.slice A0_2 l0_2.length c0_2) := pw_cell_below HB.out (HP0.out.2.2.1)
        go_wp2
        repeat (go_quiet (fail); try go_wp2)
        go_meet
        case rel => exact ⟨_, H', ⟨by have := HJ27.out; have := HJ36.out; have := HJ41.out; first | omega | exact Nat.le_refl _⟩, ⟨blw⟩⟩
 case rest =>
  clear HC8
  (try clear c2); (try clear p2 p2); (try clear c3); (try clear c4); (try clear c4b0); (try clear c4b1); (try clear c5); (try clear c5b0); (try clear c5b1); (try clear c5b2); (try clear c6); (try clear c6b0); (try clear c6b1); (try clear c7); (try clear c7b0); (try clear c7b1); (try clear c7b2); (try clear c29); (try clear c29b0); (try clear c31); (try clear c31b0); (try clear c33); (try clear c33b0); (try clear c36); (try clear c38); (try clear c38b0); (try clear c38b1); (try clear c41); (try clear c43); (try clear c43b0); (try clear c43b1); (try clear c47); (try clear c48); (try clear c48b0); (try clear c48b1); (try clear c50); (try clear c50b0); (try clear c50b1)
  obtain ⟨kq, HA, HJ7, HB⟩ := hcut
  cases kq with
  | zero => exact absurd HA.out (by simp [impl_typeForm.j3])
  | succ kj7 =>
   have H := HA.out
   clear HA
   simp only [impl_typeForm.j3] at H
   have HC53 := am H
   clear H
   go_upto_region 8 with (fail)
   repeat (go_quiet (fail); go_upto_region 8 with (fail))
   go_cut [8] (fun v8 wc => ∃ (kq : Nat) (x8_52 : Bool), v8 = .bool x8_52 ∧ Aside0 (impl_typeForm.j4 kq a2 x8_52 l0_2 = some r) ∧ Aside0 (kq ≤ kj7) ∧ Aside0 (Below w.heap.size w wc))
   case first =>
    have H := HC53.out
    clear HC53
    by_cases c54 : a1 = true
    ·subst c54
     have H1 : (impl_typeForm.j4 kj7 a2 true l0_2) = some r := by rw [if_pos rfl] at H; exact H
     clear H
     have H := H1
     clear H1
     have H' := am H
     clear H
     go_wp2
     repeat (go_quiet (fail); try go_wp2)
     go_meet
     case rel => exact ⟨_, (true), rfs, H', ⟨by have := HJ7.out; first | omega | exact Nat.le_refl _⟩, ⟨blw⟩⟩
    replace c54 := Bool.eq_false_iff.mpr c54
    subst c54
    have H1 : (if a0_0 = 3 then (impl_typeForm.j4 kj7 a2 true l0_2) else (impl_typeForm.j4 kj7 a2 (a0_0 == 4) l0_2)) = some r := by rw [if_neg (show ¬ (false = true) by decide)] at H; exact H
    clear H
    have H := H1
    clear H1
    by_cases c55 : a0_0 = 3
    case neg =>
     rw [if_neg c55] at H
     have c55b0 : (a0_0 == 3) = false := beq_eq_false_iff_ne.mpr c55
     have c55b1 : (a0_0 != 3) = true := bne_iff_ne.mpr c55
     (first | rw [c55b0] | (simp only [i64_w, i32_w]; rw [c55b0]) | (rw [c55b1]; (try simp only [Bool.not_true, Bool.not_false])) | skip)
     have H' := am H
     clear H
     have hxr57_0 : wc.cell? ad0 = some (.int .i64 a0_0) := pw_cell_below HB.out (HP0.out.1)
     have hxr57_1 : wc.cell? ⟨ad0.block, ad0.off + 1, none⟩ = some (.slice A0_1 l0_1.length c0_1) := pw_cell_below HB.out (HP0.out.2.1)
     have hxr57_2 : wc.cell? ⟨ad0.block, ad0.off + 2, none⟩ = some (.slice A0_2 l0_2.length c0_2) := pw_cell_below HB.out (HP0.out.2.2.1)
     go_wp2
     repeat (go_quiet (fail); try go_wp2)
     go_meet
     case rel => exact ⟨_, ((a0_0 == 4)), rfs, H', ⟨by have := HJ7.out; first | omega | exact Nat.le_refl _⟩, ⟨blw⟩⟩
    rw [if_pos c55] at H
    have c55b0 : (a0_0 == 3) = true := beq_iff_eq.mpr c55
    have c55b1 : (a0_0 != 3) = false := bne_eq_false_iff_eq.mpr c55
    clear c55
    (first | rw [c55b0] | (simp only [i64_w, i32_w]; rw [c55b0]) | (rw [c55b1]; (try simp only [Bool.not_true, Bool.not_false])) | skip)
    have H' := am H
    clear H
    have hxr56_0 : wc.cell? ad0 = some (.int .i64 a0_0) := pw_cell_below HB.out (HP0.out.1)
    have hxr56_1 : wc.cell? ⟨ad0.block, ad0.off + 1, none⟩ = some (.slice A0_1 l0_1.length c0_1) := pw_cell_below HB.out (HP0.out.2.1)
    have hxr56_2 : wc.cell? ⟨ad0.block, ad0.off + 2, none⟩ = some (.slice A0_2 l0_2.length c0_2) := pw_cell_below HB.out (HP0.out.2.2.1)
    go_wp2
    repeat (go_quiet (fail); try go_wp2)
    go_meet
    case rel => exact ⟨_, (true), rfs, H', ⟨by have := HJ7.out; first | omega | exact Nat.le_refl _⟩, ⟨blw⟩⟩
   case rest =>
    clear HC53
    (try clear c2); (try clear p2 p2); (try clear c3); (try clear c4); (try clear c4b0); (try clear c4b1); (try clear c5); (try clear c5b0); (try clear c5b1); (try clear c5b2); (try clear c6); (try clear c6b0); (try clear c6b1); (try clear c7); (try clear c7b0); (try clear c7b1); (try clear c7b2); (try clear c29); (try clear c29b0); (try clear c31); (try clear c31b0); (try clear c33); (try clear c33b0); (try clear c36); (try clear c38); (try clear c38b0); (try clear c38b1); (try clear c41); (try clear c43); (try clear c43b0); (try clear c43b1); (try clear c47); (try clear c48); (try clear c48b0); (try clear c48b1); (try clear c50); (try clear c50b0); (try clear c50b1); (try clear c54); (try clear c55); (try clear c55b0); (try clear c55b1)
    obtain ⟨kq, x8_52, rfl, HA, HJ52, HB⟩ := hcut
    cases kq with
    | zero => exact absurd HA.out (by simp [impl_typeForm.j4])
    | succ kj52 =>
     have H := HA.out
     clear HA
     simp only [impl_typeForm.j4] at H
     have H' := am H
     clear H
     have hxr58_0 : wc.cell? ad0 = some (.int .i64 a0_0) := pw_cell_below HB.out (HP0.out.1)
     have hxr58_1 : wc.cell? ⟨ad0.block, ad0.off + 1, none⟩ = some (.slice A0_1 l0_1.length c0_1) := pw_cell_below HB.out (HP0.out.2.1)
     have hxr58_2 : wc.cell? ⟨ad0.block, ad0.off + 2, none⟩ = some (.slice A0_2 l0_2.length c0_2) := pw_cell_below HB.out (HP0.out.2.2.1)
     go_wp2
     repeat (go_quiet (fail); try go_wp2)
     go_loopg [103] kj52 (fun kq v103 w' => ∃ (x103_3 : Int), v103 = .int .i64 x103_3 ∧ Aside0 (impl_typeForm.l0 kq a2 x8_52 (l0_2.length : Int) x103_3 l0_2 = some r) ∧ Aside0 (kq ≤ kj52) ∧ Aside0 (Below w.heap.size w w'))
     case atStart => exact ⟨(0), rfs, H', ⟨Nat.le_refl _⟩, ⟨blw⟩⟩
     case round =>
      clear H'
      (try clear c2); (try clear p2 p2); (try clear c3); (try clear c4); (try clear c4b0); (try clear c4b1); (try clear c5); (try clear c5b0); (try clear c5b1); (try clear c5b2); (try clear c6); (try clear c6b0); (try clear c6b1); (try clear c7); (try clear c7b0); (try clear c7b1); (try clear c7b2); (try clear c29); (try clear c29b0); (try clear c31); (try clear c31b0); (try clear c33); (try clear c33b0); (try clear c36); (try clear c38); (try clear c38b0); (try clear c38b1); (try clear c41); (try clear c43); (try clear c43b0); (try clear c43b1); (try clear c47); (try clear c48); (try clear c48b0); (try clear c48b1); (try clear c50); (try clear c50b0); (try clear c50b1); (try clear c54); (try clear c55); (try clear c55b0); (try clear c55b1)
      obtain ⟨x103_3, rfl, HA, HK3, HB⟩ := hrel
      cases gk with
      | zero => exact absurd HA.out (by simp [impl_typeForm.l0])
      | succ k3 =>
       have H := HA.out
       clear HA
       simp only [impl_typeForm.l0] at H
       by_cases c59 : x103_3 < (l0_2.length : Int)
       case neg =>
        rw [if_neg c59] at H
        have c59b0 : decide (x103_3 < (l0_2.length : Int)) = false := decide_eq_false c59
        clear c59
        obtain rfl := Option.some.inj H
        go_wp2
        repeat (go_quiet (fail); try go_wp2)
        go_ret
        exact ⟨rfw, blw⟩
       rw [if_pos c59] at H
       have c59b0 : decide (x103_3 < (l0_2.length : Int)) = true := decide_eq_true c59
       clear c59
       by_cases c60 : 0 ≤ x103_3
       case neg =>
        rw [if_neg c60] at H
        exact absurd H (by simp)
       rw [if_pos c60] at H
       have c60b0 : decide (0 ≤ x103_3) = true := decide_eq_true c60
       clear c60
       by_cases c61 : x103_3 < (l0_2.length : Int)
       case neg =>
        rw [if_neg c61] at H
        exact absurd H (by simp)
       rw [if_pos c61] at H
       have c61b0 : decide (x103_3 < (l0_2.length : Int)) = true := decide_eq_true c61
       clear c61
       replace H := Option.bind_eq_some_iff.mp H
       obtain ⟨t325, A620, H⟩ := H
       replace H : (if t325 = true then (impl_typeForm.l0 k3 a2 x8_52 (l0_2.length : Int) (wrap64 (x103_3 + 1)) l0_2) else (some false)) = some r := H
       have A62 := am A620
       clear A620
       have HC63 := am H
       clear H
       have hxr64_0 : wr.cell? ad0 = some (.int .i64 a0_0) := pw_cell_below HB.out (HP0.out.1)
       have hxr64_1 : wr.cell? ⟨ad0.block, ad0.off + 1, none⟩ = some (.slice A0_1 l0_1.length c0_1) := pw_cell_below HB.out (HP0.out.2.1)
       have hxr64_2 : wr.cell? ⟨ad0.block, ad0.off + 2, none⟩ = some (.slice A0_2 l0_2.length c0_2) := pw_cell_below HB.out (HP0.out.2.2.1)
       have p324 : 0 ≤ (x103_3 : Int) := of_decide_eq_true asw
       have q324 : x103_3 < (l0_2.length : Int) := of_decide_eq_true asw
       obtain ⟨ad324, A324_1, c324_1, A324_2, c324_2, e324, hx324_0, hx324_1, hx324_2, hl324_1, hi324_1, hl324_2, hi324_2⟩ := at_T33 HR0_2.out x103_3 p324 q324
       cases e324
       have HP324 := am (show Cells w (ad324.add (x103_3.toNat * 3)) [.int .i64 ((rd_T33 l0_2 x103_3).f0), .slice A324_1 ((rd_T33 l0_2 x103_3).f1).length c324_1, .slice A324_2 ((rd_T33 l0_2 x103_3).f2).length c324_2] from ⟨hx324_0, hx324_1, hx324_2, trivial⟩)
       replace hx324_0 := upw HB.out hx324_0
       replace hx324_1 := upw HB.out hx324_1
       replace hx324_2 := upw HB.out hx324_2
       have HR324_1 := am hi324_1
       have HC324_1 := am hl324_1
       clear hi324_1 hl324_1
       have HR324_2 := am hi324_2
       have HC324_2 := am hl324_2
       clear hi324_2 hl324_2
       replace p324 := eq_true p324
       replace q324 := eq_true q324
       go_upto_if 116 with (first | (go_at_call 70; (with_reducible refine (ih k3 (by have := HJ7.out; have := HJ52.out; have := HK3.out; omega) (ad324.add (x103_3.toNat * 3)) ((rd_T33 l0_2 x103_3).f0) A324_1 c324_1 ((rd_T33 l0_2 x103_3).f1) A324_2 c324_2 ((rd_T33 l0_2 x103_3).f2) x8_52 (wrap64 (a2 + 1)) t325 _ ?side1 ?side2 ?side3 ?side4 ?side5 A62.out).mono ?_); (case side1 => repeat (first | exact (Cells_below HP324.out HB.out) | (with_reducible refine Cells_alloc ?_ _) | (with_reducible refine Cells_drewN ?_ _) | (with_reducible refine Cells_drew ?_))); (case side2 => have X_ := HR324_1; exact cbl); (case side3 => exact HC324_1.out); (case side4 => have X_ := HR324_2; exact cbl); (case side5 => exact HC324_2.out); rintro e w65 ⟨rfl, hb⟩; have n0_ := am (below_step blw hb); clear HB; revert n0_; intro HB; (try clear hb); (try clear hb2); (try clear hk); (try clear hi)))
       repeat (go_quiet (first | (go_at_call 70; (with_reducible refine (ih k3 (by have := HJ7.out; have := HJ52.out; have := HK3.out; omega) (ad324.add (x103_3.toNat * 3)) ((rd_T33 l0_2 x103_3).f0) A324_1 c324_1 ((rd_T33 l0_2 x103_3).f1) A324_2 c324_2 ((rd_T33 l0_2 x103_3).f2) x8_52 (wrap64 (a2 + 1)) t325 _ ?side1 ?side2 ?side3 ?side4 ?side5 A62.out).mono ?_); (case side1 => repeat (first | exact (Cells_below HP324.out HB.out) | (with_reducible refine Cells_alloc ?_ _) | (with_reducible refine Cells_drewN ?_ _) | (with_reducible refine Cells_drew ?_))); (case side2 => have X_ := HR324_1; exact cbl); (case side3 => exact HC324_1.out); (case side4 => have X_ := HR324_2; exact cbl); (case side5 => exact HC324_2.out); rintro e w65 ⟨rfl, hb⟩; have n0_ := am (below_step blw hb); clear HB; revert n0_; intro HB; (try clear hb); (try clear hb2); (try clear hk); (try clear hi))); try go_upto_if 116 with (first | (go_at_call 70; (with_reducible refine (ih k3 (by have := HJ7.out; have := HJ52.out; have := HK3.out; omega) (ad324.add (x103_3.toNat * 3)) ((rd_T33 l0_2 x103_3).f0) A324_1 c324_1 ((rd_T33 l0_2 x103_3).f1) A324_2 c324_2 ((rd_T33 l0_2 x103_3).f2) x8_52 (wrap64 (a2 + 1)) t325 _ ?side1 ?side2 ?side3 ?side4 ?side5 A62.out).mono ?_); (case side1 => repeat (first | exact (Cells_below HP324.out HB.out) | (with_reducible refine Cells_alloc ?_ _) | (with_reducible refine Cells_drewN ?_ _) | (with_reducible refine Cells_drew ?_))); (case side2 => have X_ := HR324_1; exact cbl); (case side3 => exact HC324_1.out); (case side4 => have X_ := HR324_2; exact cbl); (case side5 => exact HC324_2.out); rintro e w65 ⟨rfl, hb⟩; have n0_ := am (below_step blw hb); clear HB; revert n0_; intro HB; (try clear hb); (try clear hb2); (try clear hk); (try clear hi))))
       have H := HC63.out
       clear HC63
       by_cases c66 : t325 = true
       case neg =>
        replace c66 := Bool.eq_false_iff.mpr c66
        subst c66
        have H1 : (some false) = some r := by rw [if_neg (show ¬ (false = true) by decide)] at H; exact H
        clear H
        have H := H1
        clear H1
        obtain rfl := Option.some.inj H
        go_wp2
        repeat (go_quiet (fail); try go_wp2)
        go_ret
        exact ⟨rfw, blw⟩
       subst c66
       have H1 : (impl_typeForm.l0 k3 a2 x8_52 (l0_2.length : Int) (wrap64 (x103_3 + 1)) l0_2) = some r := by rw [if_pos rfl] at H; exact H
       clear H
       have H := H1
       clear H1
       have H' := am H
       clear H
       go_wp2
       repeat (go_quiet (fail); try go_wp2)
       go_roundg k3
       case measure => have := HJ7.out; have := HJ52.out; have := HK3.out; omega
       case rel => exact ⟨(wrap64 (x103_3 + 1)), rfs, H', ⟨by have := HJ7.out; have := HJ52.out; have := HK3.out; omega⟩, ⟨blw⟩⟩

end Go.Proofs.YtgplgphchdgedaaDoor.Px
end
section
namespace Go.Proofs.YtgplgphchdgedaaDoor.Px
set_option maxHeartbeats 8000000
set_option maxRecDepth 100000
open Go.RowKit Go.Proofs.YtgplgphchdgedaaDoor.Ext Go.Proofs.YtgplgphchdgedaaDoorW.PrintWords Go.Proofs.YtgplgphchdgedaaDoorW.PrintLast Go.Proofs.YtgplgphchdgedaaDoorW.PrintMore
attribute [local go_sem] max2_int min2_int max_two min_two max_three min_three max_four min_four   -- for this text's walks alone
set_option linter.unusedVariables false
set_option linter.unusedSimpArgs false

/-! ### impl_SizeOfType: function 71 -/
mutual
def impl_SizeOfType.l0 : Nat → Int → List (S33) → Int → Int → Option (Int)
 | 0, _, _, _, _ => none
 | k + 1, x3, x7, x8, x9 => if x9 < x8 then (if 0 ≤ x9 then (if x9 < (x7.length : Int) then ((impl_SizeOfType.f k ((rd_T33 x7 x9).f0) ((rd_T33 x7 x9).f1) ((rd_T33 x7 x9).f2)).bind fun t329 => (impl_SizeOfType.l0 k (wrap64 (x3 + t329)) x7 x8 (wrap64 (x9 + 1)))) else (none)) else (none)) else (some x3)
def impl_SizeOfType.f : Nat → Int → List ByteArray → List (S33) → Option (Int)
 | 0, _, _, _ => none
 | k + 1, a0_0, l0_1, l0_2 => impl_SizeOfType.l0 k 1 l0_2 (l0_2.length : Int) 0
end
theorem impl_SizeOfType.calls (k : Nat) : ∀ (a0_0 : Int) (A0_1 : Option Addr) (c0_1 : Nat) (l0_1 : List ByteArray) (A0_2 : Option Addr) (c0_2 : Nat) (l0_2 : List (S33)) (r : Int) (w : World) (hr0_1 : Kd.C Kd.string w A0_1 l0_1.length l0_1) (hc0_1 : l0_1.length ≤ c0_1) (hr0_2 : Kd.C k33 w A0_2 l0_2.length l0_2) (hc0_2 : l0_2.length ≤ c0_2) (h : impl_SizeOfType.f k a0_0 l0_1 l0_2 = some r),
  Calls Tryd.prog 71 #[.agg #[.int .i64 a0_0, .slice A0_1 l0_1.length c0_1, .slice A0_2 l0_2.length c0_2]] w fun e w' => e = .returned (.int .i64 r) ∧ Below w.heap.size w w' := by
 induction k using Nat.strongRecOn with
 | _ k ih =>
 intro a0_0 A0_1 c0_1 l0_1 A0_2 c0_2 l0_2 r w hr0_1 hc0_1 hr0_2 hc0_2 h
 cases k with
 | zero => exact absurd h (by simp [impl_SizeOfType.f])
 | succ k =>
 simp only [impl_SizeOfType.f] at h
 have hu33 := Tryd.underlying33
 have HR0_1 := am hr0_1
 have HC0_1 := am hc0_1
 clear hr0_1 hc0_1
 have HR0_2 := am hr0_2
 have HC0_2 := am hc0_2
 clear hr0_2 hc0_2
 have HB := am (Below.refl w.heap.size w)
 have H : (impl_SizeOfType.l0 k 1 l0_2 (l0_2.length : Int) 0) = some r := h
 clear h
 have H' := am H
 clear H
 go_enter Tryd.func71, Tryd.ntmps71
 go_wp2_with (first | ((with_reducible refine gate_dst (N := 1) rfl ?_); refine box_event ?hg (N := 1) ?hd (cs := #[.int .i64 a0_0, .slice A0_1 l0_1.length c0_1, .slice A0_2 l0_2.length c0_2]) (t := 33) ?hr ?_; (case hd => rfl); (case hg => rfl); (case hr => exact hrw); intro gb326 hg w2 hbox hb; have n0_ := am (below_step blw hb); have n1_ := am (hbox); have n2_ := am ((by rw [hg]; exact (below_size blw) : w.heap.size ≤ gb326)); have n3_ := n2_; clear HB; revert n0_ n1_ n2_ n3_; intro HB BK326 GW326 GE326; clear hb hbox hg; obtain ⟨hcz3_0, hcz3_1, hcz3_2⟩ := cls3 BK326.out; obtain ⟨hfz3_0, hfz3_1, hfz3_2⟩ := frz3 BK326.out))
 go_loopg [3, 9] k (fun kq v3 v9 w' => ∃ (x3_1 : Int) (x9_1 : Int), v3 = .int .i64 x3_1 ∧ v9 = .int .i64 x9_1 ∧ Aside0 (impl_SizeOfType.l0 kq x3_1 l0_2 (l0_2.length : Int) x9_1 = some r) ∧ Aside0 (kq ≤ k) ∧ Aside0 (w'.heap[gb326]? = some (.cells #[.int .i64 a0_0, (.slice A0_1 l0_1.length c0_1), (.slice A0_2 l0_2.length c0_2)] 33 (0, 0))) ∧ Aside0 (Below w.heap.size w w'))
 case atStart => exact ⟨(1), (0), rfs, rfs, H', ⟨Nat.le_refl _⟩, ⟨bkw⟩, ⟨blw⟩⟩
 case round =>
  clear H'
  (try clear p2); (try clear hcz3_0 hcz3_1 hcz3_2); (try clear hfz3_0 hfz3_1 hfz3_2)
  obtain ⟨x3_1, x9_1, rfl, rfl, HA, HK1, BK326, HB⟩ := hrel
  cases gk with
  | zero => exact absurd HA.out (by simp [impl_SizeOfType.l0])
  | succ k1 =>
   have H := HA.out
   clear HA
   simp only [impl_SizeOfType.l0] at H
   by_cases c4 : x9_1 < (l0_2.length : Int)
   case neg =>
    rw [if_neg c4] at H
    have c4b0 : decide (x9_1 < (l0_2.length : Int)) = false := decide_eq_false c4
    clear c4
    obtain rfl := Option.some.inj H
    go_wp2
    go_ret
    exact ⟨rfw, blw⟩
   rw [if_pos c4] at H
   have c4b0 : decide (x9_1 < (l0_2.length : Int)) = true := decide_eq_true c4
   clear c4
   by_cases c5 : 0 ≤ x9_1
   case neg =>
    rw [if_neg c5] at H
    exact absurd H (by simp)
   rw [if_pos c5] at H
   have c5b0 : decide (0 ≤ x9_1) = true := decide_eq_true c5
   clear c5
   by_cases c6 : x9_1 < (l0_2.length : Int)
   case neg =>
    rw [if_neg c6] at H
    exact absurd H (by simp)
   rw [if_pos c6] at H
   have c6b0 : decide (x9_1 < (l0_2.length : Int)) = true := decide_eq_true c6
   clear c6
   replace H := Option.bind_eq_some_iff.mp H
   obtain ⟨t329, A70, H⟩ := H
   replace H : (impl_SizeOfType.l0 k1 (wrap64 (x3_1 + t329)) l0_2 (l0_2.length : Int) (wrap64 (x9_1 + 1))) = some r := H
   have A7 := am A70
   clear A70
   have H' := am H
   clear H
   have p327 : 0 ≤ (x9_1 : Int) := of_decide_eq_true asw
   have q327 : x9_1 < (l0_2.length : Int) := of_decide_eq_true asw
   obtain ⟨ad327, A327_1, c327_1, A327_2, c327_2, e327, hx327_0, hx327_1, hx327_2, hl327_1, hi327_1, hl327_2, hi327_2⟩ := at_T33 HR0_2.out x9_1 p327 q327
   cases e327
   replace hx327_0 := upw HB.out hx327_0
   replace hx327_1 := upw HB.out hx327_1
   replace hx327_2 := upw HB.out hx327_2
   have HR327_1 := am hi327_1
   have HC327_1 := am hl327_1
   clear hi327_1 hl327_1
   have HR327_2 := am hi327_2
   have HC327_2 := am hl327_2
   clear hi327_2 hl327_2
   replace p327 := eq_true p327
   replace q327 := eq_true q327
   go_wp2_with (first | ((with_reducible refine gate_dst (N := 5) rfl ?_); refine box_event ?hg (N := 5) ?hd (cs := #[.int .i64 0, .slice none 0 0, .slice none 0 0]) (t := 33) ?hr ?_; (case hd => rfl); (case hg => rfl); (case hr => exact hrw); intro gb328 hg w8 hbox hb; have n0_ := am (blk_below (g := gb326) bkw hb); have n1_ := am (below_step blw hb); have n2_ := am (hbox); have n3_ := am ((by rw [hg]; exact (below_size blw) : w.heap.size ≤ gb328)); have n4_ := n3_; have n5_ := am ((by rw [hg]; exact Nat.ne_of_lt (blk_lt (g := gb326) bkw) : gb326 ≠ gb328)); have n6_ := am ((by rw [hg]; exact Nat.ne_of_gt (blk_lt (g := gb326) bkw) : gb328 ≠ gb326)); clear BK326; clear HB; revert n0_ n1_ n2_ n3_ n4_ n5_ n6_; intro BK326 HB BK328 GW328 GE328 NB326_328 NB328_326; clear hb hbox hg; have hnb9 := NB328_326.out; have hnc9 := NB326_328.out; obtain ⟨hcz10_0, hcz10_1, hcz10_2⟩ := cls3 BK328.out; obtain ⟨hfz10_0, hfz10_1, hfz10_2⟩ := frz3 BK328.out) | ((with_reducible refine gate_callee (f := 71) rfl ?_); refine goesL_ (some 15) rfl rfl Tryd.func71 kr rfl #[.agg #[.int .i64 ((rd_T33 l0_2 x9_1).f0), .slice A327_1 ((rd_T33 l0_2 x9_1).f1).length c327_1, .slice A327_2 ((rd_T33 l0_2 x9_1).f2).length c327_2]] rfl mpw ?_; (with_reducible refine (ih k1 (by have := HK1.out; omega) ((rd_T33 l0_2 x9_1).f0) _ _ ((rd_T33 l0_2 x9_1).f1) _ _ ((rd_T33 l0_2 x9_1).f2) t329 _ ?side1 ?side2 ?side3 ?side4 A7.out).mono ?_); (case side1 => exact Kd.C_below HR327_1.out blw); (case side2 => exact HC327_1.out); (case side3 => exact Kd.C_below HR327_2.out blw); (case side4 => exact HC327_2.out); rintro e w11 ⟨rfl, hb⟩; refine ⟨_, rfl, ?_⟩; have n0_ := am (blk_below (g := gb326) (o := .cells #[.int .i64 a0_0, .slice A0_1 l0_1.length c0_1, .slice (some ad327) l0_2.length c0_2] 33 (0, 0)) (by (with_reducible repeat (first | refine blk_drewN ?_ _ | refine blk_drew ?_ | refine blk_alloc ?_ _)); refine blk_far ?_ NB326_328.out _; (with_reducible repeat (first | refine blk_drewN ?_ _ | refine blk_drew ?_ | refine blk_alloc ?_ _)); refine blk_far ?_ NB326_328.out _; (with_reducible repeat (first | refine blk_drewN ?_ _ | refine blk_drew ?_ | refine blk_alloc ?_ _)); refine blk_far ?_ NB326_328.out _; (with_reducible repeat (first | refine blk_drewN ?_ _ | refine blk_drew ?_ | refine blk_alloc ?_ _)); exact BK326.out) hb); have n1_ := am (blk_below (g := gb328) (o := .cells #[.int .i64 ((rd_T33 l0_2 x9_1).f0), .slice A327_1 ((rd_T33 l0_2 x9_1).f1).length c327_1, .slice A327_2 ((rd_T33 l0_2 x9_1).f2).length c327_2] 33 (0, 0)) (by (with_reducible repeat (first | refine blk_drewN ?_ _ | refine blk_drew ?_ | refine blk_alloc ?_ _)); refine blk_put (cs := #[.int .i64 ((rd_T33 l0_2 x9_1).f0), .slice A327_1 ((rd_T33 l0_2 x9_1).f1).length c327_1, .slice none 0 0]) ?_ 2 _ rfl; (with_reducible repeat (first | refine blk_drewN ?_ _ | refine blk_drew ?_ | refine blk_alloc ?_ _)); refine blk_put (cs := #[.int .i64 ((rd_T33 l0_2 x9_1).f0), .slice none 0 0, .slice none 0 0]) ?_ 1 _ rfl; (with_reducible repeat (first | refine blk_drewN ?_ _ | refine blk_drew ?_ | refine blk_alloc ?_ _)); refine blk_put (cs := #[.int .i64 0, .slice none 0 0, .slice none 0 0]) ?_ 0 _ rfl; (with_reducible repeat (first | refine blk_drewN ?_ _ | refine blk_drew ?_ | refine blk_alloc ?_ _)); exact BK328.out) hb); have n2_ := am (below_step blw hb); clear BK326; clear BK328; clear HB; revert n0_ n1_ n2_; intro BK326 BK328 HB; (try clear hb); (try clear hb2); (try clear hk); (try clear hi)))
   go_roundg k1
   case measure => have := HK1.out; omega
   case rel => exact ⟨(wrap64 (x3_1 + t329)), (wrap64 (x9_1 + 1)), rfs, rfs, H', ⟨by have := HK1.out; omega⟩, ⟨bkw⟩, ⟨blw⟩⟩

/-! ### impl_IsValidType: function 57 -/
def impl_IsValidType.f (k : Nat) (a0_0 : Int) (l0_1 : List ByteArray) (l0_2 : List (S33)) : Option (Bool) := (impl_typeForm.f k a0_0 l0_1 l0_2 false 1).bind fun t331 => (if t331 = true then ((impl_SizeOfType.f k a0_0 l0_1 l0_2).bind fun t332 => (some (decide (t332 ≤ 24)))) else (some false))
theorem impl_IsValidType.calls (k : Nat) (a0_0 : Int) (A0_1 : Option Addr) (c0_1 : Nat) (l0_1 : List ByteArray) (A0_2 : Option Addr) (c0_2 : Nat) (l0_2 : List (S33)) (r : Bool) (w : World) (hr0_1 : Kd.C Kd.string w A0_1 l0_1.length l0_1) (hc0_1 : l0_1.length ≤ c0_1) (hr0_2 : Kd.C k33 w A0_2 l0_2.length l0_2) (hc0_2 : l0_2.length ≤ c0_2) (h : impl_IsValidType.f k a0_0 l0_1 l0_2 = some r) :
  Calls Tryd.prog 57 #[.agg #[.int .i64 a0_0, .slice A0_1 l0_1.length c0_1, .slice A0_2 l0_2.length c0_2]] w fun e w' => e = .returned (.bool r) ∧ Below w.heap.size w w' := by
 have hu33 := Tryd.underlying33
 have HR0_1 := am hr0_1
 have HC0_1 := am hc0_1
 clear hr0_1 hc0_1
 have HR0_2 := am hr0_2
 have HC0_2 := am hc0_2
 clear hr0_2 hc0_2
 have HB := am (Below.refl w.heap.size w)
 have H : ((impl_typeForm.f k a0_0 l0_1 l0_2 false 1).bind fun t331 => (if t331 = true then ((impl_SizeOfType.f k a0_0 l0_1 l0_2).bind fun t332 => (some (decide (t332 ≤ 24)))) else (some false))) = some r := h
 clear h
 replace H := Option.bind_eq_some_iff.mp H
 obtain ⟨t331, A20, H⟩ := H
 replace H : (if t331 = true then ((impl_SizeOfType.f k a0_0 l0_1 l0_2).bind fun t332 => (some (decide (t332 ≤ 24)))) else (some false)) = some r := H
 have A2 := am A20
 clear A20
 by_cases c3 : t331 = true
 case neg =>
  replace c3 := Bool.eq_false_iff.mpr c3
  subst c3
  have H1 : (some false) = some r := by rw [if_neg (show ¬ (false = true) by decide)] at H; exact H
  clear H
  have H := H1
  clear H1
  obtain rfl := Option.some.inj H
  go_enter Tryd.func57, Tryd.ntmps57
  go_wp2_with (first | ((with_reducible refine gate_dst (N := 1) rfl ?_); refine box_event ?hg (N := 1) ?hd (cs := #[.int .i64 a0_0, .slice A0_1 l0_1.length c0_1, .slice A0_2 l0_2.length c0_2]) (t := 33) ?hr ?_; (case hd => rfl); (case hg => rfl); (case hr => exact hrw); intro gb330 hg w9 hbox hb; have n0_ := am (below_step blw hb); have n1_ := am (hbox); have n2_ := am ((by rw [hg]; exact (below_size blw) : w.heap.size ≤ gb330)); have n3_ := n2_; clear HB; revert n0_ n1_ n2_ n3_; intro HB BK330 GW330 GE330; clear hb hbox hg) | ((with_reducible refine gate_callee (f := 70) rfl ?_); refine goesL_ (some 3) rfl rfl Tryd.func70 kr rfl #[.pointer (some ⟨gb330, 0, none⟩), .bool false, .int .i64 1] rfl mpw ?_; (with_reducible refine (impl_typeForm.calls k ⟨gb330, 0, none⟩ a0_0 A0_1 c0_1 l0_1 A0_2 c0_2 l0_2 false 1 false _ ?side1 ?side2 ?side3 ?side4 ?side5 A2.out).mono ?_); (case side1 => exact Cells_blk bkw); (case side2 => have X_ := HR0_1; exact cbl); (case side3 => exact HC0_1.out); (case side4 => have X_ := HR0_2; exact cbl); (case side5 => exact HC0_2.out); rintro e w10 ⟨rfl, hb⟩; refine ⟨_, rfl, ?_⟩; have n0_ := am (blk_below (g := gb330) bkw hb); have n1_ := am (below_step blw hb); clear BK330; clear HB; revert n0_ n1_; intro BK330 HB; (try clear hb); (try clear hb2); (try clear hk); (try clear hi)))
  go_ret
  exact ⟨rfw, blw⟩
 subst c3
 have H1 : ((impl_SizeOfType.f k a0_0 l0_1 l0_2).bind fun t332 => (some (decide (t332 ≤ 24)))) = some r := by rw [if_pos rfl] at H; exact H
 clear H
 have H := H1
 clear H1
 replace H := Option.bind_eq_some_iff.mp H
 obtain ⟨t332, A40, H⟩ := H
 replace H : (some (decide (t332 ≤ 24))) = some r := H
 have A4 := am A40
 clear A40
 obtain rfl := Option.some.inj H
 go_enter Tryd.func57, Tryd.ntmps57
 go_wp2_with (first | ((with_reducible refine gate_dst (N := 1) rfl ?_); refine box_event ?hg (N := 1) ?hd (cs := #[.int .i64 a0_0, .slice A0_1 l0_1.length c0_1, .slice A0_2 l0_2.length c0_2]) (t := 33) ?hr ?_; (case hd => rfl); (case hg => rfl); (case hr => exact hrw); intro gb330 hg w5 hbox hb; have n0_ := am (below_step blw hb); have n1_ := am (hbox); have n2_ := am ((by rw [hg]; exact (below_size blw) : w.heap.size ≤ gb330)); have n3_ := n2_; clear HB; revert n0_ n1_ n2_ n3_; intro HB BK330 GW330 GE330; clear hb hbox hg) | ((with_reducible refine gate_callee (f := 70) rfl ?_); refine goesL_ (some 3) rfl rfl Tryd.func70 kr rfl #[.pointer (some ⟨gb330, 0, none⟩), .bool false, .int .i64 1] rfl mpw ?_; (with_reducible refine (impl_typeForm.calls k ⟨gb330, 0, none⟩ a0_0 A0_1 c0_1 l0_1 A0_2 c0_2 l0_2 false 1 true _ ?side1 ?side2 ?side3 ?side4 ?side5 A2.out).mono ?_); (case side1 => exact Cells_blk bkw); (case side2 => have X_ := HR0_1; exact cbl); (case side3 => exact HC0_1.out); (case side4 => have X_ := HR0_2; exact cbl); (case side5 => exact HC0_2.out); rintro e w6 ⟨rfl, hb⟩; refine ⟨_, rfl, ?_⟩; have n0_ := am (blk_below (g := gb330) bkw hb); have n1_ := am (below_step blw hb); clear BK330; clear HB; revert n0_ n1_; intro BK330 HB; (try clear hb); (try clear hb2); (try clear hk); (try clear hi); obtain ⟨hcz7_0, hcz7_1, hcz7_2⟩ := cls3 BK330.out; obtain ⟨hfz7_0, hfz7_1, hfz7_2⟩ := frz3 BK330.out) | (go_at_call 71; (with_reducible refine (impl_SizeOfType.calls k a0_0 _ _ l0_1 _ _ l0_2 t332 _ ?side1 ?side2 ?side3 ?side4 A4.out).mono ?_); (case side1 => have X_ := HR0_1; exact cbl); (case side2 => exact HC0_1.out); (case side3 => have X_ := HR0_2; exact cbl); (case side4 => exact HC0_2.out); rintro e w8 ⟨rfl, hb⟩; have n0_ := am (blk_below (g := gb330) bkw hb); have n1_ := am (below_step blw hb); clear BK330; clear HB; revert n0_ n1_; intro BK330 HB; (try clear hb); (try clear hb2); (try clear hk); (try clear hi)))
 go_ret
 exact ⟨rfw, blw⟩

/-! ### impl_isZeroType: function 58 -/
def impl_isZeroType.f (a0_0 : Int) (l0_1 : List ByteArray) (l0_2 : List (S33)) : Option (Bool) := if a0_0 = 0 then (if (l0_1.length : Int) = 0 then (some ((l0_2.length : Int) == 0)) else (some false)) else (some false)
theorem impl_isZeroType.calls (a0_0 : Int) (A0_1 : Option Addr) (c0_1 : Nat) (l0_1 : List ByteArray) (A0_2 : Option Addr) (c0_2 : Nat) (l0_2 : List (S33)) (r : Bool) (w : World) (hr0_1 : Kd.C Kd.string w A0_1 l0_1.length l0_1) (hc0_1 : l0_1.length ≤ c0_1) (hr0_2 : Kd.C k33 w A0_2 l0_2.length l0_2) (hc0_2 : l0_2.length ≤ c0_2) (h : impl_isZeroType.f a0_0 l0_1 l0_2 = some r) :
  Calls Tryd.prog 58 #[.agg #[.int .i64 a0_0, .slice A0_1 l0_1.length c0_1, .slice A0_2 l0_2.length c0_2]] w fun e w' => e = .returned (.bool r) ∧ Below w.heap.size w w' := by
 have hu33 := Tryd.underlying33
 have HR0_1 := am hr0_1
 have HC0_1 := am hc0_1
 clear hr0_1 hc0_1
 have HR0_2 := am hr0_2
 have HC0_2 := am hc0_2
 clear hr0_2 hc0_2
 have HB := am (Below.refl w.heap.size w)
 have H : (if a0_0 = 0 then (if (l0_1.length : Int) = 0 then (some ((l0_2.length : Int) == 0)) else (some false)) else (some false)) = some r := h
 clear h
 by_cases c2 : a0_0 = 0
 case neg =>
  rw [if_neg c2] at H
  have c2b0 : (a0_0 == 0) = false := beq_eq_false_iff_ne.mpr c2
  have c2b1 : (a0_0 != 0) = true := bne_iff_ne.mpr c2
  obtain rfl := Option.some.inj H
  go_enter Tryd.func58, Tryd.ntmps58
  go_wp2_with (first | ((with_reducible refine gate_dst (N := 1) rfl ?_); (try (refine gate_guard (by rfl) ?_; dsimp only)); refine box_event ?hg (N := 1) ?hd (cs := #[.int .i64 a0_0, .slice A0_1 l0_1.length c0_1, .slice A0_2 l0_2.length c0_2]) (t := 33) ?hr ?_; (case hd => rfl); (case hg => rfl); (case hr => exact hrw); intro gb333 hg w8 hbox hb; have n0_ := am (below_step blw hb); have n1_ := am (hbox); have n2_ := am ((by rw [hg]; exact (below_size blw) : w.heap.size ≤ gb333)); have n3_ := n2_; clear HB; revert n0_ n1_ n2_ n3_; intro HB BK333 GW333 GE333; clear hb hbox hg; obtain ⟨hcz9_0, hcz9_1, hcz9_2⟩ := cls3 BK333.out; obtain ⟨hfz9_0, hfz9_1, hfz9_2⟩ := frz3 BK333.out))
  go_ret
  exact ⟨rfw, blw⟩
 rw [if_pos c2] at H
 have c2b0 : (a0_0 == 0) = true := beq_iff_eq.mpr c2
 have c2b1 : (a0_0 != 0) = false := bne_eq_false_iff_eq.mpr c2
 clear c2
 by_cases c3 : (l0_1.length : Int) = 0
 ·rw [if_pos c3] at H
  have c3b0 : ((l0_1.length : Int) == 0) = true := beq_iff_eq.mpr c3
  have c3b1 : ((l0_1.length : Int) != 0) = false := bne_eq_false_iff_eq.mpr c3
  clear c3
  obtain rfl := Option.some.inj H
  go_enter Tryd.func58, Tryd.ntmps58
  go_wp2_with (first | ((with_reducible refine gate_dst (N := 1) rfl ?_); (try (refine gate_guard (by rfl) ?_; dsimp only)); refine box_event ?hg (N := 1) ?hd (cs := #[.int .i64 a0_0, .slice A0_1 l0_1.length c0_1, .slice A0_2 l0_2.length c0_2]) (t := 33) ?hr ?_; (case hd => rfl); (case hg => rfl); (case hr => exact hrw); intro gb333 hg w4 hbox hb; have n0_ := am (below_step blw hb); have n1_ := am (hbox); have n2_ := am ((by rw [hg]; exact (below_size blw) : w.heap.size ≤ gb333)); have n3_ := n2_; clear HB; revert n0_ n1_ n2_ n3_; intro HB BK333 GW333 GE333; clear hb hbox hg; obtain ⟨hcz5_0, hcz5_1, hcz5_2⟩ := cls3 BK333.out; obtain ⟨hfz5_0, hfz5_1, hfz5_2⟩ := frz3 BK333.out))
  go_ret
  exact ⟨rfw, blw⟩
 rw [if_neg c3] at H
 have c3b0 : ((l0_1.length : Int) == 0) = false := beq_eq_false_iff_ne.mpr c3
 have c3b1 : ((l0_1.length : Int) != 0) = true := bne_iff_ne.mpr c3
 have c3b2 : ¬ (l0_1 = []) := fun h_ => c3 (by rw [h_]; rfl)
 obtain rfl := Option.some.inj H
 go_enter Tryd.func58, Tryd.ntmps58
 go_wp2_with (first | ((with_reducible refine gate_dst (N := 1) rfl ?_); (try (refine gate_guard (by rfl) ?_; dsimp only)); refine box_event ?hg (N := 1) ?hd (cs := #[.int .i64 a0_0, .slice A0_1 l0_1.length c0_1, .slice A0_2 l0_2.length c0_2]) (t := 33) ?hr ?_; (case hd => rfl); (case hg => rfl); (case hr => exact hrw); intro gb333 hg w6 hbox hb; have n0_ := am (below_step blw hb); have n1_ := am (hbox); have n2_ := am ((by rw [hg]; exact (below_size blw) : w.heap.size ≤ gb333)); have n3_ := n2_; clear HB; revert n0_ n1_ n2_ n3_; intro HB BK333 GW333 GE333; clear hb hbox hg; obtain ⟨hcz7_0, hcz7_1, hcz7_2⟩ := cls3 BK333.out; obtain ⟨hfz7_0, hfz7_1, hfz7_2⟩ := frz3 BK333.out))
 go_ret
 exact ⟨rfw, blw⟩

end Go.Proofs.YtgplgphchdgedaaDoor.Px
end
