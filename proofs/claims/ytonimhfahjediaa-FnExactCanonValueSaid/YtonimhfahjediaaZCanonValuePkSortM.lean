/- The library's symMerge at rows of values, where one part has one element: its contract. No condition beyond the sizes named. -/
import Derived.Test.YtonimhfahjediaaZCanonValueWTabM
import Derived.Test.YtonimhfahjediaaZCanonValuePk11M
import Derived.Test.YtonimhfahjediaaZCanonValuePkMarkValueM
import Derived.Test.YtonimhfahjediaaZCanonValuePlM
import Derived.Test.YtonimhfahjediaaZCanonValuePkSortI
import Derived.Test.YtonimhfahjediaaZCanonValueWLastM
namespace Go.Proofs.Ytonimhfahjediaa.Pk
open Go.RowKit Go.Proofs.YtonimhfahjediaaW.PrintWords Go.Proofs.YtonimhfahjediaaW.PrintLast Go.Proofs.YtonimhfahjediaaW.PrintMore Go.Proofs.Ytonimhfahjediaa.Pl Go.Proofs.Ytonimhfahjediaa.Ext
set_option linter.unusedVariables false
set_option linter.unusedSimpArgs false
def tabSym.T5 : Bool × List (List Nat × List Nat) := (true, [([], []), ([], []), ([], []), ([1, 2], [1, 2]), ([3], [3]), ([], []), ([], []), ([5, 6], [5, 6]), ([7], [7]), ([0, 4, 8], [0, 4, 8]), ([9], [9])])
def tabSym.B5 : List Nat := [0, 0, 0, 6, 14, 0, 0, 96, 224, 511, 1023]
theorem tabSym.tab5 : rtab .any (opsOf Try.f43 5) = tabSym.T5 := by kernel_rfl
theorem tabSym.bits5 : waitsOk tabSym.T5.2 tabSym.B5 = true := by kernel_rfl
def tabSym.T11 : Bool × List (List Nat × List Nat) := (true, [([], []), ([], []), ([], []), ([], []), ([3], [3]), ([], []), ([], []), ([6], [6]), ([5, 7], [5, 7]), ([8], [8]), ([], []), ([], []), ([10, 11], [10, 11]), ([12], [12]), ([0, 1, 0, 1, 5, 6, 7, 8, 9, 13], [0, 1]), ([14, 9, 0, 1, 5, 6, 7, 8, 9, 13], [9, 14]), ([2, 4, 0, 1, 2, 3, 4, 5, 6, 7, 8, 9, 10, 11, 12, 13, 14, 15], [2, 4]), ([16, 13, 15, 0, 1, 2, 3, 4, 5, 6, 7, 8, 9, 10, 11, 12, 13, 14, 15], [13, 16])])
def tabSym.B11 : List Nat := [0, 0, 0, 0, 8, 0, 0, 64, 224, 480, 0, 0, 3072, 7168, 16355, 32739, 65535, 131071]
theorem tabSym.tab11 : rtab .any (opsOf Try.f43 11) = tabSym.T11 := by kernel_rfl
theorem tabSym.bits11 : waitsOk tabSym.T11.2 tabSym.B11 = true := by kernel_rfl
def tabSym.T17 : Bool × List (List Nat × List Nat) := (true, [([], []), ([], []), ([], []), ([1, 2], [1, 2]), ([3], [3]), ([], []), ([], []), ([5, 6], [5, 6]), ([7], [7]), ([0, 4, 8], [0, 4, 8]), ([9], [9]), ([10], [10])])
def tabSym.B17 : List Nat := [0, 0, 0, 6, 14, 0, 0, 96, 224, 511, 1023, 2047]
theorem tabSym.tab17 : rtab .any (opsOf Try.f43 17) = tabSym.T17 := by kernel_rfl
theorem tabSym.bits17 : waitsOk tabSym.T17.2 tabSym.B17 = true := by kernel_rfl
def tabSym.T23 : Bool × List (List Nat × List Nat) := (true, [([], []), ([], []), ([], []), ([], []), ([3], [3]), ([], []), ([], []), ([6], [6]), ([5, 7], [5, 7]), ([8], [8]), ([], []), ([], []), ([10, 11], [10, 11]), ([12], [12]), ([0, 1, 0, 1, 5, 6, 7, 8, 9, 13], [0, 1]), ([14, 9, 0, 1, 5, 6, 7, 8, 9, 13], [9, 14]), ([2, 4, 0, 1, 2, 3, 4, 5, 6, 7, 8, 9, 10, 11, 12, 13, 14, 15], [2, 4]), ([16, 13, 15, 0, 1, 2, 3, 4, 5, 6, 7, 8, 9, 10, 11, 12, 13, 14, 15], [13, 16])])
def tabSym.B23 : List Nat := [0, 0, 0, 0, 8, 0, 0, 64, 224, 480, 0, 0, 3072, 7168, 16355, 32739, 65535, 131071]
theorem tabSym.tab23 : rtab .any (opsOf Try.f43 23) = tabSym.T23 := by kernel_rfl
theorem tabSym.bits23 : waitsOk tabSym.T23.2 tabSym.B23 = true := by kernel_rfl
def tabSym.T35 : Bool × List (List Nat × List Nat) := (true, [([], []), ([], []), ([], []), ([], []), ([2, 3], [2, 3]), ([1, 4], [1, 4]), ([5], [5]), ([], []), ([], []), ([7, 8], [7, 8]), ([9], [9]), ([0, 6, 10], [0, 6, 10]), ([11], [11]), ([12], [12])])
def tabSym.B35 : List Nat := [0, 0, 0, 0, 12, 30, 62, 0, 0, 384, 896, 2047, 4095, 8191]
theorem tabSym.tab35 : rtab .any (opsOf Try.f43 35) = tabSym.T35 := by kernel_rfl
theorem tabSym.bits35 : waitsOk tabSym.T35.2 tabSym.B35 = true := by kernel_rfl
theorem bs_stop {p : Nat → Bool} {f i j : Nat} (h : ¬ i < j) : St.bs p f i j = i := by
  cases f with
  | zero => rfl
  | succ f => rw [St.bs, if_neg h]
theorem bs_yes {p : Nat → Bool} {f i j h : Nat} (h1 : i < j) (hh : h = (i + j) / 2) (hp : p h = true) : St.bs p (f + 1) i j = St.bs p f (h + 1) j := by subst hh; rw [St.bs, if_pos h1, if_pos hp]
theorem bs_no {p : Nat → Bool} {f i j h : Nat} (h1 : i < j) (hh : h = (i + j) / 2) (hp : p h = false) : St.bs p (f + 1) i j = St.bs p f i h := by subst hh; rw [St.bs, if_pos h1, if_neg (by rw [hp]; simp)]
theorem half_ (i j : Nat) (h : i + j ≤ 4194304) : wrap64 (IntKind.u64.wrap (wrap64 ((i : Int) + (j : Int))) / 2) = (((i + j) / 2 : Nat) : Int) := by
  have e : IntKind.u64.wrap (wrap64 ((i : Int) + (j : Int))) = (i : Int) + (j : Int) := by simp [IntKind.wrap, IntKind.bits, IntKind.signed, wrap64]; omega
  rw [e]; unfold wrap64; omega
theorem ltP_yes {x y : S30 × Nat} (h : cmT x.1 y.1 < 0) : ltP x y = true := by simp [ltP, ltT, h]
theorem ltP_no {x y : S30 × Nat} (h : ¬ cmT x.1 y.1 < 0) : ltP x y = false := by simp [ltP, ltT]; omega
set_option maxHeartbeats 8000000 in
set_option maxRecDepth 100000 in
theorem sym1_go (fo : Nat → Nat) (w0 : World) (g n cap : Nat) (ok : Nat → Prop) (hg : w0.heap.size ≤ g) (hn : n ≤ 1048576) (f a m b : Nat) (ha : a < m ∧ m < b ∧ b ≤ n) (h1 : m - a = 1) (xs : List (S30 × Nat)) (hs : SmL (xs)) (w : World) (ho : Kd.R (Kd.tag fo k30) 30 w w0.heap.size ok (.slice (some ⟨g, 0, none⟩) n cap) xs) (hb : Below w0.heap.size w0 w) :
    Calls Try.prog 43 #[.slice (some ⟨g, 0, none⟩) n cap, .int .i64 (a : Int), .int .i64 (m : Int), .int .i64 (b : Int), .func (.func 22) #[] #[]] w fun e w' => e = .returned (.tuple #[]) ∧ (SmL ((St.symM ltP (z30, 0) (f + 1) a m b xs))) ∧ Kd.R (Kd.tag fo k30) 30 w' w0.heap.size ok (.slice (some ⟨g, 0, none⟩) n cap) ((St.symM ltP (z30, 0) (f + 1) a m b xs)) ∧ Below w0.heap.size w0 w' ∧ Only g w w' := by
  have HG := Aside0.mk hg; have HN := Aside0.mk hn; have HA := Aside0.mk ha; have H1 := Aside0.mk h1; have HS := Aside0.mk hs; have HO := Aside0.mk ho; have HB := Aside0.mk hb
  have HY := Aside0.mk (Only.refl g w)
  clear hg hn ha h1 hs ho hb
  have r1 : wrap64 ((m : Int) - (a : Int)) = (1 : Int) := by have := HA.out; have := H1.out; have := HN.out; unfold wrap64; omega
  go_enter Try.func43, Try.ntmps43
  go_wp2
  clear r1
  go_loopg [10, 11, 12] (b - m) (fun gq v10 v11 v12 w' => ∃ (fb i j : Nat), v10 = .int .i64 (i : Int) ∧ v11 = .int .i64 (j : Int) ∧ Aside0 ((m ≤ i ∧ i ≤ j ∧ j ≤ b ∧ j - i ≤ fb) ∧ gq = j - i ∧ St.bs (fun h => ltP (xs.getD h (z30, 0)) (xs.getD a (z30, 0))) fb i j = St.bs (fun h => ltP (xs.getD h (z30, 0)) (xs.getD a (z30, 0))) (b - m) m b) ∧ Aside0 (Kd.R (Kd.tag fo k30) 30 w' w0.heap.size ok (.slice (some ⟨g, 0, none⟩) n cap) xs) ∧ Aside0 (Below w0.heap.size w0 w') ∧ Aside0 (Only g w w'))
  case atStart => exact ⟨(b - m), m, b, rfl, rfl, ⟨by have := HA.out; omega, rfl, rfl⟩, HO, HB, HY⟩
  case round =>
    clear HO HB HY
    obtain ⟨fb, i, j, rfl, rfl, HJ, HO, HB, HY⟩ := hrel
    by_cases d1 : i < j
    · obtain ⟨fb, rfl⟩ : ∃ f', fb = f' + 1 := ⟨fb - 1, by have := HJ.out.1; omega⟩
      have HD1 := Aside0.mk d1
      have d2 : (i : Int) < (j : Int) := by omega
      have d3 : decide ((i : Int) < (j : Int)) = true := decide_eq_true d2
      go_upto_region 5 with (fail)
      clear d1 d2 d3
      obtain ⟨h, hh_⟩ : ∃ q : Nat, q = (i + j) / 2 := ⟨_, rfl⟩
      have Eh := Aside0.mk hh_
      have rh := half_ i j (by have := HJ.out.1; have := HA.out; have := HN.out; omega)
      rw [← hh_] at rh
      rw [rh]
      clear hh_ rh
      have HIJ : Aside0 (h < n ∧ a < n) := ⟨by have := HJ.out.1; have := HA.out; have := Eh.out; have := HD1.out; omega⟩
      have r3 : ((h : Int) < (n : Int)) = True := eq_true (by have := HIJ.out; omega)
      have r4 : ((a : Int) < (n : Int)) = True := eq_true (by have := HIJ.out; omega)
      have r5 : (0 ≤ (h : Int)) = True := eq_true (by have := HIJ.out; omega)
      have r6 : (0 ≤ (a : Int)) = True := eq_true (by have := HIJ.out; omega)
      have hwh : wrap64 ((h : Int) + 1) = ((h + 1 : Nat) : Int) := by have := HJ.out.1; have := HA.out; have := HN.out; have := Eh.out; unfold wrap64; omega
      have HL := Aside0.mk (Kd.R_reads' HO.out).1
      have sX := HS.out _ (mem_getD xs (z30, 0) h (by have := HL.out; have := HIJ.out; omega))
      have sZ := HS.out _ (mem_getD xs (z30, 0) a (by have := HL.out; have := HIJ.out; omega))
      obtain ⟨KC, hKC⟩ := (CompareValues_ev _ _ sX sZ).rounds
      have HC := Aside0.mk hKC
      clear hKC sX sZ
      obtain ⟨X, hX⟩ : ∃ X, X = xs.getD h (z30, 0) := ⟨_, rfl⟩
      obtain ⟨Z, hZ⟩ : ∃ Z, Z = xs.getD a (z30, 0) := ⟨_, rfl⟩
      rw [← hX, ← hZ] at HC
      have HX := Aside0.mk hX; have HZ := Aside0.mk hZ
      clear hX hZ
      try go_wp2
      replace HO := Aside0.mk (Kd.R_drew HO.out)
      replace HB := Aside0.mk (below_drew1 HB.out)
      replace HY := Aside0.mk (HY.out.trans drewOnly)
      obtain ⟨ci, cj, li, lj, Mi, Mj, hci, hcj, fi, fj, RS, OS, BS, NC, NF⟩ := R_swap HO.out (z30, 0) h a (by have := HIJ.out; omega) (by have := HIJ.out; omega)
      clear RS OS BS NC NF fi fj
      rw [← HX.out] at Mi; rw [← HZ.out] at Mj
      obtain ⟨va2, va3, rfl, ga2, ga3⟩ := k30_openM Mi
      obtain ⟨vb2, vb3, rfl, gb2, gb3⟩ := k30_openM Mj
      obtain ⟨Aa2, ca2, rfl⟩ := Kd.R_slice ga2
      obtain ⟨Aa3, ca3, rfl⟩ := Kd.R_slice (Kd.S_R ga3)
      obtain ⟨Ab2, cb2, rfl⟩ := Kd.R_slice gb2
      obtain ⟨Ab3, cb3, rfl⟩ := Kd.R_slice (Kd.S_R gb3)
      have GA2 := Aside0.mk (Kd.R_reads' ga2).2; have GA3 := Aside0.mk (Kd.R_reads' (Kd.S_R ga3)).2; have GB2 := Aside0.mk (Kd.R_reads' gb2).2; have GB3 := Aside0.mk (Kd.R_reads' (Kd.S_R gb3)).2
      have p0 := hci 0 _ rfl
      have p1 := hci 1 _ rfl
      have p2 := hci 2 _ rfl
      have p3 := hci 3 _ rfl
      have p4 := hcj 0 _ rfl
      have p5 := hcj 1 _ rfl
      have p6 := hcj 2 _ rfl
      have p7 := hcj 3 _ rfl
      simp only [show (Kd.tag fo k30).sz = 4 from rfl, Nat.add_zero] at p0 p1 p2 p3 p4 p5 p6 p7
      have PC := Aside0.mk (And.intro p0 (And.intro p1 (And.intro p2 (And.intro p3 (And.intro p4 (And.intro p5 (And.intro p6 p7)))))))
      clear hci hcj li lj Mi Mj ga2 ga3 gb2 gb3 p0 p1 p2 p3 p4 p5 p6 p7
      by_cases e2 : cmT X.1 Z.1 < 0
      · have r7 : (cmT X.1 Z.1 < 0) = True := eq_true e2
        have HE2 := Aside0.mk e2
        clear e2
        refine start_ (n := 11) (S := fun w' => w'.cell? ⟨g, h * 4, none⟩ = some (.int .i64 X.1.f0) ∧ w'.cell? ⟨g, h * 4 + 1, none⟩ = some (.int .i64 X.1.f1) ∧ w'.cell? ⟨g, h * 4 + 2, none⟩ = some (.slice Aa2 X.1.f2.length ca2) ∧ w'.cell? ⟨g, h * 4 + 3, none⟩ = some (.slice Aa3 X.1.f3.length ca3) ∧ w'.cell? ⟨g, a * 4, none⟩ = some (.int .i64 Z.1.f0) ∧ w'.cell? ⟨g, a * 4 + 1, none⟩ = some (.int .i64 Z.1.f1) ∧ w'.cell? ⟨g, a * 4 + 2, none⟩ = some (.slice Ab2 Z.1.f2.length cb2) ∧ w'.cell? ⟨g, a * 4 + 3, none⟩ = some (.slice Ab3 Z.1.f3.length cb3)) (ds := []) #[false, false, false, false, false, false, false, false, false, false, false] (by kernel_rfl) rfl rfl PC.out (fun hHeld => ?_); refine with_tabW tabSym.tab5 tabSym.bits5 (fun HT_ HW_ => ?_)
        generalize World.drew _ = w1 at HO HB HY PC GA2 GA3 GB2 GB3 hHeld ⊢
        refine pure_ (i := 0) (N := some 40) (v := ?_) (a' := ?_) #[true, false, false, false, false, false, false, false, false, false, false] rfl rfl (any_of HT_.out (by kernel_rfl)) (fun _ _ _ h => h) (Or.inl ⟨by rfl, ?_⟩) ?_ ?_
        rotate_left
        · intro w'
          go_simp
          try with_reducible rfl
        rotate_left
        · simp only [Act.put, List.setIfInBounds_toArray, List.set_cons_zero, List.set_cons_succ, i64_w, i32_w]
          rfl
        refine pure_ (i := 1) (N := some 41) (v := ?_) (a' := ?_) #[true, true, false, false, false, false, false, false, false, false, false] rfl rfl (any_of HT_.out (by kernel_rfl)) (fun _ _ _ h => h) (Or.inl ⟨by rfl, ?_⟩) ?_ ?_
        rotate_left
        · intro w'
          go_simp
          try with_reducible rfl
        rotate_left
        · simp only [Act.put, List.setIfInBounds_toArray, List.set_cons_zero, List.set_cons_succ, i64_w, i32_w]
          rfl
        refine pure_ (i := 2) (N := some 42) (v := ?_) (a' := ?_) #[true, true, true, false, false, false, false, false, false, false, false] rfl rfl (any_of HT_.out (by kernel_rfl)) (fun _ _ _ h => h) (Or.inl ⟨by rfl, ?_⟩) ?_ ?_
        rotate_left
        · intro w'
          go_simp
          try with_reducible rfl
        rotate_left
        · simp only [Act.put, List.setIfInBounds_toArray, List.set_cons_zero, List.set_cons_succ, i64_w, i32_w]
          rfl
        refine pure_ (i := 3) (N := some 43) (v := ?_) (a' := ?_) #[true, true, true, true, false, false, false, false, false, false, false] rfl rfl (any_of HT_.out (by kernel_rfl)) (fun _ _ _ h => h) (Or.inl ⟨by rfl, ?_⟩) ?_ ?_
        rotate_left
        · intro w'
          go_simp
          try with_reducible rfl
        rotate_left
        · simp only [Act.put, List.setIfInBounds_toArray, List.set_cons_zero, List.set_cons_succ, i64_w, i32_w]
          rfl
        refine take_ (i := 4) (N := some 44) (v := ?_) (a' := ?_) #[true, true, true, true, true, false, false, false, false, false, false] rfl rfl (take_ofW HT_.out HW_.out (by kernel_rfl)) (fun _ _ _ h => h) (Or.inl ⟨by rfl, ?_⟩) hHeld ?_ ?_
        rotate_left
        · rintro w' ⟨s0, s1, s2, s3, s4, s5, s6, s7⟩
          go_simp
          with_reducible rfl
        rotate_left
        · simp only [Act.put, List.setIfInBounds_toArray, List.set_cons_zero, List.set_cons_succ, i64_w, i32_w]
          rfl
        refine pure_ (i := 5) (N := some 45) (v := ?_) (a' := ?_) #[true, true, true, true, true, true, false, false, false, false, false] rfl rfl (any_of HT_.out (by kernel_rfl)) (fun _ _ _ h => h) (Or.inl ⟨by rfl, ?_⟩) ?_ ?_
        rotate_left
        · intro w'
          go_simp
          try with_reducible rfl
        rotate_left
        · simp only [Act.put, List.setIfInBounds_toArray, List.set_cons_zero, List.set_cons_succ, i64_w, i32_w]
          rfl
        refine pure_ (i := 6) (N := some 46) (v := ?_) (a' := ?_) #[true, true, true, true, true, true, true, false, false, false, false] rfl rfl (any_of HT_.out (by kernel_rfl)) (fun _ _ _ h => h) (Or.inl ⟨by rfl, ?_⟩) ?_ ?_
        rotate_left
        · intro w'
          go_simp
          try with_reducible rfl
        rotate_left
        · simp only [Act.put, List.setIfInBounds_toArray, List.set_cons_zero, List.set_cons_succ, i64_w, i32_w]
          rfl
        refine pure_ (i := 7) (N := some 47) (v := ?_) (a' := ?_) #[true, true, true, true, true, true, true, true, false, false, false] rfl rfl (any_of HT_.out (by kernel_rfl)) (fun _ _ _ h => h) (Or.inl ⟨by rfl, ?_⟩) ?_ ?_
        rotate_left
        · intro w'
          go_simp
          try with_reducible rfl
        rotate_left
        · simp only [Act.put, List.setIfInBounds_toArray, List.set_cons_zero, List.set_cons_succ, i64_w, i32_w]
          rfl
        refine take_ (i := 8) (N := some 48) (v := ?_) (a' := ?_) #[true, true, true, true, true, true, true, true, true, false, false] rfl rfl (take_ofW HT_.out HW_.out (by kernel_rfl)) (fun _ _ _ h => h) (Or.inl ⟨by rfl, ?_⟩) hHeld ?_ ?_
        rotate_left
        · rintro w' ⟨s0, s1, s2, s3, s4, s5, s6, s7⟩
          go_simp
          with_reducible rfl
        rotate_left
        · simp only [Act.put, List.setIfInBounds_toArray, List.set_cons_zero, List.set_cons_succ, i64_w, i32_w]
          rfl
        refine one_ (i := 9) (N := some 49) #[true, true, true, true, true, true, true, true, true, true, false] rfl rfl (one_of HT_.out (by kernel_rfl)) (by decide) (fun K hK => ?_)
        refine goesC0_ 40 (by rfl) Try.func22 (by kernel_rfl) rfl #[.agg #[.int .i64 X.1.f0, .int .i64 X.1.f1, .slice Aa2 X.1.f2.length ca2, .slice Aa3 X.1.f3.length ca3], .agg #[.int .i64 Z.1.f0, .int .i64 Z.1.f1, .slice Ab2 Z.1.f2.length cb2, .slice Ab3 Z.1.f3.length cb3]] (by rfl) rfl rfl (by (try simp only [List.map_toArray, List.map_cons, List.map_nil]); first | done | rfl | (simp only [List.length_drop, List.length_take]; rfl)) ?_
        have hb_ : ∀ {w1 w2 : World}, Below w1.heap.size w1 w2 → Below w1.heap.size w1 w2 := fun h => h
        refine (impl_CompareValues.calls KC X.1.f0 X.1.f1 Aa2 ca2 X.1.f2 Aa3 ca3 X.1.f3 Z.1.f0 Z.1.f1 Ab2 cb2 Z.1.f2 Ab3 cb3 Z.1.f3 _ _ GA2.out.2 GA2.out.1 GA3.out.2 GA3.out.1 GB2.out.2 GB2.out.1 GB3.out.2 GB3.out.1 HC.out).mono ?_
        rintro e w2 ⟨rfl, hd⟩
        refine ⟨_, rfl, ?_⟩
        try replace hd := Drawn0.below hd
        replace HO := Aside0.mk (Kd.R_below HO.out hd)
        replace HB := Aside0.mk (below_step HB.out hd)
        replace HY := Aside0.mk (HY.out.trans (Only.below hd))
        replace PC := Aside0.mk (show w2.cell? ⟨g, h * 4, none⟩ = some (.int .i64 X.1.f0) ∧ w2.cell? ⟨g, h * 4 + 1, none⟩ = some (.int .i64 X.1.f1) ∧ w2.cell? ⟨g, h * 4 + 2, none⟩ = some (.slice Aa2 X.1.f2.length ca2) ∧ w2.cell? ⟨g, h * 4 + 3, none⟩ = some (.slice Aa3 X.1.f3.length ca3) ∧ w2.cell? ⟨g, a * 4, none⟩ = some (.int .i64 Z.1.f0) ∧ w2.cell? ⟨g, a * 4 + 1, none⟩ = some (.int .i64 Z.1.f1) ∧ w2.cell? ⟨g, a * 4 + 2, none⟩ = some (.slice Ab2 Z.1.f2.length cb2) ∧ w2.cell? ⟨g, a * 4 + 3, none⟩ = some (.slice Ab3 Z.1.f3.length cb3) from ⟨pw_cell_below hd PC.out.1, pw_cell_below hd PC.out.2.1, pw_cell_below hd PC.out.2.2.1, pw_cell_below hd PC.out.2.2.2.1, pw_cell_below hd PC.out.2.2.2.2.1, pw_cell_below hd PC.out.2.2.2.2.2.1, pw_cell_below hd PC.out.2.2.2.2.2.2.1, pw_cell_below hd PC.out.2.2.2.2.2.2.2⟩)
        clear hd
        refine hK.out _ _ PC.out (fun hHeld => ?_)
        clear hK K
        refine norm_ (a' := ?_) ?_ ?_
        rotate_left
        · show Act.put _ (some 49) _ = _
          simp only [Act.put, List.setIfInBounds_toArray, List.set_cons_zero, List.set_cons_succ, i64_w, i32_w]
          rfl
        refine pure_ (i := 10) (N := some 50) (v := ?_) (a' := ?_) #[true, true, true, true, true, true, true, true, true, true, true] rfl rfl (any_of HT_.out (by kernel_rfl)) (fun _ _ _ h => h) (Or.inl ⟨by rfl, ?_⟩) ?_ ?_
        rotate_left
        · intro w'
          go_simp
          try with_reducible rfl
        rotate_left
        · simp only [Act.put, List.setIfInBounds_toArray, List.set_cons_zero, List.set_cons_succ, i64_w, i32_w]
          rfl
        refine done_ (done_of HT_.out (by kernel_rfl)) ?_
        clear HT_ HW_
        clear r7 hHeld PC GA2 GA3 GB2 GB3
        try go_wp2
        go_roundg (j - (h + 1))
        case measure => have := HJ.out; have := HD1.out; have := Eh.out; omega
        case rel => exact ⟨fb, h + 1, j, (by first | rfl | rw [hwh] | simp [hwh]), rfl, ⟨by have := HJ.out.1; have := HD1.out; have := Eh.out; omega, rfl, by rw [← HJ.out.2.2]; exact (bs_yes (p := fun h => ltP (xs.getD h (z30, 0)) (xs.getD a (z30, 0))) HD1.out Eh.out (by have q0 : ltP (xs.getD h (z30, 0)) (xs.getD a (z30, 0)) = true := ltP_yes (by have q1 := HX.out; have q2 := HZ.out; have q3 := HE2.out; rw [q1, q2] at q3; first | exact q3 | omega); exact q0)).symm⟩, HO, HB, HY⟩
      · have r7 : (cmT X.1 Z.1 < 0) = False := eq_false e2
        have HE2 := Aside0.mk e2
        clear e2
        refine start_ (n := 11) (S := fun w' => w'.cell? ⟨g, h * 4, none⟩ = some (.int .i64 X.1.f0) ∧ w'.cell? ⟨g, h * 4 + 1, none⟩ = some (.int .i64 X.1.f1) ∧ w'.cell? ⟨g, h * 4 + 2, none⟩ = some (.slice Aa2 X.1.f2.length ca2) ∧ w'.cell? ⟨g, h * 4 + 3, none⟩ = some (.slice Aa3 X.1.f3.length ca3) ∧ w'.cell? ⟨g, a * 4, none⟩ = some (.int .i64 Z.1.f0) ∧ w'.cell? ⟨g, a * 4 + 1, none⟩ = some (.int .i64 Z.1.f1) ∧ w'.cell? ⟨g, a * 4 + 2, none⟩ = some (.slice Ab2 Z.1.f2.length cb2) ∧ w'.cell? ⟨g, a * 4 + 3, none⟩ = some (.slice Ab3 Z.1.f3.length cb3)) (ds := []) #[false, false, false, false, false, false, false, false, false, false, false] (by kernel_rfl) rfl rfl PC.out (fun hHeld => ?_); refine with_tabW tabSym.tab5 tabSym.bits5 (fun HT_ HW_ => ?_)
        generalize World.drew _ = w1 at HO HB HY PC GA2 GA3 GB2 GB3 hHeld ⊢
        refine pure_ (i := 0) (N := some 40) (v := ?_) (a' := ?_) #[true, false, false, false, false, false, false, false, false, false, false] rfl rfl (any_of HT_.out (by kernel_rfl)) (fun _ _ _ h => h) (Or.inl ⟨by rfl, ?_⟩) ?_ ?_
        rotate_left
        · intro w'
          go_simp
          try with_reducible rfl
        rotate_left
        · simp only [Act.put, List.setIfInBounds_toArray, List.set_cons_zero, List.set_cons_succ, i64_w, i32_w]
          rfl
        refine pure_ (i := 1) (N := some 41) (v := ?_) (a' := ?_) #[true, true, false, false, false, false, false, false, false, false, false] rfl rfl (any_of HT_.out (by kernel_rfl)) (fun _ _ _ h => h) (Or.inl ⟨by rfl, ?_⟩) ?_ ?_
        rotate_left
        · intro w'
          go_simp
          try with_reducible rfl
        rotate_left
        · simp only [Act.put, List.setIfInBounds_toArray, List.set_cons_zero, List.set_cons_succ, i64_w, i32_w]
          rfl
        refine pure_ (i := 2) (N := some 42) (v := ?_) (a' := ?_) #[true, true, true, false, false, false, false, false, false, false, false] rfl rfl (any_of HT_.out (by kernel_rfl)) (fun _ _ _ h => h) (Or.inl ⟨by rfl, ?_⟩) ?_ ?_
        rotate_left
        · intro w'
          go_simp
          try with_reducible rfl
        rotate_left
        · simp only [Act.put, List.setIfInBounds_toArray, List.set_cons_zero, List.set_cons_succ, i64_w, i32_w]
          rfl
        refine pure_ (i := 3) (N := some 43) (v := ?_) (a' := ?_) #[true, true, true, true, false, false, false, false, false, false, false] rfl rfl (any_of HT_.out (by kernel_rfl)) (fun _ _ _ h => h) (Or.inl ⟨by rfl, ?_⟩) ?_ ?_
        rotate_left
        · intro w'
          go_simp
          try with_reducible rfl
        rotate_left
        · simp only [Act.put, List.setIfInBounds_toArray, List.set_cons_zero, List.set_cons_succ, i64_w, i32_w]
          rfl
        refine take_ (i := 4) (N := some 44) (v := ?_) (a' := ?_) #[true, true, true, true, true, false, false, false, false, false, false] rfl rfl (take_ofW HT_.out HW_.out (by kernel_rfl)) (fun _ _ _ h => h) (Or.inl ⟨by rfl, ?_⟩) hHeld ?_ ?_
        rotate_left
        · rintro w' ⟨s0, s1, s2, s3, s4, s5, s6, s7⟩
          go_simp
          with_reducible rfl
        rotate_left
        · simp only [Act.put, List.setIfInBounds_toArray, List.set_cons_zero, List.set_cons_succ, i64_w, i32_w]
          rfl
        refine pure_ (i := 5) (N := some 45) (v := ?_) (a' := ?_) #[true, true, true, true, true, true, false, false, false, false, false] rfl rfl (any_of HT_.out (by kernel_rfl)) (fun _ _ _ h => h) (Or.inl ⟨by rfl, ?_⟩) ?_ ?_
        rotate_left
        · intro w'
          go_simp
          try with_reducible rfl
        rotate_left
        · simp only [Act.put, List.setIfInBounds_toArray, List.set_cons_zero, List.set_cons_succ, i64_w, i32_w]
          rfl
        refine pure_ (i := 6) (N := some 46) (v := ?_) (a' := ?_) #[true, true, true, true, true, true, true, false, false, false, false] rfl rfl (any_of HT_.out (by kernel_rfl)) (fun _ _ _ h => h) (Or.inl ⟨by rfl, ?_⟩) ?_ ?_
        rotate_left
        · intro w'
          go_simp
          try with_reducible rfl
        rotate_left
        · simp only [Act.put, List.setIfInBounds_toArray, List.set_cons_zero, List.set_cons_succ, i64_w, i32_w]
          rfl
        refine pure_ (i := 7) (N := some 47) (v := ?_) (a' := ?_) #[true, true, true, true, true, true, true, true, false, false, false] rfl rfl (any_of HT_.out (by kernel_rfl)) (fun _ _ _ h => h) (Or.inl ⟨by rfl, ?_⟩) ?_ ?_
        rotate_left
        · intro w'
          go_simp
          try with_reducible rfl
        rotate_left
        · simp only [Act.put, List.setIfInBounds_toArray, List.set_cons_zero, List.set_cons_succ, i64_w, i32_w]
          rfl
        refine take_ (i := 8) (N := some 48) (v := ?_) (a' := ?_) #[true, true, true, true, true, true, true, true, true, false, false] rfl rfl (take_ofW HT_.out HW_.out (by kernel_rfl)) (fun _ _ _ h => h) (Or.inl ⟨by rfl, ?_⟩) hHeld ?_ ?_
        rotate_left
        · rintro w' ⟨s0, s1, s2, s3, s4, s5, s6, s7⟩
          go_simp
          with_reducible rfl
        rotate_left
        · simp only [Act.put, List.setIfInBounds_toArray, List.set_cons_zero, List.set_cons_succ, i64_w, i32_w]
          rfl
        refine one_ (i := 9) (N := some 49) #[true, true, true, true, true, true, true, true, true, true, false] rfl rfl (one_of HT_.out (by kernel_rfl)) (by decide) (fun K hK => ?_)
        refine goesC0_ 40 (by rfl) Try.func22 (by kernel_rfl) rfl #[.agg #[.int .i64 X.1.f0, .int .i64 X.1.f1, .slice Aa2 X.1.f2.length ca2, .slice Aa3 X.1.f3.length ca3], .agg #[.int .i64 Z.1.f0, .int .i64 Z.1.f1, .slice Ab2 Z.1.f2.length cb2, .slice Ab3 Z.1.f3.length cb3]] (by rfl) rfl rfl (by (try simp only [List.map_toArray, List.map_cons, List.map_nil]); first | done | rfl | (simp only [List.length_drop, List.length_take]; rfl)) ?_
        have hb_ : ∀ {w1 w2 : World}, Below w1.heap.size w1 w2 → Below w1.heap.size w1 w2 := fun h => h
        refine (impl_CompareValues.calls KC X.1.f0 X.1.f1 Aa2 ca2 X.1.f2 Aa3 ca3 X.1.f3 Z.1.f0 Z.1.f1 Ab2 cb2 Z.1.f2 Ab3 cb3 Z.1.f3 _ _ GA2.out.2 GA2.out.1 GA3.out.2 GA3.out.1 GB2.out.2 GB2.out.1 GB3.out.2 GB3.out.1 HC.out).mono ?_
        rintro e w2 ⟨rfl, hd⟩
        refine ⟨_, rfl, ?_⟩
        try replace hd := Drawn0.below hd
        replace HO := Aside0.mk (Kd.R_below HO.out hd)
        replace HB := Aside0.mk (below_step HB.out hd)
        replace HY := Aside0.mk (HY.out.trans (Only.below hd))
        replace PC := Aside0.mk (show w2.cell? ⟨g, h * 4, none⟩ = some (.int .i64 X.1.f0) ∧ w2.cell? ⟨g, h * 4 + 1, none⟩ = some (.int .i64 X.1.f1) ∧ w2.cell? ⟨g, h * 4 + 2, none⟩ = some (.slice Aa2 X.1.f2.length ca2) ∧ w2.cell? ⟨g, h * 4 + 3, none⟩ = some (.slice Aa3 X.1.f3.length ca3) ∧ w2.cell? ⟨g, a * 4, none⟩ = some (.int .i64 Z.1.f0) ∧ w2.cell? ⟨g, a * 4 + 1, none⟩ = some (.int .i64 Z.1.f1) ∧ w2.cell? ⟨g, a * 4 + 2, none⟩ = some (.slice Ab2 Z.1.f2.length cb2) ∧ w2.cell? ⟨g, a * 4 + 3, none⟩ = some (.slice Ab3 Z.1.f3.length cb3) from ⟨pw_cell_below hd PC.out.1, pw_cell_below hd PC.out.2.1, pw_cell_below hd PC.out.2.2.1, pw_cell_below hd PC.out.2.2.2.1, pw_cell_below hd PC.out.2.2.2.2.1, pw_cell_below hd PC.out.2.2.2.2.2.1, pw_cell_below hd PC.out.2.2.2.2.2.2.1, pw_cell_below hd PC.out.2.2.2.2.2.2.2⟩)
        clear hd
        refine hK.out _ _ PC.out (fun hHeld => ?_)
        clear hK K
        refine norm_ (a' := ?_) ?_ ?_
        rotate_left
        · show Act.put _ (some 49) _ = _
          simp only [Act.put, List.setIfInBounds_toArray, List.set_cons_zero, List.set_cons_succ, i64_w, i32_w]
          rfl
        refine pure_ (i := 10) (N := some 50) (v := ?_) (a' := ?_) #[true, true, true, true, true, true, true, true, true, true, true] rfl rfl (any_of HT_.out (by kernel_rfl)) (fun _ _ _ h => h) (Or.inl ⟨by rfl, ?_⟩) ?_ ?_
        rotate_left
        · intro w'
          go_simp
          try with_reducible rfl
        rotate_left
        · simp only [Act.put, List.setIfInBounds_toArray, List.set_cons_zero, List.set_cons_succ, i64_w, i32_w]
          rfl
        refine done_ (done_of HT_.out (by kernel_rfl)) ?_
        clear HT_ HW_
        clear r7 hHeld PC GA2 GA3 GB2 GB3
        try go_wp2
        go_roundg (h - i)
        case measure => have := HJ.out; have := HD1.out; have := Eh.out; omega
        case rel => exact ⟨fb, i, h, rfl, rfl, ⟨by have := HJ.out.1; have := HD1.out; have := Eh.out; omega, rfl, by rw [← HJ.out.2.2]; exact (bs_no (p := fun h => ltP (xs.getD h (z30, 0)) (xs.getD a (z30, 0))) HD1.out Eh.out (by have q0 : ltP (xs.getD h (z30, 0)) (xs.getD a (z30, 0)) = false := ltP_no (by have q1 := HX.out; have q2 := HZ.out; have q3 := HE2.out; rw [q1, q2] at q3; first | exact q3 | omega); exact q0)).symm⟩, HO, HB, HY⟩
    · have HE : Aside0 (i = St.bs (fun h => ltP (xs.getD h (z30, 0)) (xs.getD a (z30, 0))) (b - m) m b) := ⟨by rw [← HJ.out.2.2]; exact (bs_stop d1).symm⟩
      have d2 : ¬ ((i : Int) < (j : Int)) := by omega
      have d3 : decide ((i : Int) < (j : Int)) = false := decide_eq_false d2
      have HIR : Aside0 (m ≤ i ∧ i ≤ b) := ⟨by have := HJ.out.1; omega⟩
      clear d1
      go_wp2
      clear d2 d3
      go_loopg [13] (i - 1 - a) (fun gq v13 w' => ∃ (k : Nat) (ys : List (S30 × Nat)), v13 = .int .i64 (k : Int) ∧ Aside0 ((a ≤ k ∧ k + 1 ≤ i) ∧ gq = (i - 1 - k) ∧ St.mvUp (z30, 0) (i - 1 - k) k ys = St.mvUp (z30, 0) (i - 1 - a) a xs ∧ SmL (ys)) ∧ Aside0 (Kd.R (Kd.tag fo k30) 30 w' w0.heap.size ok (.slice (some ⟨g, 0, none⟩) n cap) ys) ∧ Aside0 (Below w0.heap.size w0 w') ∧ Aside0 (Only g w w'))
      case atStart => exact ⟨a, xs, rfl, ⟨by have := HIR.out; have := HA.out; omega, rfl, rfl, HS.out⟩, HO, HB, HY⟩
      case round =>
        clear HO HB HY
        obtain ⟨k, ys, rfl, HK, HO, HB, HY⟩ := hrel
        obtain ⟨i1, hi1_⟩ : ∃ q : Nat, q = i - 1 := ⟨_, rfl⟩
        have Ei1 := Aside0.mk hi1_
        clear hi1_
        have r1 : wrap64 ((i : Int) - 1) = (i1 : Int) := by have := Ei1.out; have := HIR.out; have := HA.out; have := HN.out; unfold wrap64; omega
        by_cases d1 : k + 1 < i
        · have HD1 := Aside0.mk d1
          have d2 : (k : Int) < (i1 : Int) := by have := Ei1.out; omega
          have d3 : decide ((k : Int) < (i1 : Int)) = true := decide_eq_true d2
          have d4 : ((k : Int) < (i1 : Int)) = True := eq_true d2
          clear d1
          go_wp2
          clear d2 d3 d4 r1
          obtain ⟨q, hq_⟩ : ∃ q : Nat, q = k + 1 := ⟨_, rfl⟩
          have Eq := Aside0.mk hq_
          clear hq_
          have HL := Aside0.mk (Kd.R_reads' HO.out).1
          have HKQ : Aside0 (k < n ∧ q < n) := ⟨by have := Eq.out; have := HD1.out; have := HIR.out; have := HA.out; have := HK.out.1; omega⟩
          have r2 : wrap64 ((k : Int) + 1) = (q : Int) := by have := Eq.out; have := HKQ.out; have := HN.out; have := HD1.out; unfold wrap64; omega
          have r3 : ((k : Int) < (n : Int)) = True := eq_true (by have := HKQ.out; omega)
          have r4 : ((q : Int) < (n : Int)) = True := eq_true (by have := HKQ.out; omega)
          have r5 : (0 ≤ (k : Int)) = True := eq_true (by omega)
          have r6 : (0 ≤ (q : Int)) = True := eq_true (by omega)
          replace HO := Aside0.mk (Kd.R_drew HO.out)
          replace HB := Aside0.mk (below_drew1 HB.out)
          replace HY := Aside0.mk (HY.out.trans drewOnly)
          obtain ⟨ci, cj, li, lj, Mi, Mj, hci, hcj, fi, fj, RS, OS, BS, NC, NF⟩ := R_swap HO.out (z30, 0) k q (by exact HKQ.out.1) (by exact HKQ.out.2)
          obtain ⟨X_, hX_⟩ : ∃ X, X = ys.getD k (z30, 0) := ⟨_, rfl⟩
          obtain ⟨Z_, hZ_⟩ : ∃ Z, Z = ys.getD q (z30, 0) := ⟨_, rfl⟩
          rw [← hX_] at Mi; rw [← hZ_] at Mj
          clear hX_ hZ_
          obtain ⟨va2, va3, rfl, ga2, ga3⟩ := k30_openM Mi
          obtain ⟨vb2, vb3, rfl, gb2, gb3⟩ := k30_openM Mj
          obtain ⟨Ea2, fa2, rfl⟩ := Kd.R_slice ga2
          obtain ⟨Ea3, fa3, rfl⟩ := Kd.R_slice (Kd.S_R ga3)
          obtain ⟨Eb2, fb2, rfl⟩ := Kd.R_slice gb2
          obtain ⟨Eb3, fb3, rfl⟩ := Kd.R_slice (Kd.S_R gb3)
          have p0 := hci 0 _ rfl
          have p1 := hci 1 _ rfl
          have p2 := hci 2 _ rfl
          have p3 := hci 3 _ rfl
          have p4 := hcj 0 _ rfl
          have p5 := hcj 1 _ rfl
          have p6 := hcj 2 _ rfl
          have p7 := hcj 3 _ rfl
          have q0 := fi 0
          have q1 := fi 1
          have q2 := fi 2
          have q3 := fi 3
          have q4 := fj 0
          have q5 := fj 1
          have q6 := fj 2
          have q7 := fj 3
          obtain ⟨un0, n0⟩ := NC 0 (by show 0 < 4; decide)
          obtain ⟨un1, n1⟩ := NC 1 (by show 1 < 4; decide)
          obtain ⟨un2, n2⟩ := NC 2 (by show 2 < 4; decide)
          obtain ⟨un3, n3⟩ := NC 3 (by show 3 < 4; decide)
          have m0 := NF 0
          have m1 := NF 1
          have m2 := NF 2
          have m3 := NF 3
          simp only [show (Kd.tag fo k30).sz = 4 from rfl, Nat.add_zero] at p0 p1 p2 p3 p4 p5 p6 p7 q0 q1 q2 q3 q4 q5 q6 q7
          simp only [show (Kd.tag fo k30).sz = 4 from rfl, World.setCells, Nat.add_assoc, Nat.add_zero, Nat.reduceAdd] at RS OS BS n0 m0 n1 m1 n2 m2 n3 m3
          have RS_ := Aside0.mk RS; have OS_ := Aside0.mk OS; have BS_ := Aside0.mk (BS w0 HG.out)
          clear RS OS BS NC NF hci hcj fi fj li lj Mi Mj ga2 ga3 gb2 gb3
          refine start_ (n := 18) (S := fun w' => w'.cell? ⟨g, k * 4, none⟩ = some (.int .i64 X_.1.f0) ∧ w'.cell? ⟨g, k * 4 + 1, none⟩ = some (.int .i64 X_.1.f1) ∧ w'.cell? ⟨g, k * 4 + 2, none⟩ = some (.slice Ea2 X_.1.f2.length fa2) ∧ w'.cell? ⟨g, k * 4 + 3, none⟩ = some (.slice Ea3 X_.1.f3.length fa3) ∧ w'.cell? ⟨g, q * 4, none⟩ = some (.int .i64 Z_.1.f0) ∧ w'.cell? ⟨g, q * 4 + 1, none⟩ = some (.int .i64 Z_.1.f1) ∧ w'.cell? ⟨g, q * 4 + 2, none⟩ = some (.slice Eb2 Z_.1.f2.length fb2) ∧ w'.cell? ⟨g, q * 4 + 3, none⟩ = some (.slice Eb3 Z_.1.f3.length fb3)) (ds := [15, 17]) #[false, false, false, false, false, false, false, false, false, false, false, false, false, false, false, false, false, false] (by kernel_rfl) rfl rfl ⟨p0, p1, p2, p3, p4, p5, p6, p7⟩ (fun hHeld => ?_); refine with_tabW tabSym.tab11 tabSym.bits11 (fun HT_ HW_ => ?_)
          generalize World.drew _ = w3 at HO HB HY RS_ OS_ BS_ hHeld p0 p1 p2 p3 p4 p5 p6 p7 q0 q1 q2 q3 q4 q5 q6 q7 n0 m0 n1 m1 n2 m2 n3 m3  ⊢
          refine pure_ (i := 0) (N := some 61) (v := ?_) (a' := ?_) #[true, false, false, false, false, false, false, false, false, false, false, false, false, false, false, false, false, false] rfl rfl (any_of HT_.out (by kernel_rfl)) (fun _ _ _ h => h) (Or.inl ⟨by rfl, ?_⟩) ?_ ?_
          rotate_left
          · intro w'
            go_simp
            try with_reducible rfl
          rotate_left
          · simp only [Act.put, List.setIfInBounds_toArray, List.set_cons_zero, List.set_cons_succ, i64_w, i32_w]
            rfl
          refine pure_ (i := 1) (N := some 62) (v := ?_) (a' := ?_) #[true, true, false, false, false, false, false, false, false, false, false, false, false, false, false, false, false, false] rfl rfl (any_of HT_.out (by kernel_rfl)) (fun _ _ _ h => h) (Or.inl ⟨by rfl, ?_⟩) ?_ ?_
          rotate_left
          · intro w'
            go_simp
            try with_reducible rfl
          rotate_left
          · simp only [Act.put, List.setIfInBounds_toArray, List.set_cons_zero, List.set_cons_succ, i64_w, i32_w]
            rfl
          refine pure_ (i := 2) (N := some 63) (v := ?_) (a' := ?_) #[true, true, true, false, false, false, false, false, false, false, false, false, false, false, false, false, false, false] rfl rfl (any_of HT_.out (by kernel_rfl)) (fun _ _ _ h => h) (Or.inl ⟨by rfl, ?_⟩) ?_ ?_
          rotate_left
          · intro w'
            go_simp
            try with_reducible rfl
          rotate_left
          · simp only [Act.put, List.setIfInBounds_toArray, List.set_cons_zero, List.set_cons_succ, i64_w, i32_w]
            rfl
          refine pure_ (i := 3) (N := some 64) (v := ?_) (a' := ?_) #[true, true, true, true, false, false, false, false, false, false, false, false, false, false, false, false, false, false] rfl rfl (any_of HT_.out (by kernel_rfl)) (fun _ _ _ h => h) (Or.inl ⟨by rfl, ?_⟩) ?_ ?_
          rotate_left
          · intro w'
            go_simp
            try with_reducible rfl
          rotate_left
          · simp only [Act.put, List.setIfInBounds_toArray, List.set_cons_zero, List.set_cons_succ, i64_w, i32_w]
            rfl
          refine pure_ (i := 4) (N := some 65) (v := ?_) (a' := ?_) #[true, true, true, true, true, false, false, false, false, false, false, false, false, false, false, false, false, false] rfl rfl (any_of HT_.out (by kernel_rfl)) (fun _ _ _ h => h) (Or.inl ⟨by rfl, ?_⟩) ?_ ?_
          rotate_left
          · intro w'
            go_simp
            try with_reducible rfl
          rotate_left
          · simp only [Act.put, List.setIfInBounds_toArray, List.set_cons_zero, List.set_cons_succ, i64_w, i32_w]
            rfl
          refine pure_ (i := 5) (N := some 66) (v := ?_) (a' := ?_) #[true, true, true, true, true, true, false, false, false, false, false, false, false, false, false, false, false, false] rfl rfl (any_of HT_.out (by kernel_rfl)) (fun _ _ _ h => h) (Or.inl ⟨by rfl, ?_⟩) ?_ ?_
          rotate_left
          · intro w'
            go_simp
            try with_reducible rfl
          rotate_left
          · simp only [Act.put, List.setIfInBounds_toArray, List.set_cons_zero, List.set_cons_succ, i64_w, i32_w]
            rfl
          refine pure_ (i := 6) (N := some 67) (v := ?_) (a' := ?_) #[true, true, true, true, true, true, true, false, false, false, false, false, false, false, false, false, false, false] rfl rfl (any_of HT_.out (by kernel_rfl)) (fun _ _ _ h => h) (Or.inl ⟨by rfl, ?_⟩) ?_ ?_
          rotate_left
          · intro w'
            go_simp
            try with_reducible rfl
          rotate_left
          · simp only [Act.put, List.setIfInBounds_toArray, List.set_cons_zero, List.set_cons_succ, i64_w, i32_w]
            rfl
          refine pure_ (i := 7) (N := some 68) (v := ?_) (a' := ?_) #[true, true, true, true, true, true, true, true, false, false, false, false, false, false, false, false, false, false] rfl rfl (any_of HT_.out (by kernel_rfl)) (fun _ _ _ h => h) (Or.inl ⟨by rfl, ?_⟩) ?_ ?_
          rotate_left
          · intro w'
            go_simp
            try with_reducible rfl
          rotate_left
          · simp only [Act.put, List.setIfInBounds_toArray, List.set_cons_zero, List.set_cons_succ, i64_w, i32_w]
            rfl
          refine pure_ (i := 8) (N := some 69) (v := ?_) (a' := ?_) #[true, true, true, true, true, true, true, true, true, false, false, false, false, false, false, false, false, false] rfl rfl (any_of HT_.out (by kernel_rfl)) (fun _ _ _ h => h) (Or.inl ⟨by rfl, ?_⟩) ?_ ?_
          rotate_left
          · intro w'
            go_simp
            try with_reducible rfl
          rotate_left
          · simp only [Act.put, List.setIfInBounds_toArray, List.set_cons_zero, List.set_cons_succ, i64_w, i32_w]
            rfl
          refine take_ (i := 9) (N := some 70) (v := ?_) (a' := ?_) #[true, true, true, true, true, true, true, true, true, true, false, false, false, false, false, false, false, false] rfl rfl (take_ofW HT_.out HW_.out (by kernel_rfl)) (fun _ _ _ h => h) (Or.inl ⟨by rfl, ?_⟩) hHeld ?_ ?_
          rotate_left
          · rintro w' ⟨s0, s1, s2, s3, s4, s5, s6, s7⟩
            go_simp
            with_reducible rfl
          rotate_left
          · simp only [Act.put, List.setIfInBounds_toArray, List.set_cons_zero, List.set_cons_succ, i64_w, i32_w]
            rfl
          refine pure_ (i := 10) (N := some 71) (v := ?_) (a' := ?_) #[true, true, true, true, true, true, true, true, true, true, true, false, false, false, false, false, false, false] rfl rfl (any_of HT_.out (by kernel_rfl)) (fun _ _ _ h => h) (Or.inl ⟨by rfl, ?_⟩) ?_ ?_
          rotate_left
          · intro w'
            go_simp
            try with_reducible rfl
          rotate_left
          · simp only [Act.put, List.setIfInBounds_toArray, List.set_cons_zero, List.set_cons_succ, i64_w, i32_w]
            rfl
          refine pure_ (i := 11) (N := some 72) (v := ?_) (a' := ?_) #[true, true, true, true, true, true, true, true, true, true, true, true, false, false, false, false, false, false] rfl rfl (any_of HT_.out (by kernel_rfl)) (fun _ _ _ h => h) (Or.inl ⟨by rfl, ?_⟩) ?_ ?_
          rotate_left
          · intro w'
            go_simp
            try with_reducible rfl
          rotate_left
          · simp only [Act.put, List.setIfInBounds_toArray, List.set_cons_zero, List.set_cons_succ, i64_w, i32_w]
            rfl
          refine pure_ (i := 12) (N := some 73) (v := ?_) (a' := ?_) #[true, true, true, true, true, true, true, true, true, true, true, true, true, false, false, false, false, false] rfl rfl (any_of HT_.out (by kernel_rfl)) (fun _ _ _ h => h) (Or.inl ⟨by rfl, ?_⟩) ?_ ?_
          rotate_left
          · intro w'
            go_simp
            try with_reducible rfl
          rotate_left
          · simp only [Act.put, List.setIfInBounds_toArray, List.set_cons_zero, List.set_cons_succ, i64_w, i32_w]
            rfl
          refine take_ (i := 13) (N := some 74) (v := ?_) (a' := ?_) #[true, true, true, true, true, true, true, true, true, true, true, true, true, true, false, false, false, false] rfl rfl (take_ofW HT_.out HW_.out (by kernel_rfl)) (fun _ _ _ h => h) (Or.inl ⟨by rfl, ?_⟩) hHeld ?_ ?_
          rotate_left
          · rintro w' ⟨s0, s1, s2, s3, s4, s5, s6, s7⟩
            go_simp
            with_reducible rfl
          rotate_left
          · simp only [Act.put, List.setIfInBounds_toArray, List.set_cons_zero, List.set_cons_succ, i64_w, i32_w]
            rfl
          refine pure_ (i := 14) (N := some 75) (v := ?_) (a' := ?_) #[true, true, true, true, true, true, true, true, true, true, true, true, true, true, true, false, false, false] rfl rfl (any_of HT_.out (by kernel_rfl)) (fun _ _ _ h => h) (Or.inl ⟨by rfl, ?_⟩) ?_ ?_
          rotate_left
          · intro w'
            go_simp
            try with_reducible rfl
          rotate_left
          · simp only [Act.put, List.setIfInBounds_toArray, List.set_cons_zero, List.set_cons_succ, i64_w, i32_w]
            rfl
          refine last_ (i := 15) (N := none) #[true, true, true, true, true, true, true, true, true, true, true, true, true, true, true, true, false, false] rfl rfl (one_of HT_.out (by kernel_rfl)) (by decide) (fun K hK => ?_)
          refine skip_ (w1 := ?_) (by rfl) rfl ?_ ?_
          rotate_left
          · go_simp
            rfl
          refine hK.out _ _ ?_
          clear hK K
          refine pure_ (i := 16) (N := some 76) (v := ?_) (a' := ?_) #[true, true, true, true, true, true, true, true, true, true, true, true, true, true, true, true, true, false] rfl rfl (any_of HT_.out (by kernel_rfl)) (fun _ _ _ h => h) (Or.inl ⟨by rfl, ?_⟩) ?_ ?_
          rotate_left
          · intro w'
            go_simp
            try with_reducible rfl
          rotate_left
          · simp only [Act.put, List.setIfInBounds_toArray, List.set_cons_zero, List.set_cons_succ, i64_w, i32_w]
            rfl
          refine last_ (i := 17) (N := none) #[true, true, true, true, true, true, true, true, true, true, true, true, true, true, true, true, true, true] rfl rfl (one_of HT_.out (by kernel_rfl)) (by decide) (fun K hK => ?_)
          refine skip_ (w1 := ?_) (by rfl) rfl ?_ ?_
          rotate_left
          · go_simp
            rfl
          refine hK.out _ _ ?_
          clear hK K
          refine done_ (done_of HT_.out (by kernel_rfl)) ?_
          clear HT_ HW_
          clear p0 p1 p2 p3 p4 p5 p6 p7 q0 q1 q2 q3 q4 q5 q6 q7 n0 m0 n1 m1 n2 m2 n3 m3 hHeld HO
          replace HO := RS_
          clear RS_
          replace HB := Aside0.mk (BS_.out HB.out)
          replace HY := Aside0.mk (HY.out.trans OS_.out)
          clear OS_ BS_
          try go_wp2
          go_roundg (i - 1 - q)
          case measure => have := HK.out.2.1; have := HD1.out; have := Eq.out; omega
          case rel => exact ⟨q, St.swp (z30, 0) ys k q, (by first | rfl | rw [r2] | simp [r2]), ⟨by have := HK.out.1; have := HD1.out; have := Eq.out; omega, rfl, by have h1 := HK.out.2.2.1; rw [show i - 1 - k = (i - 1 - q) + 1 by have := HD1.out; have := Eq.out; omega, St.mvUp, ← Eq.out] at h1; exact h1, sm_swp HK.out.2.2.2 k q (by have := HL.out; have := HKQ.out; omega) (by have := HL.out; have := HKQ.out; omega)⟩, HO, HB, HY⟩
        · have d2 : ¬ ((k : Int) < (i1 : Int)) := by have := Ei1.out; omega
          have d3 : decide ((k : Int) < (i1 : Int)) = false := decide_eq_false d2
          have d4 : ((k : Int) < (i1 : Int)) = False := eq_false d2
          have hz : Aside0 (ys = (St.symM ltP (z30, 0) (f + 1) a m b xs)) := ⟨by have h1 := HK.out.2.2.1; rw [show i - 1 - k = 0 by omega, St.mvUp] at h1; rw [h1]; rw [St.symM, if_pos H1.out, ← HE.out]⟩
          clear d1
          go_wp2
          (first | go_ret | go_end0 | refine bodyPost_ret (results_none rfl _ _ _) rfl ?_ | (try rw [Exit.noGoto_ret]; go_ret))
          exact ⟨rfl, by rw [← hz.out]; exact HK.out.2.2.2, by rw [← hz.out]; exact HO.out, HB.out, HY.out⟩
set_option maxHeartbeats 8000000 in
set_option maxRecDepth 100000 in
theorem sym2_go (fo : Nat → Nat) (w0 : World) (g n cap : Nat) (ok : Nat → Prop) (hg : w0.heap.size ≤ g) (hn : n ≤ 1048576) (f a m b : Nat) (ha : a < m ∧ m < b ∧ b ≤ n) (h1 : m - a ≠ 1) (h2 : b - m = 1) (xs : List (S30 × Nat)) (hs : SmL (xs)) (w : World) (ho : Kd.R (Kd.tag fo k30) 30 w w0.heap.size ok (.slice (some ⟨g, 0, none⟩) n cap) xs) (hb : Below w0.heap.size w0 w) :
    Calls Try.prog 43 #[.slice (some ⟨g, 0, none⟩) n cap, .int .i64 (a : Int), .int .i64 (m : Int), .int .i64 (b : Int), .func (.func 22) #[] #[]] w fun e w' => e = .returned (.tuple #[]) ∧ (SmL ((St.symM ltP (z30, 0) (f + 1) a m b xs))) ∧ Kd.R (Kd.tag fo k30) 30 w' w0.heap.size ok (.slice (some ⟨g, 0, none⟩) n cap) ((St.symM ltP (z30, 0) (f + 1) a m b xs)) ∧ Below w0.heap.size w0 w' ∧ Only g w w' := by
  have HG := Aside0.mk hg; have HN := Aside0.mk hn; have HA := Aside0.mk ha; have H1 := Aside0.mk h1; have H2 := Aside0.mk h2; have HS := Aside0.mk hs; have HO := Aside0.mk ho; have HB := Aside0.mk hb
  have HY := Aside0.mk (Only.refl g w)
  clear hg hn ha h1 h2 hs ho hb
  obtain ⟨p0, hp0_⟩ : ∃ q : Nat, q = m - a := ⟨_, rfl⟩
  have Ep0 := Aside0.mk hp0_
  clear hp0_
  have r1 : wrap64 ((m : Int) - (a : Int)) = (p0 : Int) := by have := Ep0.out; have := HA.out; have := HN.out; unfold wrap64; omega
  have r2 : wrap64 ((b : Int) - (m : Int)) = (1 : Int) := by have := HA.out; have := H2.out; have := HN.out; unfold wrap64; omega
  have d1 : ((p0 : Int) = 1) = False := eq_false (by have := Ep0.out; have := H1.out; omega)
  have d2 : ((p0 : Int) == 1) = false := by have := Ep0.out; have := H1.out; simp; omega
  have d3 : decide ((p0 : Int) = 1) = false := by have := Ep0.out; have := H1.out; simp; omega
  go_enter Try.func43, Try.ntmps43
  go_wp2
  clear r1 r2 d1 d2 d3
  go_loopg [14, 15, 16] (m - a) (fun gq v14 v15 v16 w' => ∃ (fb i j : Nat), v14 = .int .i64 (i : Int) ∧ v15 = .int .i64 (j : Int) ∧ Aside0 ((a ≤ i ∧ i ≤ j ∧ j ≤ m ∧ j - i ≤ fb) ∧ gq = j - i ∧ St.bs (fun h => !(ltP (xs.getD m (z30, 0)) (xs.getD h (z30, 0)))) fb i j = St.bs (fun h => !(ltP (xs.getD m (z30, 0)) (xs.getD h (z30, 0)))) (m - a) a m) ∧ Aside0 (Kd.R (Kd.tag fo k30) 30 w' w0.heap.size ok (.slice (some ⟨g, 0, none⟩) n cap) xs) ∧ Aside0 (Below w0.heap.size w0 w') ∧ Aside0 (Only g w w'))
  case atStart => exact ⟨(m - a), a, m, rfl, rfl, ⟨by have := HA.out; omega, rfl, rfl⟩, HO, HB, HY⟩
  case round =>
    clear HO HB HY
    obtain ⟨fb, i, j, rfl, rfl, HJ, HO, HB, HY⟩ := hrel
    by_cases d1 : i < j
    · obtain ⟨fb, rfl⟩ : ∃ f', fb = f' + 1 := ⟨fb - 1, by have := HJ.out.1; omega⟩
      have HD1 := Aside0.mk d1
      have d2 : (i : Int) < (j : Int) := by omega
      have d3 : decide ((i : Int) < (j : Int)) = true := decide_eq_true d2
      go_upto_region 17 with (fail)
      clear d1 d2 d3
      obtain ⟨h, hh_⟩ : ∃ q : Nat, q = (i + j) / 2 := ⟨_, rfl⟩
      have Eh := Aside0.mk hh_
      have rh := half_ i j (by have := HJ.out.1; have := HA.out; have := HN.out; omega)
      rw [← hh_] at rh
      rw [rh]
      clear hh_ rh
      have HIJ : Aside0 (m < n ∧ h < n) := ⟨by have := HJ.out.1; have := HA.out; have := Eh.out; have := HD1.out; omega⟩
      have r3 : ((m : Int) < (n : Int)) = True := eq_true (by have := HIJ.out; omega)
      have r4 : ((h : Int) < (n : Int)) = True := eq_true (by have := HIJ.out; omega)
      have r5 : (0 ≤ (m : Int)) = True := eq_true (by have := HIJ.out; omega)
      have r6 : (0 ≤ (h : Int)) = True := eq_true (by have := HIJ.out; omega)
      have hwh : wrap64 ((h : Int) + 1) = ((h + 1 : Nat) : Int) := by have := HJ.out.1; have := HA.out; have := HN.out; have := Eh.out; unfold wrap64; omega
      have HL := Aside0.mk (Kd.R_reads' HO.out).1
      have sX := HS.out _ (mem_getD xs (z30, 0) m (by have := HL.out; have := HIJ.out; omega))
      have sZ := HS.out _ (mem_getD xs (z30, 0) h (by have := HL.out; have := HIJ.out; omega))
      obtain ⟨KC, hKC⟩ := (CompareValues_ev _ _ sX sZ).rounds
      have HC := Aside0.mk hKC
      clear hKC sX sZ
      obtain ⟨X, hX⟩ : ∃ X, X = xs.getD m (z30, 0) := ⟨_, rfl⟩
      obtain ⟨Z, hZ⟩ : ∃ Z, Z = xs.getD h (z30, 0) := ⟨_, rfl⟩
      rw [← hX, ← hZ] at HC
      have HX := Aside0.mk hX; have HZ := Aside0.mk hZ
      clear hX hZ
      try go_wp2
      replace HO := Aside0.mk (Kd.R_drew HO.out)
      replace HB := Aside0.mk (below_drew1 HB.out)
      replace HY := Aside0.mk (HY.out.trans drewOnly)
      obtain ⟨ci, cj, li, lj, Mi, Mj, hci, hcj, fi, fj, RS, OS, BS, NC, NF⟩ := R_swap HO.out (z30, 0) m h (by have := HIJ.out; omega) (by have := HIJ.out; omega)
      clear RS OS BS NC NF fi fj
      rw [← HX.out] at Mi; rw [← HZ.out] at Mj
      obtain ⟨va2, va3, rfl, ga2, ga3⟩ := k30_openM Mi
      obtain ⟨vb2, vb3, rfl, gb2, gb3⟩ := k30_openM Mj
      obtain ⟨Aa2, ca2, rfl⟩ := Kd.R_slice ga2
      obtain ⟨Aa3, ca3, rfl⟩ := Kd.R_slice (Kd.S_R ga3)
      obtain ⟨Ab2, cb2, rfl⟩ := Kd.R_slice gb2
      obtain ⟨Ab3, cb3, rfl⟩ := Kd.R_slice (Kd.S_R gb3)
      have GA2 := Aside0.mk (Kd.R_reads' ga2).2; have GA3 := Aside0.mk (Kd.R_reads' (Kd.S_R ga3)).2; have GB2 := Aside0.mk (Kd.R_reads' gb2).2; have GB3 := Aside0.mk (Kd.R_reads' (Kd.S_R gb3)).2
      have p0 := hci 0 _ rfl
      have p1 := hci 1 _ rfl
      have p2 := hci 2 _ rfl
      have p3 := hci 3 _ rfl
      have p4 := hcj 0 _ rfl
      have p5 := hcj 1 _ rfl
      have p6 := hcj 2 _ rfl
      have p7 := hcj 3 _ rfl
      simp only [show (Kd.tag fo k30).sz = 4 from rfl, Nat.add_zero] at p0 p1 p2 p3 p4 p5 p6 p7
      have PC := Aside0.mk (And.intro p0 (And.intro p1 (And.intro p2 (And.intro p3 (And.intro p4 (And.intro p5 (And.intro p6 p7)))))))
      clear hci hcj li lj Mi Mj ga2 ga3 gb2 gb3 p0 p1 p2 p3 p4 p5 p6 p7
      by_cases e2 : cmT X.1 Z.1 < 0
      · have r7 : (cmT X.1 Z.1 < 0) = True := eq_true e2
        have HE2 := Aside0.mk e2
        clear e2
        refine start_ (n := 12) (S := fun w' => w'.cell? ⟨g, m * 4, none⟩ = some (.int .i64 X.1.f0) ∧ w'.cell? ⟨g, m * 4 + 1, none⟩ = some (.int .i64 X.1.f1) ∧ w'.cell? ⟨g, m * 4 + 2, none⟩ = some (.slice Aa2 X.1.f2.length ca2) ∧ w'.cell? ⟨g, m * 4 + 3, none⟩ = some (.slice Aa3 X.1.f3.length ca3) ∧ w'.cell? ⟨g, h * 4, none⟩ = some (.int .i64 Z.1.f0) ∧ w'.cell? ⟨g, h * 4 + 1, none⟩ = some (.int .i64 Z.1.f1) ∧ w'.cell? ⟨g, h * 4 + 2, none⟩ = some (.slice Ab2 Z.1.f2.length cb2) ∧ w'.cell? ⟨g, h * 4 + 3, none⟩ = some (.slice Ab3 Z.1.f3.length cb3)) (ds := []) #[false, false, false, false, false, false, false, false, false, false, false, false] (by kernel_rfl) rfl rfl PC.out (fun hHeld => ?_); refine with_tabW tabSym.tab17 tabSym.bits17 (fun HT_ HW_ => ?_)
        generalize World.drew _ = w1 at HO HB HY PC GA2 GA3 GB2 GB3 hHeld ⊢
        refine pure_ (i := 0) (N := some 92) (v := ?_) (a' := ?_) #[true, false, false, false, false, false, false, false, false, false, false, false] rfl rfl (any_of HT_.out (by kernel_rfl)) (fun _ _ _ h => h) (Or.inl ⟨by rfl, ?_⟩) ?_ ?_
        rotate_left
        · intro w'
          go_simp
          try with_reducible rfl
        rotate_left
        · simp only [Act.put, List.setIfInBounds_toArray, List.set_cons_zero, List.set_cons_succ, i64_w, i32_w]
          rfl
        refine pure_ (i := 1) (N := some 93) (v := ?_) (a' := ?_) #[true, true, false, false, false, false, false, false, false, false, false, false] rfl rfl (any_of HT_.out (by kernel_rfl)) (fun _ _ _ h => h) (Or.inl ⟨by rfl, ?_⟩) ?_ ?_
        rotate_left
        · intro w'
          go_simp
          try with_reducible rfl
        rotate_left
        · simp only [Act.put, List.setIfInBounds_toArray, List.set_cons_zero, List.set_cons_succ, i64_w, i32_w]
          rfl
        refine pure_ (i := 2) (N := some 94) (v := ?_) (a' := ?_) #[true, true, true, false, false, false, false, false, false, false, false, false] rfl rfl (any_of HT_.out (by kernel_rfl)) (fun _ _ _ h => h) (Or.inl ⟨by rfl, ?_⟩) ?_ ?_
        rotate_left
        · intro w'
          go_simp
          try with_reducible rfl
        rotate_left
        · simp only [Act.put, List.setIfInBounds_toArray, List.set_cons_zero, List.set_cons_succ, i64_w, i32_w]
          rfl
        refine pure_ (i := 3) (N := some 95) (v := ?_) (a' := ?_) #[true, true, true, true, false, false, false, false, false, false, false, false] rfl rfl (any_of HT_.out (by kernel_rfl)) (fun _ _ _ h => h) (Or.inl ⟨by rfl, ?_⟩) ?_ ?_
        rotate_left
        · intro w'
          go_simp
          try with_reducible rfl
        rotate_left
        · simp only [Act.put, List.setIfInBounds_toArray, List.set_cons_zero, List.set_cons_succ, i64_w, i32_w]
          rfl
        refine take_ (i := 4) (N := some 96) (v := ?_) (a' := ?_) #[true, true, true, true, true, false, false, false, false, false, false, false] rfl rfl (take_ofW HT_.out HW_.out (by kernel_rfl)) (fun _ _ _ h => h) (Or.inl ⟨by rfl, ?_⟩) hHeld ?_ ?_
        rotate_left
        · rintro w' ⟨s0, s1, s2, s3, s4, s5, s6, s7⟩
          go_simp
          with_reducible rfl
        rotate_left
        · simp only [Act.put, List.setIfInBounds_toArray, List.set_cons_zero, List.set_cons_succ, i64_w, i32_w]
          rfl
        refine pure_ (i := 5) (N := some 97) (v := ?_) (a' := ?_) #[true, true, true, true, true, true, false, false, false, false, false, false] rfl rfl (any_of HT_.out (by kernel_rfl)) (fun _ _ _ h => h) (Or.inl ⟨by rfl, ?_⟩) ?_ ?_
        rotate_left
        · intro w'
          go_simp
          try with_reducible rfl
        rotate_left
        · simp only [Act.put, List.setIfInBounds_toArray, List.set_cons_zero, List.set_cons_succ, i64_w, i32_w]
          rfl
        refine pure_ (i := 6) (N := some 98) (v := ?_) (a' := ?_) #[true, true, true, true, true, true, true, false, false, false, false, false] rfl rfl (any_of HT_.out (by kernel_rfl)) (fun _ _ _ h => h) (Or.inl ⟨by rfl, ?_⟩) ?_ ?_
        rotate_left
        · intro w'
          go_simp
          try with_reducible rfl
        rotate_left
        · simp only [Act.put, List.setIfInBounds_toArray, List.set_cons_zero, List.set_cons_succ, i64_w, i32_w]
          rfl
        refine pure_ (i := 7) (N := some 99) (v := ?_) (a' := ?_) #[true, true, true, true, true, true, true, true, false, false, false, false] rfl rfl (any_of HT_.out (by kernel_rfl)) (fun _ _ _ h => h) (Or.inl ⟨by rfl, ?_⟩) ?_ ?_
        rotate_left
        · intro w'
          go_simp
          try with_reducible rfl
        rotate_left
        · simp only [Act.put, List.setIfInBounds_toArray, List.set_cons_zero, List.set_cons_succ, i64_w, i32_w]
          rfl
        refine take_ (i := 8) (N := some 100) (v := ?_) (a' := ?_) #[true, true, true, true, true, true, true, true, true, false, false, false] rfl rfl (take_ofW HT_.out HW_.out (by kernel_rfl)) (fun _ _ _ h => h) (Or.inl ⟨by rfl, ?_⟩) hHeld ?_ ?_
        rotate_left
        · rintro w' ⟨s0, s1, s2, s3, s4, s5, s6, s7⟩
          go_simp
          with_reducible rfl
        rotate_left
        · simp only [Act.put, List.setIfInBounds_toArray, List.set_cons_zero, List.set_cons_succ, i64_w, i32_w]
          rfl
        refine one_ (i := 9) (N := some 101) #[true, true, true, true, true, true, true, true, true, true, false, false] rfl rfl (one_of HT_.out (by kernel_rfl)) (by decide) (fun K hK => ?_)
        refine goesC0_ 92 (by rfl) Try.func22 (by kernel_rfl) rfl #[.agg #[.int .i64 X.1.f0, .int .i64 X.1.f1, .slice Aa2 X.1.f2.length ca2, .slice Aa3 X.1.f3.length ca3], .agg #[.int .i64 Z.1.f0, .int .i64 Z.1.f1, .slice Ab2 Z.1.f2.length cb2, .slice Ab3 Z.1.f3.length cb3]] (by rfl) rfl rfl (by (try simp only [List.map_toArray, List.map_cons, List.map_nil]); first | done | rfl | (simp only [List.length_drop, List.length_take]; rfl)) ?_
        have hb_ : ∀ {w1 w2 : World}, Below w1.heap.size w1 w2 → Below w1.heap.size w1 w2 := fun h => h
        refine (impl_CompareValues.calls KC X.1.f0 X.1.f1 Aa2 ca2 X.1.f2 Aa3 ca3 X.1.f3 Z.1.f0 Z.1.f1 Ab2 cb2 Z.1.f2 Ab3 cb3 Z.1.f3 _ _ GA2.out.2 GA2.out.1 GA3.out.2 GA3.out.1 GB2.out.2 GB2.out.1 GB3.out.2 GB3.out.1 HC.out).mono ?_
        rintro e w2 ⟨rfl, hd⟩
        refine ⟨_, rfl, ?_⟩
        try replace hd := Drawn0.below hd
        replace HO := Aside0.mk (Kd.R_below HO.out hd)
        replace HB := Aside0.mk (below_step HB.out hd)
        replace HY := Aside0.mk (HY.out.trans (Only.below hd))
        replace PC := Aside0.mk (show w2.cell? ⟨g, m * 4, none⟩ = some (.int .i64 X.1.f0) ∧ w2.cell? ⟨g, m * 4 + 1, none⟩ = some (.int .i64 X.1.f1) ∧ w2.cell? ⟨g, m * 4 + 2, none⟩ = some (.slice Aa2 X.1.f2.length ca2) ∧ w2.cell? ⟨g, m * 4 + 3, none⟩ = some (.slice Aa3 X.1.f3.length ca3) ∧ w2.cell? ⟨g, h * 4, none⟩ = some (.int .i64 Z.1.f0) ∧ w2.cell? ⟨g, h * 4 + 1, none⟩ = some (.int .i64 Z.1.f1) ∧ w2.cell? ⟨g, h * 4 + 2, none⟩ = some (.slice Ab2 Z.1.f2.length cb2) ∧ w2.cell? ⟨g, h * 4 + 3, none⟩ = some (.slice Ab3 Z.1.f3.length cb3) from ⟨pw_cell_below hd PC.out.1, pw_cell_below hd PC.out.2.1, pw_cell_below hd PC.out.2.2.1, pw_cell_below hd PC.out.2.2.2.1, pw_cell_below hd PC.out.2.2.2.2.1, pw_cell_below hd PC.out.2.2.2.2.2.1, pw_cell_below hd PC.out.2.2.2.2.2.2.1, pw_cell_below hd PC.out.2.2.2.2.2.2.2⟩)
        clear hd
        refine hK.out _ _ PC.out (fun hHeld => ?_)
        clear hK K
        refine norm_ (a' := ?_) ?_ ?_
        rotate_left
        · show Act.put _ (some 101) _ = _
          simp only [Act.put, List.setIfInBounds_toArray, List.set_cons_zero, List.set_cons_succ, i64_w, i32_w]
          rfl
        refine pure_ (i := 10) (N := some 102) (v := ?_) (a' := ?_) #[true, true, true, true, true, true, true, true, true, true, true, false] rfl rfl (any_of HT_.out (by kernel_rfl)) (fun _ _ _ h => h) (Or.inl ⟨by rfl, ?_⟩) ?_ ?_
        rotate_left
        · intro w'
          go_simp
          try with_reducible rfl
        rotate_left
        · simp only [Act.put, List.setIfInBounds_toArray, List.set_cons_zero, List.set_cons_succ, i64_w, i32_w]
          rfl
        refine pure_ (i := 11) (N := some 103) (v := ?_) (a' := ?_) #[true, true, true, true, true, true, true, true, true, true, true, true] rfl rfl (any_of HT_.out (by kernel_rfl)) (fun _ _ _ h => h) (Or.inl ⟨by rfl, ?_⟩) ?_ ?_
        rotate_left
        · intro w'
          go_simp
          try with_reducible rfl
        rotate_left
        · simp only [Act.put, List.setIfInBounds_toArray, List.set_cons_zero, List.set_cons_succ, i64_w, i32_w]
          rfl
        refine done_ (done_of HT_.out (by kernel_rfl)) ?_
        clear HT_ HW_
        clear r7 hHeld PC GA2 GA3 GB2 GB3
        try go_wp2
        go_roundg (h - i)
        case measure => have := HJ.out; have := HD1.out; have := Eh.out; omega
        case rel => exact ⟨fb, i, h, rfl, rfl, ⟨by have := HJ.out.1; have := HD1.out; have := Eh.out; omega, rfl, by rw [← HJ.out.2.2]; exact (bs_no (p := fun h => !(ltP (xs.getD m (z30, 0)) (xs.getD h (z30, 0)))) HD1.out Eh.out (by have q0 : ltP (xs.getD m (z30, 0)) (xs.getD h (z30, 0)) = true := ltP_yes (by have q1 := HX.out; have q2 := HZ.out; have q3 := HE2.out; rw [q1, q2] at q3; first | exact q3 | omega); (try dsimp only); rw [q0]; rfl)).symm⟩, HO, HB, HY⟩
      · have r7 : (cmT X.1 Z.1 < 0) = False := eq_false e2
        have HE2 := Aside0.mk e2
        clear e2
        refine start_ (n := 12) (S := fun w' => w'.cell? ⟨g, m * 4, none⟩ = some (.int .i64 X.1.f0) ∧ w'.cell? ⟨g, m * 4 + 1, none⟩ = some (.int .i64 X.1.f1) ∧ w'.cell? ⟨g, m * 4 + 2, none⟩ = some (.slice Aa2 X.1.f2.length ca2) ∧ w'.cell? ⟨g, m * 4 + 3, none⟩ = some (.slice Aa3 X.1.f3.length ca3) ∧ w'.cell? ⟨g, h * 4, none⟩ = some (.int .i64 Z.1.f0) ∧ w'.cell? ⟨g, h * 4 + 1, none⟩ = some (.int .i64 Z.1.f1) ∧ w'.cell? ⟨g, h * 4 + 2, none⟩ = some (.slice Ab2 Z.1.f2.length cb2) ∧ w'.cell? ⟨g, h * 4 + 3, none⟩ = some (.slice Ab3 Z.1.f3.length cb3)) (ds := []) #[false, false, false, false, false, false, false, false, false, false, false, false] (by kernel_rfl) rfl rfl PC.out (fun hHeld => ?_); refine with_tabW tabSym.tab17 tabSym.bits17 (fun HT_ HW_ => ?_)
        generalize World.drew _ = w1 at HO HB HY PC GA2 GA3 GB2 GB3 hHeld ⊢
        refine pure_ (i := 0) (N := some 92) (v := ?_) (a' := ?_) #[true, false, false, false, false, false, false, false, false, false, false, false] rfl rfl (any_of HT_.out (by kernel_rfl)) (fun _ _ _ h => h) (Or.inl ⟨by rfl, ?_⟩) ?_ ?_
        rotate_left
        · intro w'
          go_simp
          try with_reducible rfl
        rotate_left
        · simp only [Act.put, List.setIfInBounds_toArray, List.set_cons_zero, List.set_cons_succ, i64_w, i32_w]
          rfl
        refine pure_ (i := 1) (N := some 93) (v := ?_) (a' := ?_) #[true, true, false, false, false, false, false, false, false, false, false, false] rfl rfl (any_of HT_.out (by kernel_rfl)) (fun _ _ _ h => h) (Or.inl ⟨by rfl, ?_⟩) ?_ ?_
        rotate_left
        · intro w'
          go_simp
          try with_reducible rfl
        rotate_left
        · simp only [Act.put, List.setIfInBounds_toArray, List.set_cons_zero, List.set_cons_succ, i64_w, i32_w]
          rfl
        refine pure_ (i := 2) (N := some 94) (v := ?_) (a' := ?_) #[true, true, true, false, false, false, false, false, false, false, false, false] rfl rfl (any_of HT_.out (by kernel_rfl)) (fun _ _ _ h => h) (Or.inl ⟨by rfl, ?_⟩) ?_ ?_
        rotate_left
        · intro w'
          go_simp
          try with_reducible rfl
        rotate_left
        · simp only [Act.put, List.setIfInBounds_toArray, List.set_cons_zero, List.set_cons_succ, i64_w, i32_w]
          rfl
        refine pure_ (i := 3) (N := some 95) (v := ?_) (a' := ?_) #[true, true, true, true, false, false, false, false, false, false, false, false] rfl rfl (any_of HT_.out (by kernel_rfl)) (fun _ _ _ h => h) (Or.inl ⟨by rfl, ?_⟩) ?_ ?_
        rotate_left
        · intro w'
          go_simp
          try with_reducible rfl
        rotate_left
        · simp only [Act.put, List.setIfInBounds_toArray, List.set_cons_zero, List.set_cons_succ, i64_w, i32_w]
          rfl
        refine take_ (i := 4) (N := some 96) (v := ?_) (a' := ?_) #[true, true, true, true, true, false, false, false, false, false, false, false] rfl rfl (take_ofW HT_.out HW_.out (by kernel_rfl)) (fun _ _ _ h => h) (Or.inl ⟨by rfl, ?_⟩) hHeld ?_ ?_
        rotate_left
        · rintro w' ⟨s0, s1, s2, s3, s4, s5, s6, s7⟩
          go_simp
          with_reducible rfl
        rotate_left
        · simp only [Act.put, List.setIfInBounds_toArray, List.set_cons_zero, List.set_cons_succ, i64_w, i32_w]
          rfl
        refine pure_ (i := 5) (N := some 97) (v := ?_) (a' := ?_) #[true, true, true, true, true, true, false, false, false, false, false, false] rfl rfl (any_of HT_.out (by kernel_rfl)) (fun _ _ _ h => h) (Or.inl ⟨by rfl, ?_⟩) ?_ ?_
        rotate_left
        · intro w'
          go_simp
          try with_reducible rfl
        rotate_left
        · simp only [Act.put, List.setIfInBounds_toArray, List.set_cons_zero, List.set_cons_succ, i64_w, i32_w]
          rfl
        refine pure_ (i := 6) (N := some 98) (v := ?_) (a' := ?_) #[true, true, true, true, true, true, true, false, false, false, false, false] rfl rfl (any_of HT_.out (by kernel_rfl)) (fun _ _ _ h => h) (Or.inl ⟨by rfl, ?_⟩) ?_ ?_
        rotate_left
        · intro w'
          go_simp
          try with_reducible rfl
        rotate_left
        · simp only [Act.put, List.setIfInBounds_toArray, List.set_cons_zero, List.set_cons_succ, i64_w, i32_w]
          rfl
        refine pure_ (i := 7) (N := some 99) (v := ?_) (a' := ?_) #[true, true, true, true, true, true, true, true, false, false, false, false] rfl rfl (any_of HT_.out (by kernel_rfl)) (fun _ _ _ h => h) (Or.inl ⟨by rfl, ?_⟩) ?_ ?_
        rotate_left
        · intro w'
          go_simp
          try with_reducible rfl
        rotate_left
        · simp only [Act.put, List.setIfInBounds_toArray, List.set_cons_zero, List.set_cons_succ, i64_w, i32_w]
          rfl
        refine take_ (i := 8) (N := some 100) (v := ?_) (a' := ?_) #[true, true, true, true, true, true, true, true, true, false, false, false] rfl rfl (take_ofW HT_.out HW_.out (by kernel_rfl)) (fun _ _ _ h => h) (Or.inl ⟨by rfl, ?_⟩) hHeld ?_ ?_
        rotate_left
        · rintro w' ⟨s0, s1, s2, s3, s4, s5, s6, s7⟩
          go_simp
          with_reducible rfl
        rotate_left
        · simp only [Act.put, List.setIfInBounds_toArray, List.set_cons_zero, List.set_cons_succ, i64_w, i32_w]
          rfl
        refine one_ (i := 9) (N := some 101) #[true, true, true, true, true, true, true, true, true, true, false, false] rfl rfl (one_of HT_.out (by kernel_rfl)) (by decide) (fun K hK => ?_)
        refine goesC0_ 92 (by rfl) Try.func22 (by kernel_rfl) rfl #[.agg #[.int .i64 X.1.f0, .int .i64 X.1.f1, .slice Aa2 X.1.f2.length ca2, .slice Aa3 X.1.f3.length ca3], .agg #[.int .i64 Z.1.f0, .int .i64 Z.1.f1, .slice Ab2 Z.1.f2.length cb2, .slice Ab3 Z.1.f3.length cb3]] (by rfl) rfl rfl (by (try simp only [List.map_toArray, List.map_cons, List.map_nil]); first | done | rfl | (simp only [List.length_drop, List.length_take]; rfl)) ?_
        have hb_ : ∀ {w1 w2 : World}, Below w1.heap.size w1 w2 → Below w1.heap.size w1 w2 := fun h => h
        refine (impl_CompareValues.calls KC X.1.f0 X.1.f1 Aa2 ca2 X.1.f2 Aa3 ca3 X.1.f3 Z.1.f0 Z.1.f1 Ab2 cb2 Z.1.f2 Ab3 cb3 Z.1.f3 _ _ GA2.out.2 GA2.out.1 GA3.out.2 GA3.out.1 GB2.out.2 GB2.out.1 GB3.out.2 GB3.out.1 HC.out).mono ?_
        rintro e w2 ⟨rfl, hd⟩
        refine ⟨_, rfl, ?_⟩
        try replace hd := Drawn0.below hd
        replace HO := Aside0.mk (Kd.R_below HO.out hd)
        replace HB := Aside0.mk (below_step HB.out hd)
        replace HY := Aside0.mk (HY.out.trans (Only.below hd))
        replace PC := Aside0.mk (show w2.cell? ⟨g, m * 4, none⟩ = some (.int .i64 X.1.f0) ∧ w2.cell? ⟨g, m * 4 + 1, none⟩ = some (.int .i64 X.1.f1) ∧ w2.cell? ⟨g, m * 4 + 2, none⟩ = some (.slice Aa2 X.1.f2.length ca2) ∧ w2.cell? ⟨g, m * 4 + 3, none⟩ = some (.slice Aa3 X.1.f3.length ca3) ∧ w2.cell? ⟨g, h * 4, none⟩ = some (.int .i64 Z.1.f0) ∧ w2.cell? ⟨g, h * 4 + 1, none⟩ = some (.int .i64 Z.1.f1) ∧ w2.cell? ⟨g, h * 4 + 2, none⟩ = some (.slice Ab2 Z.1.f2.length cb2) ∧ w2.cell? ⟨g, h * 4 + 3, none⟩ = some (.slice Ab3 Z.1.f3.length cb3) from ⟨pw_cell_below hd PC.out.1, pw_cell_below hd PC.out.2.1, pw_cell_below hd PC.out.2.2.1, pw_cell_below hd PC.out.2.2.2.1, pw_cell_below hd PC.out.2.2.2.2.1, pw_cell_below hd PC.out.2.2.2.2.2.1, pw_cell_below hd PC.out.2.2.2.2.2.2.1, pw_cell_below hd PC.out.2.2.2.2.2.2.2⟩)
        clear hd
        refine hK.out _ _ PC.out (fun hHeld => ?_)
        clear hK K
        refine norm_ (a' := ?_) ?_ ?_
        rotate_left
        · show Act.put _ (some 101) _ = _
          simp only [Act.put, List.setIfInBounds_toArray, List.set_cons_zero, List.set_cons_succ, i64_w, i32_w]
          rfl
        refine pure_ (i := 10) (N := some 102) (v := ?_) (a' := ?_) #[true, true, true, true, true, true, true, true, true, true, true, false] rfl rfl (any_of HT_.out (by kernel_rfl)) (fun _ _ _ h => h) (Or.inl ⟨by rfl, ?_⟩) ?_ ?_
        rotate_left
        · intro w'
          go_simp
          try with_reducible rfl
        rotate_left
        · simp only [Act.put, List.setIfInBounds_toArray, List.set_cons_zero, List.set_cons_succ, i64_w, i32_w]
          rfl
        refine pure_ (i := 11) (N := some 103) (v := ?_) (a' := ?_) #[true, true, true, true, true, true, true, true, true, true, true, true] rfl rfl (any_of HT_.out (by kernel_rfl)) (fun _ _ _ h => h) (Or.inl ⟨by rfl, ?_⟩) ?_ ?_
        rotate_left
        · intro w'
          go_simp
          try with_reducible rfl
        rotate_left
        · simp only [Act.put, List.setIfInBounds_toArray, List.set_cons_zero, List.set_cons_succ, i64_w, i32_w]
          rfl
        refine done_ (done_of HT_.out (by kernel_rfl)) ?_
        clear HT_ HW_
        clear r7 hHeld PC GA2 GA3 GB2 GB3
        try go_wp2
        go_roundg (j - (h + 1))
        case measure => have := HJ.out; have := HD1.out; have := Eh.out; omega
        case rel => exact ⟨fb, h + 1, j, (by first | rfl | rw [hwh] | simp [hwh]), rfl, ⟨by have := HJ.out.1; have := HD1.out; have := Eh.out; omega, rfl, by rw [← HJ.out.2.2]; exact (bs_yes (p := fun h => !(ltP (xs.getD m (z30, 0)) (xs.getD h (z30, 0)))) HD1.out Eh.out (by have q0 : ltP (xs.getD m (z30, 0)) (xs.getD h (z30, 0)) = false := ltP_no (by have q1 := HX.out; have q2 := HZ.out; have q3 := HE2.out; rw [q1, q2] at q3; first | exact q3 | omega); (try dsimp only); rw [q0]; rfl)).symm⟩, HO, HB, HY⟩
    · have HE : Aside0 (i = St.bs (fun h => !(ltP (xs.getD m (z30, 0)) (xs.getD h (z30, 0)))) (m - a) a m) := ⟨by rw [← HJ.out.2.2]; exact (bs_stop d1).symm⟩
      have d2 : ¬ ((i : Int) < (j : Int)) := by omega
      have d3 : decide ((i : Int) < (j : Int)) = false := decide_eq_false d2
      have HIR : Aside0 (a ≤ i ∧ i ≤ m) := ⟨by have := HJ.out.1; omega⟩
      clear d1
      go_wp2
      clear d2 d3
      go_loopg [17] (m - i) (fun gq v17 w' => ∃ (k : Nat) (ys : List (S30 × Nat)), v17 = .int .i64 (k : Int) ∧ Aside0 ((i ≤ k ∧ k ≤ m) ∧ gq = (k - i) ∧ St.mvDn (z30, 0) (k - i) k ys = St.mvDn (z30, 0) (m - i) m xs ∧ SmL (ys)) ∧ Aside0 (Kd.R (Kd.tag fo k30) 30 w' w0.heap.size ok (.slice (some ⟨g, 0, none⟩) n cap) ys) ∧ Aside0 (Below w0.heap.size w0 w') ∧ Aside0 (Only g w w'))
      case atStart => exact ⟨m, xs, rfl, ⟨by have := HIR.out; have := HA.out; omega, rfl, rfl, HS.out⟩, HO, HB, HY⟩
      case round =>
        clear HO HB HY
        obtain ⟨k, ys, rfl, HK, HO, HB, HY⟩ := hrel
        by_cases d1 : i < k
        · have HD1 := Aside0.mk d1
          have d2 : (i : Int) < (k : Int) := by omega
          have d3 : decide ((i : Int) < (k : Int)) = true := decide_eq_true d2
          have d4 : ((i : Int) < (k : Int)) = True := eq_true d2
          clear d1
          go_wp2
          clear d2 d3 d4
          obtain ⟨q, hq_⟩ : ∃ q : Nat, q = k - 1 := ⟨_, rfl⟩
          have Eq := Aside0.mk hq_
          clear hq_
          have HL := Aside0.mk (Kd.R_reads' HO.out).1
          have HKQ : Aside0 (k < n ∧ q < n) := ⟨by have := Eq.out; have := HD1.out; have := HIR.out; have := HA.out; have := HK.out.1; omega⟩
          have r2 : wrap64 ((k : Int) - 1) = (q : Int) := by have := Eq.out; have := HKQ.out; have := HN.out; have := HD1.out; unfold wrap64; omega
          have r3 : ((k : Int) < (n : Int)) = True := eq_true (by have := HKQ.out; omega)
          have r4 : ((q : Int) < (n : Int)) = True := eq_true (by have := HKQ.out; omega)
          have r5 : (0 ≤ (k : Int)) = True := eq_true (by omega)
          have r6 : (0 ≤ (q : Int)) = True := eq_true (by omega)
          replace HO := Aside0.mk (Kd.R_drew HO.out)
          replace HB := Aside0.mk (below_drew1 HB.out)
          replace HY := Aside0.mk (HY.out.trans drewOnly)
          obtain ⟨ci, cj, li, lj, Mi, Mj, hci, hcj, fi, fj, RS, OS, BS, NC, NF⟩ := R_swap HO.out (z30, 0) k q (by exact HKQ.out.1) (by exact HKQ.out.2)
          obtain ⟨X_, hX_⟩ : ∃ X, X = ys.getD k (z30, 0) := ⟨_, rfl⟩
          obtain ⟨Z_, hZ_⟩ : ∃ Z, Z = ys.getD q (z30, 0) := ⟨_, rfl⟩
          rw [← hX_] at Mi; rw [← hZ_] at Mj
          clear hX_ hZ_
          obtain ⟨va2, va3, rfl, ga2, ga3⟩ := k30_openM Mi
          obtain ⟨vb2, vb3, rfl, gb2, gb3⟩ := k30_openM Mj
          obtain ⟨Ea2, fa2, rfl⟩ := Kd.R_slice ga2
          obtain ⟨Ea3, fa3, rfl⟩ := Kd.R_slice (Kd.S_R ga3)
          obtain ⟨Eb2, fb2, rfl⟩ := Kd.R_slice gb2
          obtain ⟨Eb3, fb3, rfl⟩ := Kd.R_slice (Kd.S_R gb3)
          have p0 := hci 0 _ rfl
          have p1 := hci 1 _ rfl
          have p2 := hci 2 _ rfl
          have p3 := hci 3 _ rfl
          have p4 := hcj 0 _ rfl
          have p5 := hcj 1 _ rfl
          have p6 := hcj 2 _ rfl
          have p7 := hcj 3 _ rfl
          have q0 := fi 0
          have q1 := fi 1
          have q2 := fi 2
          have q3 := fi 3
          have q4 := fj 0
          have q5 := fj 1
          have q6 := fj 2
          have q7 := fj 3
          obtain ⟨un0, n0⟩ := NC 0 (by show 0 < 4; decide)
          obtain ⟨un1, n1⟩ := NC 1 (by show 1 < 4; decide)
          obtain ⟨un2, n2⟩ := NC 2 (by show 2 < 4; decide)
          obtain ⟨un3, n3⟩ := NC 3 (by show 3 < 4; decide)
          have m0 := NF 0
          have m1 := NF 1
          have m2 := NF 2
          have m3 := NF 3
          simp only [show (Kd.tag fo k30).sz = 4 from rfl, Nat.add_zero] at p0 p1 p2 p3 p4 p5 p6 p7 q0 q1 q2 q3 q4 q5 q6 q7
          simp only [show (Kd.tag fo k30).sz = 4 from rfl, World.setCells, Nat.add_assoc, Nat.add_zero, Nat.reduceAdd] at RS OS BS n0 m0 n1 m1 n2 m2 n3 m3
          have RS_ := Aside0.mk RS; have OS_ := Aside0.mk OS; have BS_ := Aside0.mk (BS w0 HG.out)
          clear RS OS BS NC NF hci hcj fi fj li lj Mi Mj ga2 ga3 gb2 gb3
          refine start_ (n := 18) (S := fun w' => w'.cell? ⟨g, k * 4, none⟩ = some (.int .i64 X_.1.f0) ∧ w'.cell? ⟨g, k * 4 + 1, none⟩ = some (.int .i64 X_.1.f1) ∧ w'.cell? ⟨g, k * 4 + 2, none⟩ = some (.slice Ea2 X_.1.f2.length fa2) ∧ w'.cell? ⟨g, k * 4 + 3, none⟩ = some (.slice Ea3 X_.1.f3.length fa3) ∧ w'.cell? ⟨g, q * 4, none⟩ = some (.int .i64 Z_.1.f0) ∧ w'.cell? ⟨g, q * 4 + 1, none⟩ = some (.int .i64 Z_.1.f1) ∧ w'.cell? ⟨g, q * 4 + 2, none⟩ = some (.slice Eb2 Z_.1.f2.length fb2) ∧ w'.cell? ⟨g, q * 4 + 3, none⟩ = some (.slice Eb3 Z_.1.f3.length fb3)) (ds := [15, 17]) #[false, false, false, false, false, false, false, false, false, false, false, false, false, false, false, false, false, false] (by kernel_rfl) rfl rfl ⟨p0, p1, p2, p3, p4, p5, p6, p7⟩ (fun hHeld => ?_); refine with_tabW tabSym.tab23 tabSym.bits23 (fun HT_ HW_ => ?_)
          generalize World.drew _ = w3 at HO HB HY RS_ OS_ BS_ hHeld p0 p1 p2 p3 p4 p5 p6 p7 q0 q1 q2 q3 q4 q5 q6 q7 n0 m0 n1 m1 n2 m2 n3 m3  ⊢
          refine pure_ (i := 0) (N := some 113) (v := ?_) (a' := ?_) #[true, false, false, false, false, false, false, false, false, false, false, false, false, false, false, false, false, false] rfl rfl (any_of HT_.out (by kernel_rfl)) (fun _ _ _ h => h) (Or.inl ⟨by rfl, ?_⟩) ?_ ?_
          rotate_left
          · intro w'
            go_simp
            try with_reducible rfl
          rotate_left
          · simp only [Act.put, List.setIfInBounds_toArray, List.set_cons_zero, List.set_cons_succ, i64_w, i32_w]
            rfl
          refine pure_ (i := 1) (N := some 114) (v := ?_) (a' := ?_) #[true, true, false, false, false, false, false, false, false, false, false, false, false, false, false, false, false, false] rfl rfl (any_of HT_.out (by kernel_rfl)) (fun _ _ _ h => h) (Or.inl ⟨by rfl, ?_⟩) ?_ ?_
          rotate_left
          · intro w'
            go_simp
            try with_reducible rfl
          rotate_left
          · simp only [Act.put, List.setIfInBounds_toArray, List.set_cons_zero, List.set_cons_succ, i64_w, i32_w]
            rfl
          refine pure_ (i := 2) (N := some 115) (v := ?_) (a' := ?_) #[true, true, true, false, false, false, false, false, false, false, false, false, false, false, false, false, false, false] rfl rfl (any_of HT_.out (by kernel_rfl)) (fun _ _ _ h => h) (Or.inl ⟨by rfl, ?_⟩) ?_ ?_
          rotate_left
          · intro w'
            go_simp
            try with_reducible rfl
          rotate_left
          · simp only [Act.put, List.setIfInBounds_toArray, List.set_cons_zero, List.set_cons_succ, i64_w, i32_w]
            rfl
          refine pure_ (i := 3) (N := some 116) (v := ?_) (a' := ?_) #[true, true, true, true, false, false, false, false, false, false, false, false, false, false, false, false, false, false] rfl rfl (any_of HT_.out (by kernel_rfl)) (fun _ _ _ h => h) (Or.inl ⟨by rfl, ?_⟩) ?_ ?_
          rotate_left
          · intro w'
            go_simp
            try with_reducible rfl
          rotate_left
          · simp only [Act.put, List.setIfInBounds_toArray, List.set_cons_zero, List.set_cons_succ, i64_w, i32_w]
            rfl
          refine pure_ (i := 4) (N := some 117) (v := ?_) (a' := ?_) #[true, true, true, true, true, false, false, false, false, false, false, false, false, false, false, false, false, false] rfl rfl (any_of HT_.out (by kernel_rfl)) (fun _ _ _ h => h) (Or.inl ⟨by rfl, ?_⟩) ?_ ?_
          rotate_left
          · intro w'
            go_simp
            try with_reducible rfl
          rotate_left
          · simp only [Act.put, List.setIfInBounds_toArray, List.set_cons_zero, List.set_cons_succ, i64_w, i32_w]
            rfl
          refine pure_ (i := 5) (N := some 118) (v := ?_) (a' := ?_) #[true, true, true, true, true, true, false, false, false, false, false, false, false, false, false, false, false, false] rfl rfl (any_of HT_.out (by kernel_rfl)) (fun _ _ _ h => h) (Or.inl ⟨by rfl, ?_⟩) ?_ ?_
          rotate_left
          · intro w'
            go_simp
            try with_reducible rfl
          rotate_left
          · simp only [Act.put, List.setIfInBounds_toArray, List.set_cons_zero, List.set_cons_succ, i64_w, i32_w]
            rfl
          refine pure_ (i := 6) (N := some 119) (v := ?_) (a' := ?_) #[true, true, true, true, true, true, true, false, false, false, false, false, false, false, false, false, false, false] rfl rfl (any_of HT_.out (by kernel_rfl)) (fun _ _ _ h => h) (Or.inl ⟨by rfl, ?_⟩) ?_ ?_
          rotate_left
          · intro w'
            go_simp
            try with_reducible rfl
          rotate_left
          · simp only [Act.put, List.setIfInBounds_toArray, List.set_cons_zero, List.set_cons_succ, i64_w, i32_w]
            rfl
          refine pure_ (i := 7) (N := some 120) (v := ?_) (a' := ?_) #[true, true, true, true, true, true, true, true, false, false, false, false, false, false, false, false, false, false] rfl rfl (any_of HT_.out (by kernel_rfl)) (fun _ _ _ h => h) (Or.inl ⟨by rfl, ?_⟩) ?_ ?_
          rotate_left
          · intro w'
            go_simp
            try with_reducible rfl
          rotate_left
          · simp only [Act.put, List.setIfInBounds_toArray, List.set_cons_zero, List.set_cons_succ, i64_w, i32_w]
            rfl
          refine pure_ (i := 8) (N := some 121) (v := ?_) (a' := ?_) #[true, true, true, true, true, true, true, true, true, false, false, false, false, false, false, false, false, false] rfl rfl (any_of HT_.out (by kernel_rfl)) (fun _ _ _ h => h) (Or.inl ⟨by rfl, ?_⟩) ?_ ?_
          rotate_left
          · intro w'
            go_simp
            try with_reducible rfl
          rotate_left
          · simp only [Act.put, List.setIfInBounds_toArray, List.set_cons_zero, List.set_cons_succ, i64_w, i32_w]
            rfl
          refine take_ (i := 9) (N := some 122) (v := ?_) (a' := ?_) #[true, true, true, true, true, true, true, true, true, true, false, false, false, false, false, false, false, false] rfl rfl (take_ofW HT_.out HW_.out (by kernel_rfl)) (fun _ _ _ h => h) (Or.inl ⟨by rfl, ?_⟩) hHeld ?_ ?_
          rotate_left
          · rintro w' ⟨s0, s1, s2, s3, s4, s5, s6, s7⟩
            go_simp
            with_reducible rfl
          rotate_left
          · simp only [Act.put, List.setIfInBounds_toArray, List.set_cons_zero, List.set_cons_succ, i64_w, i32_w]
            rfl
          refine pure_ (i := 10) (N := some 123) (v := ?_) (a' := ?_) #[true, true, true, true, true, true, true, true, true, true, true, false, false, false, false, false, false, false] rfl rfl (any_of HT_.out (by kernel_rfl)) (fun _ _ _ h => h) (Or.inl ⟨by rfl, ?_⟩) ?_ ?_
          rotate_left
          · intro w'
            go_simp
            try with_reducible rfl
          rotate_left
          · simp only [Act.put, List.setIfInBounds_toArray, List.set_cons_zero, List.set_cons_succ, i64_w, i32_w]
            rfl
          refine pure_ (i := 11) (N := some 124) (v := ?_) (a' := ?_) #[true, true, true, true, true, true, true, true, true, true, true, true, false, false, false, false, false, false] rfl rfl (any_of HT_.out (by kernel_rfl)) (fun _ _ _ h => h) (Or.inl ⟨by rfl, ?_⟩) ?_ ?_
          rotate_left
          · intro w'
            go_simp
            try with_reducible rfl
          rotate_left
          · simp only [Act.put, List.setIfInBounds_toArray, List.set_cons_zero, List.set_cons_succ, i64_w, i32_w]
            rfl
          refine pure_ (i := 12) (N := some 125) (v := ?_) (a' := ?_) #[true, true, true, true, true, true, true, true, true, true, true, true, true, false, false, false, false, false] rfl rfl (any_of HT_.out (by kernel_rfl)) (fun _ _ _ h => h) (Or.inl ⟨by rfl, ?_⟩) ?_ ?_
          rotate_left
          · intro w'
            go_simp
            try with_reducible rfl
          rotate_left
          · simp only [Act.put, List.setIfInBounds_toArray, List.set_cons_zero, List.set_cons_succ, i64_w, i32_w]
            rfl
          refine take_ (i := 13) (N := some 126) (v := ?_) (a' := ?_) #[true, true, true, true, true, true, true, true, true, true, true, true, true, true, false, false, false, false] rfl rfl (take_ofW HT_.out HW_.out (by kernel_rfl)) (fun _ _ _ h => h) (Or.inl ⟨by rfl, ?_⟩) hHeld ?_ ?_
          rotate_left
          · rintro w' ⟨s0, s1, s2, s3, s4, s5, s6, s7⟩
            go_simp
            with_reducible rfl
          rotate_left
          · simp only [Act.put, List.setIfInBounds_toArray, List.set_cons_zero, List.set_cons_succ, i64_w, i32_w]
            rfl
          refine pure_ (i := 14) (N := some 127) (v := ?_) (a' := ?_) #[true, true, true, true, true, true, true, true, true, true, true, true, true, true, true, false, false, false] rfl rfl (any_of HT_.out (by kernel_rfl)) (fun _ _ _ h => h) (Or.inl ⟨by rfl, ?_⟩) ?_ ?_
          rotate_left
          · intro w'
            go_simp
            try with_reducible rfl
          rotate_left
          · simp only [Act.put, List.setIfInBounds_toArray, List.set_cons_zero, List.set_cons_succ, i64_w, i32_w]
            rfl
          refine last_ (i := 15) (N := none) #[true, true, true, true, true, true, true, true, true, true, true, true, true, true, true, true, false, false] rfl rfl (one_of HT_.out (by kernel_rfl)) (by decide) (fun K hK => ?_)
          refine skip_ (w1 := ?_) (by rfl) rfl ?_ ?_
          rotate_left
          · go_simp
            rfl
          refine hK.out _ _ ?_
          clear hK K
          refine pure_ (i := 16) (N := some 128) (v := ?_) (a' := ?_) #[true, true, true, true, true, true, true, true, true, true, true, true, true, true, true, true, true, false] rfl rfl (any_of HT_.out (by kernel_rfl)) (fun _ _ _ h => h) (Or.inl ⟨by rfl, ?_⟩) ?_ ?_
          rotate_left
          · intro w'
            go_simp
            try with_reducible rfl
          rotate_left
          · simp only [Act.put, List.setIfInBounds_toArray, List.set_cons_zero, List.set_cons_succ, i64_w, i32_w]
            rfl
          refine last_ (i := 17) (N := none) #[true, true, true, true, true, true, true, true, true, true, true, true, true, true, true, true, true, true] rfl rfl (one_of HT_.out (by kernel_rfl)) (by decide) (fun K hK => ?_)
          refine skip_ (w1 := ?_) (by rfl) rfl ?_ ?_
          rotate_left
          · go_simp
            rfl
          refine hK.out _ _ ?_
          clear hK K
          refine done_ (done_of HT_.out (by kernel_rfl)) ?_
          clear HT_ HW_
          clear p0 p1 p2 p3 p4 p5 p6 p7 q0 q1 q2 q3 q4 q5 q6 q7 n0 m0 n1 m1 n2 m2 n3 m3 hHeld HO
          replace HO := RS_
          clear RS_
          replace HB := Aside0.mk (BS_.out HB.out)
          replace HY := Aside0.mk (HY.out.trans OS_.out)
          clear OS_ BS_
          try go_wp2
          go_roundg (q - i)
          case measure => have := HK.out.2.1; have := HD1.out; have := Eq.out; omega
          case rel => exact ⟨q, St.swp (z30, 0) ys k q, (by first | rfl | rw [r2] | simp [r2]), ⟨by have := HK.out.1; have := HD1.out; have := Eq.out; omega, rfl, by have h1 := HK.out.2.2.1; rw [show k - i = (q - i) + 1 by have := HD1.out; have := Eq.out; omega, St.mvDn, ← Eq.out] at h1; exact h1, sm_swp HK.out.2.2.2 k q (by have := HL.out; have := HKQ.out; omega) (by have := HL.out; have := HKQ.out; omega)⟩, HO, HB, HY⟩
        · have d2 : ¬ ((i : Int) < (k : Int)) := by omega
          have d3 : decide ((i : Int) < (k : Int)) = false := decide_eq_false d2
          have d4 : ((i : Int) < (k : Int)) = False := eq_false d2
          have hz : Aside0 (ys = (St.symM ltP (z30, 0) (f + 1) a m b xs)) := ⟨by have h1 := HK.out.2.2.1; rw [show k - i = 0 by omega, St.mvDn] at h1; rw [h1]; rw [St.symM, if_neg H1.out, if_pos H2.out, ← HE.out]⟩
          clear d1
          go_wp2
          (first | go_ret | go_end0 | refine bodyPost_ret (results_none rfl _ _ _) rfl ?_ | (try rw [Exit.noGoto_ret]; go_ret))
          exact ⟨rfl, by rw [← hz.out]; exact HK.out.2.2.2, by rw [← hz.out]; exact HO.out, HB.out, HY.out⟩
end Go.Proofs.Ytonimhfahjediaa.Pk
