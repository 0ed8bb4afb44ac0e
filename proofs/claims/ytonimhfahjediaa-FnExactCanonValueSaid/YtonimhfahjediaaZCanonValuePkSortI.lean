/- The library's insertion sort at rows of values: its contract. No condition beyond the sizes named. -/
import Derived.Test.YtonimhfahjediaaZCanonValueWTabM
import Derived.Test.YtonimhfahjediaaZCanonValuePk11M
import Derived.Test.YtonimhfahjediaaZCanonValuePkMarkValueM
import Derived.Test.YtonimhfahjediaaZCanonValuePlM
import Derived.Test.YtonimhfahjediaaZCanonValueWLastM
namespace Go.Proofs.Ytonimhfahjediaa.Pk
open Go.RowKit Go.Proofs.YtonimhfahjediaaW.PrintWords Go.Proofs.YtonimhfahjediaaW.PrintLast Go.Proofs.YtonimhfahjediaaW.PrintMore Go.Proofs.Ytonimhfahjediaa.Pl Go.Proofs.Ytonimhfahjediaa.Ext
set_option linter.unusedVariables false
set_option linter.unusedSimpArgs false
/-- A call of a function value that is known, without captures, in a region that draws its order. -/
theorem goesC0_ {P : Program} {ops : Array Oper} {Q : Exit → Act → World → Prop} {oi : Oper} {N : Option Tmp} {a : Act} {w : World} {K : Act → World → Prop} {f : FuncId} {fn : Func} {ars : Array Operand} {ts : Array TypeId} (t : Tmp) (hv : a.eval (.tmp t) = .func (.func f) #[] #[]) (hf : P.funcs[f]? = some fn) (hname : (fn.name == "runtime.NumGoroutine") = false) (hb : fn.body.isSome = true) (args : Array Value)
    (hw : Region.wanted oi (yielded ops a.tmps) = true) (hN : oi.dst = N) (hop : oi.op = .call { callee := .value (.tmp t), args := ars, argTypes := ts }) (hargs : ars.map a.eval = args)
    (h : Calls P f args w fun e w' => ∃ v, e = .returned v ∧ K (a.put N v) w') : if Region.wanted oi (yielded ops a.tmps) = true then Oper.wp P oi a w K Q else K (a.put N undef) w := by
  refine call_ f args hw hN ?_ h
  have he := enters_ hf hname hb args w
  unfold execOp
  subst hargs
  simp [hop, resolve, Deferred.ofValue, invoke, hv, he]
theorem drewOnly {g : Nat} {w : World} : Only g w w.drew := Only.below (below_drew1 (Below.refl _ _))
theorem sm_swp {xs : List (S30 × Nat)} (h : SmL (xs)) (i j : Nat) (hi : i < xs.length) (hj : j < xs.length) : SmL (St.swp (z30, 0) xs i j) := by
  intro x hx
  unfold St.swp at hx
  rcases List.mem_or_eq_of_mem_set hx with hx | hx
  · rcases List.mem_or_eq_of_mem_set hx with hx | hx
    · exact h x hx
    · rw [hx]; exact h _ (mem_getD xs (z30, 0) j hj)
  · rw [hx]; exact h _ (mem_getD xs (z30, 0) i hi)
theorem insIn_stop {a j : Nat} {zs : List (S30 × Nat)} (h : ¬ a < j) : St.insIn ltP (z30, 0) a j zs = zs := by
  cases j with
  | zero => rfl
  | succ j => rw [St.insIn, if_neg (fun q => h q.1)]
theorem insIn_stop2 {a j : Nat} {zs : List (S30 × Nat)} (h : ¬ cmT (zs.getD (j + 1) (z30, 0)).1 (zs.getD j (z30, 0)).1 < 0) : St.insIn ltP (z30, 0) a (j + 1) zs = zs := by
  rw [St.insIn, if_neg (fun q => h (by simpa [ltP, ltT] using q.2))]
theorem insIn_go {a j : Nat} {zs : List (S30 × Nat)} (h1 : a < j + 1) (h : cmT (zs.getD (j + 1) (z30, 0)).1 (zs.getD j (z30, 0)).1 < 0) : St.insIn ltP (z30, 0) a (j + 1) zs = St.insIn ltP (z30, 0) a j (St.swp (z30, 0) zs (j + 1) j) := by
  rw [St.insIn, if_pos ⟨h1, by simpa [ltP, ltT] using h⟩]
def tabIns.T4 : Bool × List (List Nat × List Nat) := (true, [([], []), ([], []), ([0, 1], [0, 1]), ([2], [2]), ([3], [3]), ([3], [3]), ([3], [3]), ([5, 6, 3], [3, 5, 6]), ([7, 3], [3, 7]), ([3], [3]), ([3], [3]), ([10, 3], [3, 10]), ([9, 11, 3], [3, 9, 11]), ([12, 3], [3, 12]), ([4, 8, 13, 3, 3], [3, 4, 8, 13]), ([14, 3], [3, 14]), ([3, 15], [3, 15])])
def tabIns.B4 : List Nat := [0, 0, 3, 7, 15, 15, 15, 111, 239, 15, 15, 1039, 3599, 7695, 16383, 32767, 65535]
theorem tabIns.tab4 : rtab .any (opsOf Try.f42 4) = tabIns.T4 := by kernel_rfl
theorem tabIns.bits4 : waitsOk tabIns.T4.2 tabIns.B4 = true := by kernel_rfl
def tabIns.T6 : Bool × List (List Nat × List Nat) := (true, [([], []), ([], []), ([], []), ([], []), ([3], [3]), ([], []), ([], []), ([6], [6]), ([5, 7], [5, 7]), ([8], [8]), ([], []), ([], []), ([10, 11], [10, 11]), ([12], [12]), ([0, 1, 0, 1, 5, 6, 7, 8, 9, 13], [0, 1]), ([14, 9, 0, 1, 5, 6, 7, 8, 9, 13], [9, 14]), ([2, 4, 0, 1, 2, 3, 4, 5, 6, 7, 8, 9, 10, 11, 12, 13, 14, 15], [2, 4]), ([16, 13, 15, 0, 1, 2, 3, 4, 5, 6, 7, 8, 9, 10, 11, 12, 13, 14, 15], [13, 16])])
def tabIns.B6 : List Nat := [0, 0, 0, 0, 8, 0, 0, 64, 224, 480, 0, 0, 3072, 7168, 16355, 32739, 65535, 131071]
theorem tabIns.tab6 : rtab .any (opsOf Try.f42 6) = tabIns.T6 := by kernel_rfl
theorem tabIns.bits6 : waitsOk tabIns.T6.2 tabIns.B6 = true := by kernel_rfl
set_option maxHeartbeats 8000000 in
set_option maxRecDepth 100000 in
theorem ins_go (fo : Nat → Nat) (w0 : World) (g n cap : Nat) (ok : Nat → Prop) (hg : w0.heap.size ≤ g) (hn : n ≤ 1048576) (a b : Nat) (hab : a ≤ b) (hbn : b ≤ n) (xs : List (S30 × Nat)) (hs : SmL (xs)) (w : World) (ho : Kd.R (Kd.tag fo k30) 30 w w0.heap.size ok (.slice (some ⟨g, 0, none⟩) n cap) xs) (hb : Below w0.heap.size w0 w) :
    Calls Try.prog 42 #[.slice (some ⟨g, 0, none⟩) n cap, .int .i64 (a : Int), .int .i64 (b : Int), .func (.func 22) #[] #[]] w fun e w' => e = .returned (.tuple #[]) ∧ (SmL (St.insSort ltP (z30, 0) a b xs)) ∧ Kd.R (Kd.tag fo k30) 30 w' w0.heap.size ok (.slice (some ⟨g, 0, none⟩) n cap) (St.insSort ltP (z30, 0) a b xs) ∧ Below w0.heap.size w0 w' ∧ Only g w w' := by
  have HG := Aside0.mk hg; have HN := Aside0.mk hn; have HAB := Aside0.mk hab; have HBN := Aside0.mk hbn; have HS := Aside0.mk hs; have HO := Aside0.mk ho; have HB := Aside0.mk hb; have HY := Aside0.mk (Only.refl g w)
  clear hg hn hab hbn hs ho hb
  have hw0 : wrap64 ((a : Int) + 1) = ((a + 1 : Nat) : Int) := by have := HAB.out; have := HBN.out; have := HN.out; unfold wrap64; omega
  go_enter Try.func42, Try.ntmps42
  go_wp2
  go_loopg [8, 9] (b - (a + 1)) (fun gq v8 v9 w' => ∃ (i : Nat) (ys : List (S30 × Nat)), v8 = .int .i64 (i : Int) ∧ Aside0 (a < i ∧ gq = b - i ∧ St.insOut ltP (z30, 0) a (b - i) i ys = St.insSort ltP (z30, 0) a b xs ∧ SmL (ys)) ∧ Aside0 (Kd.R (Kd.tag fo k30) 30 w' w0.heap.size ok (.slice (some ⟨g, 0, none⟩) n cap) ys) ∧ Aside0 (Below w0.heap.size w0 w') ∧ Aside0 (Only g w w'))
  case atStart => exact ⟨a + 1, xs, by rw [← hw0], ⟨by omega, rfl, rfl, HS.out⟩, HO, HB, HY⟩
  case round =>
    clear HO HB HY hw0
    obtain ⟨i, ys, rfl, HI, HO, HB, HY⟩ := hrel
    by_cases d1 : i < b
    · have d2 : (i : Int) < (b : Int) := by omega
      have d3 : decide ((i : Int) < (b : Int)) = true := decide_eq_true d2
      have HD1 := Aside0.mk d1
      have hwi : wrap64 ((i : Int) + 1) = ((i + 1 : Nat) : Int) := by have := HBN.out; have := HN.out; unfold wrap64; omega
      have HWI := Aside0.mk hwi
      clear d1 hwi
      go_wp2
      clear d2 d3
      go_loopg [9] i (fun gq v9 w' => ∃ (j : Nat) (zs : List (S30 × Nat)), v9 = .int .i64 (j : Int) ∧ Aside0 (j ≤ i ∧ gq = j ∧ St.insIn ltP (z30, 0) a j zs = St.insIn ltP (z30, 0) a i ys ∧ SmL (zs)) ∧ Aside0 (Kd.R (Kd.tag fo k30) 30 w' w0.heap.size ok (.slice (some ⟨g, 0, none⟩) n cap) zs) ∧ Aside0 (Below w0.heap.size w0 w') ∧ Aside0 (Only g w w'))
      case atStart => exact ⟨i, ys, rfl, ⟨Nat.le_refl _, rfl, rfl, HI.out.2.2.2⟩, HO, HB, HY⟩
      case round =>
      clear HO HB HY
      obtain ⟨j, zs, rfl, HJ, HO, HB, HY⟩ := hrel
      have HL := Aside0.mk (Kd.R_reads' HO.out).1
      by_cases e1 : a < j
      · obtain ⟨m, hm⟩ : ∃ m, j = m + 1 := ⟨j - 1, by omega⟩
        have HMJ := Aside0.mk hm
        clear hm
        have HE1 := Aside0.mk e1
        have HM := Aside0.mk (show j < n ∧ m < n by have := HMJ.out; have := HJ.out.1; have := HD1.out; have := HBN.out; omega)
        clear e1
        have r1 : ((a : Int) < (j : Int)) = True := eq_true (by have := HE1.out; omega)
        have r2 : wrap64 ((j : Int) - 1) = (m : Int) := by have := HMJ.out; have := HM.out; have := HN.out; unfold wrap64; omega
        have r3 : ((j : Int) < (n : Int)) = True := eq_true (by have := HM.out; omega)
        have r4 : ((m : Int) < (n : Int)) = True := eq_true (by have := HM.out; omega)
        have r5 : (0 ≤ (j : Int)) = True := eq_true (by omega)
        have r6 : (0 ≤ (m : Int)) = True := eq_true (by omega)
        have sX := HJ.out.2.2.2 _ (mem_getD zs (z30, 0) j (by have := HL.out; have := HM.out; omega))
        have sZ := HJ.out.2.2.2 _ (mem_getD zs (z30, 0) m (by have := HL.out; have := HM.out; omega))
        obtain ⟨KC, hKC⟩ := (CompareValues_ev _ _ sX sZ).rounds
        have HC := Aside0.mk hKC
        clear hKC sX sZ
        obtain ⟨X, hX⟩ : ∃ X, X = zs.getD j (z30, 0) := ⟨_, rfl⟩
        obtain ⟨Z, hZ⟩ : ∃ Z, Z = zs.getD m (z30, 0) := ⟨_, rfl⟩
        rw [← hX, ← hZ] at HC
        have HX := Aside0.mk hX; have HZ := Aside0.mk hZ
        clear hX hZ
        try go_wp2
        replace HO := Aside0.mk (Kd.R_drew HO.out)
        replace HB := Aside0.mk (below_drew1 HB.out)
        replace HY := Aside0.mk (HY.out.trans drewOnly)
        obtain ⟨ci, cj, li, lj, Mi, Mj, hci, hcj, fi, fj, RS, OS⟩ := R_swap HO.out (z30, 0) j m (by have := HM.out; omega) (by have := HM.out; omega)
        rw [← HX.out] at Mi; rw [← HZ.out] at Mj
        obtain ⟨va2, va3, rfl, ga2, ga3⟩ := k30_openM Mi
        obtain ⟨vb2, vb3, rfl, gb2, gb3⟩ := k30_openM Mj
        obtain ⟨Aa2, ca2, rfl⟩ := Kd.R_slice ga2
        obtain ⟨Aa3, ca3, rfl⟩ := Kd.R_slice (Kd.S_R ga3)
        obtain ⟨Ab2, cb2, rfl⟩ := Kd.R_slice gb2
        obtain ⟨Ab3, cb3, rfl⟩ := Kd.R_slice (Kd.S_R gb3)
        have GA2 := Aside0.mk (Kd.R_reads' ga2).2; have GA3 := Aside0.mk (Kd.R_reads' (Kd.S_R ga3)).2; have GB2 := Aside0.mk (Kd.R_reads' gb2).2; have GB3 := Aside0.mk (Kd.R_reads' (Kd.S_R gb3)).2
        have p0 := hci 0 _ rfl
        have p1 := hci 1 _ rfl
        have p2 := hci 2 _ rfl
        have p3 := hci 3 _ rfl
        have p4 := hcj 0 _ rfl
        have p5 := hcj 1 _ rfl
        have p6 := hcj 2 _ rfl
        have p7 := hcj 3 _ rfl
        simp only [show (Kd.tag fo k30).sz = 4 from rfl, Nat.add_zero] at p0 p1 p2 p3 p4 p5 p6 p7
        have PC := Aside0.mk (And.intro p0 (And.intro p1 (And.intro p2 (And.intro p3 (And.intro p4 (And.intro p5 (And.intro p6 p7)))))))
        clear RS OS hci hcj fi fj li lj Mi Mj ga2 ga3 gb2 gb3 p0 p1 p2 p3 p4 p5 p6 p7
        by_cases e2 : cmT X.1 Z.1 < 0
        · have r7 : (cmT X.1 Z.1 < 0) = True := eq_true e2
          have HE2 := Aside0.mk e2
          clear e2
          refine start_ (n := 17) (S := fun w' => w'.cell? ⟨g, j * 4, none⟩ = some (.int .i64 X.1.f0) ∧ w'.cell? ⟨g, j * 4 + 1, none⟩ = some (.int .i64 X.1.f1) ∧ w'.cell? ⟨g, j * 4 + 2, none⟩ = some (.slice Aa2 X.1.f2.length ca2) ∧ w'.cell? ⟨g, j * 4 + 3, none⟩ = some (.slice Aa3 X.1.f3.length ca3) ∧ w'.cell? ⟨g, m * 4, none⟩ = some (.int .i64 Z.1.f0) ∧ w'.cell? ⟨g, m * 4 + 1, none⟩ = some (.int .i64 Z.1.f1) ∧ w'.cell? ⟨g, m * 4 + 2, none⟩ = some (.slice Ab2 Z.1.f2.length cb2) ∧ w'.cell? ⟨g, m * 4 + 3, none⟩ = some (.slice Ab3 Z.1.f3.length cb3)) (ds := []) #[false, false, false, false, false, false, false, false, false, false, false, false, false, false, false, false, false] (by kernel_rfl) rfl rfl PC.out (fun hHeld => ?_); refine with_tabW tabIns.tab4 tabIns.bits4 (fun HT_ HW_ => ?_)
          generalize wr.drew = w1 at HO HB HY PC GA2 GA3 GB2 GB3 hHeld ⊢
          refine pure_ (i := 0) (N := some 18) (v := ?_) (a' := ?_) #[true, false, false, false, false, false, false, false, false, false, false, false, false, false, false, false, false] rfl rfl (any_of HT_.out (by kernel_rfl)) (fun _ _ _ h => h) (Or.inl ⟨by rfl, ?_⟩) ?_ ?_
          rotate_left
          · intro w'
            go_simp
            try with_reducible rfl
          rotate_left
          · simp only [Act.put, List.setIfInBounds_toArray, List.set_cons_zero, List.set_cons_succ, i64_w, i32_w]
            rfl
          refine pure_ (i := 1) (N := some 19) (v := ?_) (a' := ?_) #[true, true, false, false, false, false, false, false, false, false, false, false, false, false, false, false, false] rfl rfl (any_of HT_.out (by kernel_rfl)) (fun _ _ _ h => h) (Or.inl ⟨by rfl, ?_⟩) ?_ ?_
          rotate_left
          · intro w'
            go_simp
            try with_reducible rfl
          rotate_left
          · simp only [Act.put, List.setIfInBounds_toArray, List.set_cons_zero, List.set_cons_succ, i64_w, i32_w]
            rfl
          refine pure_ (i := 2) (N := some 20) (v := ?_) (a' := ?_) #[true, true, true, false, false, false, false, false, false, false, false, false, false, false, false, false, false] rfl rfl (any_of HT_.out (by kernel_rfl)) (fun _ _ _ h => h) (Or.inl ⟨by rfl, ?_⟩) ?_ ?_
          rotate_left
          · intro w'
            go_simp
            try with_reducible rfl
          rotate_left
          · simp only [Act.put, List.setIfInBounds_toArray, List.set_cons_zero, List.set_cons_succ, i64_w, i32_w]
            rfl
          refine pure_ (i := 3) (N := some 21) (v := ?_) (a' := ?_) #[true, true, true, true, false, false, false, false, false, false, false, false, false, false, false, false, false] rfl rfl (any_of HT_.out (by kernel_rfl)) (fun _ _ _ h => h) (Or.inl ⟨by rfl, ?_⟩) ?_ ?_
          rotate_left
          · intro w'
            go_simp
            try with_reducible rfl
          rotate_left
          · simp only [Act.put, List.setIfInBounds_toArray, List.set_cons_zero, List.set_cons_succ, i64_w, i32_w]
            rfl
          refine pure_ (i := 4) (N := some 22) (v := ?_) (a' := ?_) #[true, true, true, true, true, false, false, false, false, false, false, false, false, false, false, false, false] rfl rfl (any_of HT_.out (by kernel_rfl)) (fun _ _ _ h => h) (Or.inl ⟨by rfl, ?_⟩) ?_ ?_
          rotate_left
          · intro w'
            go_simp
            try with_reducible rfl
          rotate_left
          · simp only [Act.put, List.setIfInBounds_toArray, List.set_cons_zero, List.set_cons_succ, i64_w, i32_w]
            rfl
          refine pure_ (i := 5) (N := some 23) (v := ?_) (a' := ?_) #[true, true, true, true, true, true, false, false, false, false, false, false, false, false, false, false, false] rfl rfl (any_of HT_.out (by kernel_rfl)) (fun _ _ _ h => h) (Or.inl ⟨by rfl, ?_⟩) ?_ ?_
          rotate_left
          · intro w'
            go_simp
            try with_reducible rfl
          rotate_left
          · simp only [Act.put, List.setIfInBounds_toArray, List.set_cons_zero, List.set_cons_succ, i64_w, i32_w]
            rfl
          refine pure_ (i := 6) (N := some 24) (v := ?_) (a' := ?_) #[true, true, true, true, true, true, true, false, false, false, false, false, false, false, false, false, false] rfl rfl (any_of HT_.out (by kernel_rfl)) (fun _ _ _ h => h) (Or.inl ⟨by rfl, ?_⟩) ?_ ?_
          rotate_left
          · intro w'
            go_simp
            try with_reducible rfl
          rotate_left
          · simp only [Act.put, List.setIfInBounds_toArray, List.set_cons_zero, List.set_cons_succ, i64_w, i32_w]
            rfl
          refine pure_ (i := 7) (N := some 25) (v := ?_) (a' := ?_) #[true, true, true, true, true, true, true, true, false, false, false, false, false, false, false, false, false] rfl rfl (any_of HT_.out (by kernel_rfl)) (fun _ _ _ h => h) (Or.inl ⟨by rfl, ?_⟩) ?_ ?_
          rotate_left
          · intro w'
            go_simp
            try with_reducible rfl
          rotate_left
          · simp only [Act.put, List.setIfInBounds_toArray, List.set_cons_zero, List.set_cons_succ, i64_w, i32_w]
            rfl
          refine take_ (i := 8) (N := some 26) (v := ?_) (a' := ?_) #[true, true, true, true, true, true, true, true, true, false, false, false, false, false, false, false, false] rfl rfl (take_ofW HT_.out HW_.out (by kernel_rfl)) (fun _ _ _ h => h) (Or.inl ⟨by rfl, ?_⟩) hHeld ?_ ?_
          rotate_left
          · rintro w' ⟨s0, s1, s2, s3, s4, s5, s6, s7⟩
            go_simp
            with_reducible rfl
          rotate_left
          · simp only [Act.put, List.setIfInBounds_toArray, List.set_cons_zero, List.set_cons_succ, i64_w, i32_w]
            rfl
          refine pure_ (i := 9) (N := some 27) (v := ?_) (a' := ?_) #[true, true, true, true, true, true, true, true, true, true, false, false, false, false, false, false, false] rfl rfl (any_of HT_.out (by kernel_rfl)) (fun _ _ _ h => h) (Or.inl ⟨by rfl, ?_⟩) ?_ ?_
          rotate_left
          · intro w'
            go_simp
            try with_reducible rfl
          rotate_left
          · simp only [Act.put, List.setIfInBounds_toArray, List.set_cons_zero, List.set_cons_succ, i64_w, i32_w]
            rfl
          refine pure_ (i := 10) (N := some 28) (v := ?_) (a' := ?_) #[true, true, true, true, true, true, true, true, true, true, true, false, false, false, false, false, false] rfl rfl (any_of HT_.out (by kernel_rfl)) (fun _ _ _ h => h) (Or.inl ⟨by rfl, ?_⟩) ?_ ?_
          rotate_left
          · intro w'
            go_simp
            try with_reducible rfl
          rotate_left
          · simp only [Act.put, List.setIfInBounds_toArray, List.set_cons_zero, List.set_cons_succ, i64_w, i32_w]
            rfl
          refine pure_ (i := 11) (N := some 29) (v := ?_) (a' := ?_) #[true, true, true, true, true, true, true, true, true, true, true, true, false, false, false, false, false] rfl rfl (any_of HT_.out (by kernel_rfl)) (fun _ _ _ h => h) (Or.inl ⟨by rfl, ?_⟩) ?_ ?_
          rotate_left
          · intro w'
            go_simp
            try with_reducible rfl
          rotate_left
          · simp only [Act.put, List.setIfInBounds_toArray, List.set_cons_zero, List.set_cons_succ, i64_w, i32_w]
            rfl
          refine pure_ (i := 12) (N := some 30) (v := ?_) (a' := ?_) #[true, true, true, true, true, true, true, true, true, true, true, true, true, false, false, false, false] rfl rfl (any_of HT_.out (by kernel_rfl)) (fun _ _ _ h => h) (Or.inl ⟨by rfl, ?_⟩) ?_ ?_
          rotate_left
          · intro w'
            go_simp
            try with_reducible rfl
          rotate_left
          · simp only [Act.put, List.setIfInBounds_toArray, List.set_cons_zero, List.set_cons_succ, i64_w, i32_w]
            rfl
          refine take_ (i := 13) (N := some 31) (v := ?_) (a' := ?_) #[true, true, true, true, true, true, true, true, true, true, true, true, true, true, false, false, false] rfl rfl (take_ofW HT_.out HW_.out (by kernel_rfl)) (fun _ _ _ h => h) (Or.inl ⟨by rfl, ?_⟩) hHeld ?_ ?_
          rotate_left
          · rintro w' ⟨s0, s1, s2, s3, s4, s5, s6, s7⟩
            go_simp
            with_reducible rfl
          rotate_left
          · simp only [Act.put, List.setIfInBounds_toArray, List.set_cons_zero, List.set_cons_succ, i64_w, i32_w]
            rfl
          refine one_ (i := 14) (N := some 32) #[true, true, true, true, true, true, true, true, true, true, true, true, true, true, true, false, false] rfl rfl (one_of HT_.out (by kernel_rfl)) (by decide) (fun K hK => ?_)
          refine goesC0_ 22 (by rfl) Try.func22 (by kernel_rfl) rfl #[.agg #[.int .i64 X.1.f0, .int .i64 X.1.f1, .slice Aa2 X.1.f2.length ca2, .slice Aa3 X.1.f3.length ca3], .agg #[.int .i64 Z.1.f0, .int .i64 Z.1.f1, .slice Ab2 Z.1.f2.length cb2, .slice Ab3 Z.1.f3.length cb3]] (by rfl) rfl rfl (by (try simp only [List.map_toArray, List.map_cons, List.map_nil]); first | done | rfl | (simp only [List.length_drop, List.length_take]; rfl)) ?_
          have hb_ : ∀ {w1 w2 : World}, Below w1.heap.size w1 w2 → Below w1.heap.size w1 w2 := fun h => h
          refine (impl_CompareValues.calls KC X.1.f0 X.1.f1 Aa2 ca2 X.1.f2 Aa3 ca3 X.1.f3 Z.1.f0 Z.1.f1 Ab2 cb2 Z.1.f2 Ab3 cb3 Z.1.f3 _ _ GA2.out.2 GA2.out.1 GA3.out.2 GA3.out.1 GB2.out.2 GB2.out.1 GB3.out.2 GB3.out.1 HC.out).mono ?_
          rintro e w2 ⟨rfl, hd⟩
          refine ⟨_, rfl, ?_⟩
          try replace hd := Drawn0.below hd
          replace HO := Aside0.mk (Kd.R_below HO.out hd)
          replace HB := Aside0.mk (below_step HB.out hd)
          replace HY := Aside0.mk (HY.out.trans (Only.below hd))
          replace PC := Aside0.mk (show w2.cell? ⟨g, j * 4, none⟩ = some (.int .i64 X.1.f0) ∧ w2.cell? ⟨g, j * 4 + 1, none⟩ = some (.int .i64 X.1.f1) ∧ w2.cell? ⟨g, j * 4 + 2, none⟩ = some (.slice Aa2 X.1.f2.length ca2) ∧ w2.cell? ⟨g, j * 4 + 3, none⟩ = some (.slice Aa3 X.1.f3.length ca3) ∧ w2.cell? ⟨g, m * 4, none⟩ = some (.int .i64 Z.1.f0) ∧ w2.cell? ⟨g, m * 4 + 1, none⟩ = some (.int .i64 Z.1.f1) ∧ w2.cell? ⟨g, m * 4 + 2, none⟩ = some (.slice Ab2 Z.1.f2.length cb2) ∧ w2.cell? ⟨g, m * 4 + 3, none⟩ = some (.slice Ab3 Z.1.f3.length cb3) from ⟨pw_cell_below hd PC.out.1, pw_cell_below hd PC.out.2.1, pw_cell_below hd PC.out.2.2.1, pw_cell_below hd PC.out.2.2.2.1, pw_cell_below hd PC.out.2.2.2.2.1, pw_cell_below hd PC.out.2.2.2.2.2.1, pw_cell_below hd PC.out.2.2.2.2.2.2.1, pw_cell_below hd PC.out.2.2.2.2.2.2.2⟩)
          clear hd
          refine hK.out _ _ PC.out (fun hHeld => ?_)
          clear hK K
          refine norm_ (a' := ?_) ?_ ?_
          rotate_left
          · show Act.put _ (some 32) _ = _
            simp only [Act.put, List.setIfInBounds_toArray, List.set_cons_zero, List.set_cons_succ, i64_w, i32_w]
            rfl
          refine pure_ (i := 15) (N := some 33) (v := ?_) (a' := ?_) #[true, true, true, true, true, true, true, true, true, true, true, true, true, true, true, true, false] rfl rfl (any_of HT_.out (by kernel_rfl)) (fun _ _ _ h => h) (Or.inl ⟨by rfl, ?_⟩) ?_ ?_
          rotate_left
          · intro w'
            go_simp
            try with_reducible rfl
          rotate_left
          · simp only [Act.put, List.setIfInBounds_toArray, List.set_cons_zero, List.set_cons_succ, i64_w, i32_w]
            rfl
          refine pure_ (i := 16) (N := some 34) (v := ?_) (a' := ?_) #[true, true, true, true, true, true, true, true, true, true, true, true, true, true, true, true, true] rfl rfl (any_of HT_.out (by kernel_rfl)) (fun _ _ _ h => h) (Or.inl ⟨by rfl, ?_⟩) ?_ ?_
          rotate_left
          · intro w'
            go_simp
            try with_reducible rfl
          rotate_left
          · simp only [Act.put, List.setIfInBounds_toArray, List.set_cons_zero, List.set_cons_succ, i64_w, i32_w]
            rfl
          refine done_ (done_of HT_.out (by kernel_rfl)) ?_
          clear HT_ HW_
          clear r7 hHeld PC GA2 GA3 GB2 GB3
          try go_wp2
          replace HO := Aside0.mk (Kd.R_drew HO.out)
          replace HB := Aside0.mk (below_drew1 HB.out)
          replace HY := Aside0.mk (HY.out.trans drewOnly)
          obtain ⟨ci, cj, li, lj, Mi, Mj, hci, hcj, fi, fj, RS, OS, BS, NC, NF⟩ := R_swap HO.out (z30, 0) j m (by have := HM.out; omega) (by have := HM.out; omega)
          obtain ⟨X_, hX_⟩ : ∃ X, X = zs.getD j (z30, 0) := ⟨_, rfl⟩
          obtain ⟨Z_, hZ_⟩ : ∃ Z, Z = zs.getD m (z30, 0) := ⟨_, rfl⟩
          rw [← hX_] at Mi; rw [← hZ_] at Mj
          clear hX_ hZ_
          obtain ⟨va2, va3, rfl, ga2, ga3⟩ := k30_openM Mi
          obtain ⟨vb2, vb3, rfl, gb2, gb3⟩ := k30_openM Mj
          obtain ⟨Ea2, fa2, rfl⟩ := Kd.R_slice ga2
          obtain ⟨Ea3, fa3, rfl⟩ := Kd.R_slice (Kd.S_R ga3)
          obtain ⟨Eb2, fb2, rfl⟩ := Kd.R_slice gb2
          obtain ⟨Eb3, fb3, rfl⟩ := Kd.R_slice (Kd.S_R gb3)
          have p0 := hci 0 _ rfl
          have p1 := hci 1 _ rfl
          have p2 := hci 2 _ rfl
          have p3 := hci 3 _ rfl
          have p4 := hcj 0 _ rfl
          have p5 := hcj 1 _ rfl
          have p6 := hcj 2 _ rfl
          have p7 := hcj 3 _ rfl
          have q0 := fi 0
          have q1 := fi 1
          have q2 := fi 2
          have q3 := fi 3
          have q4 := fj 0
          have q5 := fj 1
          have q6 := fj 2
          have q7 := fj 3
          obtain ⟨un0, n0⟩ := NC 0 (by show 0 < 4; decide)
          obtain ⟨un1, n1⟩ := NC 1 (by show 1 < 4; decide)
          obtain ⟨un2, n2⟩ := NC 2 (by show 2 < 4; decide)
          obtain ⟨un3, n3⟩ := NC 3 (by show 3 < 4; decide)
          have m0 := NF 0
          have m1 := NF 1
          have m2 := NF 2
          have m3 := NF 3
          simp only [show (Kd.tag fo k30).sz = 4 from rfl, Nat.add_zero] at p0 p1 p2 p3 p4 p5 p6 p7 q0 q1 q2 q3 q4 q5 q6 q7
          simp only [show (Kd.tag fo k30).sz = 4 from rfl, World.setCells, Nat.add_assoc, Nat.add_zero, Nat.reduceAdd] at RS OS BS n0 m0 n1 m1 n2 m2 n3 m3
          have RS_ := Aside0.mk RS; have OS_ := Aside0.mk OS; have BS_ := Aside0.mk (BS w0 HG.out)
          clear RS OS BS NC NF hci hcj fi fj li lj Mi Mj ga2 ga3 gb2 gb3
          refine start_ (n := 18) (S := fun w' => w'.cell? ⟨g, j * 4, none⟩ = some (.int .i64 X_.1.f0) ∧ w'.cell? ⟨g, j * 4 + 1, none⟩ = some (.int .i64 X_.1.f1) ∧ w'.cell? ⟨g, j * 4 + 2, none⟩ = some (.slice Ea2 X_.1.f2.length fa2) ∧ w'.cell? ⟨g, j * 4 + 3, none⟩ = some (.slice Ea3 X_.1.f3.length fa3) ∧ w'.cell? ⟨g, m * 4, none⟩ = some (.int .i64 Z_.1.f0) ∧ w'.cell? ⟨g, m * 4 + 1, none⟩ = some (.int .i64 Z_.1.f1) ∧ w'.cell? ⟨g, m * 4 + 2, none⟩ = some (.slice Eb2 Z_.1.f2.length fb2) ∧ w'.cell? ⟨g, m * 4 + 3, none⟩ = some (.slice Eb3 Z_.1.f3.length fb3)) (ds := [15, 17]) #[false, false, false, false, false, false, false, false, false, false, false, false, false, false, false, false, false, false] (by kernel_rfl) rfl rfl ⟨p0, p1, p2, p3, p4, p5, p6, p7⟩ (fun hHeld => ?_); refine with_tabW tabIns.tab6 tabIns.bits6 (fun HT_ HW_ => ?_)
          generalize World.drew _ = w3 at HO HB HY RS_ OS_ BS_ hHeld p0 p1 p2 p3 p4 p5 p6 p7 q0 q1 q2 q3 q4 q5 q6 q7 n0 m0 n1 m1 n2 m2 n3 m3  ⊢
          refine pure_ (i := 0) (N := some 37) (v := ?_) (a' := ?_) #[true, false, false, false, false, false, false, false, false, false, false, false, false, false, false, false, false, false] rfl rfl (any_of HT_.out (by kernel_rfl)) (fun _ _ _ h => h) (Or.inl ⟨by rfl, ?_⟩) ?_ ?_
          rotate_left
          · intro w'
            go_simp
            try with_reducible rfl
          rotate_left
          · simp only [Act.put, List.setIfInBounds_toArray, List.set_cons_zero, List.set_cons_succ, i64_w, i32_w]
            rfl
          refine pure_ (i := 1) (N := some 38) (v := ?_) (a' := ?_) #[true, true, false, false, false, false, false, false, false, false, false, false, false, false, false, false, false, false] rfl rfl (any_of HT_.out (by kernel_rfl)) (fun _ _ _ h => h) (Or.inl ⟨by rfl, ?_⟩) ?_ ?_
          rotate_left
          · intro w'
            go_simp
            try with_reducible rfl
          rotate_left
          · simp only [Act.put, List.setIfInBounds_toArray, List.set_cons_zero, List.set_cons_succ, i64_w, i32_w]
            rfl
          refine pure_ (i := 2) (N := some 39) (v := ?_) (a' := ?_) #[true, true, true, false, false, false, false, false, false, false, false, false, false, false, false, false, false, false] rfl rfl (any_of HT_.out (by kernel_rfl)) (fun _ _ _ h => h) (Or.inl ⟨by rfl, ?_⟩) ?_ ?_
          rotate_left
          · intro w'
            go_simp
            try with_reducible rfl
          rotate_left
          · simp only [Act.put, List.setIfInBounds_toArray, List.set_cons_zero, List.set_cons_succ, i64_w, i32_w]
            rfl
          refine pure_ (i := 3) (N := some 40) (v := ?_) (a' := ?_) #[true, true, true, true, false, false, false, false, false, false, false, false, false, false, false, false, false, false] rfl rfl (any_of HT_.out (by kernel_rfl)) (fun _ _ _ h => h) (Or.inl ⟨by rfl, ?_⟩) ?_ ?_
          rotate_left
          · intro w'
            go_simp
            try with_reducible rfl
          rotate_left
          · simp only [Act.put, List.setIfInBounds_toArray, List.set_cons_zero, List.set_cons_succ, i64_w, i32_w]
            rfl
          refine pure_ (i := 4) (N := some 41) (v := ?_) (a' := ?_) #[true, true, true, true, true, false, false, false, false, false, false, false, false, false, false, false, false, false] rfl rfl (any_of HT_.out (by kernel_rfl)) (fun _ _ _ h => h) (Or.inl ⟨by rfl, ?_⟩) ?_ ?_
          rotate_left
          · intro w'
            go_simp
            try with_reducible rfl
          rotate_left
          · simp only [Act.put, List.setIfInBounds_toArray, List.set_cons_zero, List.set_cons_succ, i64_w, i32_w]
            rfl
          refine pure_ (i := 5) (N := some 42) (v := ?_) (a' := ?_) #[true, true, true, true, true, true, false, false, false, false, false, false, false, false, false, false, false, false] rfl rfl (any_of HT_.out (by kernel_rfl)) (fun _ _ _ h => h) (Or.inl ⟨by rfl, ?_⟩) ?_ ?_
          rotate_left
          · intro w'
            go_simp
            try with_reducible rfl
          rotate_left
          · simp only [Act.put, List.setIfInBounds_toArray, List.set_cons_zero, List.set_cons_succ, i64_w, i32_w]
            rfl
          refine pure_ (i := 6) (N := some 43) (v := ?_) (a' := ?_) #[true, true, true, true, true, true, true, false, false, false, false, false, false, false, false, false, false, false] rfl rfl (any_of HT_.out (by kernel_rfl)) (fun _ _ _ h => h) (Or.inl ⟨by rfl, ?_⟩) ?_ ?_
          rotate_left
          · intro w'
            go_simp
            try with_reducible rfl
          rotate_left
          · simp only [Act.put, List.setIfInBounds_toArray, List.set_cons_zero, List.set_cons_succ, i64_w, i32_w]
            rfl
          refine pure_ (i := 7) (N := some 44) (v := ?_) (a' := ?_) #[true, true, true, true, true, true, true, true, false, false, false, false, false, false, false, false, false, false] rfl rfl (any_of HT_.out (by kernel_rfl)) (fun _ _ _ h => h) (Or.inl ⟨by rfl, ?_⟩) ?_ ?_
          rotate_left
          · intro w'
            go_simp
            try with_reducible rfl
          rotate_left
          · simp only [Act.put, List.setIfInBounds_toArray, List.set_cons_zero, List.set_cons_succ, i64_w, i32_w]
            rfl
          refine pure_ (i := 8) (N := some 45) (v := ?_) (a' := ?_) #[true, true, true, true, true, true, true, true, true, false, false, false, false, false, false, false, false, false] rfl rfl (any_of HT_.out (by kernel_rfl)) (fun _ _ _ h => h) (Or.inl ⟨by rfl, ?_⟩) ?_ ?_
          rotate_left
          · intro w'
            go_simp
            try with_reducible rfl
          rotate_left
          · simp only [Act.put, List.setIfInBounds_toArray, List.set_cons_zero, List.set_cons_succ, i64_w, i32_w]
            rfl
          refine take_ (i := 9) (N := some 46) (v := ?_) (a' := ?_) #[true, true, true, true, true, true, true, true, true, true, false, false, false, false, false, false, false, false] rfl rfl (take_ofW HT_.out HW_.out (by kernel_rfl)) (fun _ _ _ h => h) (Or.inl ⟨by rfl, ?_⟩) hHeld ?_ ?_
          rotate_left
          · rintro w' ⟨s0, s1, s2, s3, s4, s5, s6, s7⟩
            go_simp
            with_reducible rfl
          rotate_left
          · simp only [Act.put, List.setIfInBounds_toArray, List.set_cons_zero, List.set_cons_succ, i64_w, i32_w]
            rfl
          refine pure_ (i := 10) (N := some 47) (v := ?_) (a' := ?_) #[true, true, true, true, true, true, true, true, true, true, true, false, false, false, false, false, false, false] rfl rfl (any_of HT_.out (by kernel_rfl)) (fun _ _ _ h => h) (Or.inl ⟨by rfl, ?_⟩) ?_ ?_
          rotate_left
          · intro w'
            go_simp
            try with_reducible rfl
          rotate_left
          · simp only [Act.put, List.setIfInBounds_toArray, List.set_cons_zero, List.set_cons_succ, i64_w, i32_w]
            rfl
          refine pure_ (i := 11) (N := some 48) (v := ?_) (a' := ?_) #[true, true, true, true, true, true, true, true, true, true, true, true, false, false, false, false, false, false] rfl rfl (any_of HT_.out (by kernel_rfl)) (fun _ _ _ h => h) (Or.inl ⟨by rfl, ?_⟩) ?_ ?_
          rotate_left
          · intro w'
            go_simp
            try with_reducible rfl
          rotate_left
          · simp only [Act.put, List.setIfInBounds_toArray, List.set_cons_zero, List.set_cons_succ, i64_w, i32_w]
            rfl
          refine pure_ (i := 12) (N := some 49) (v := ?_) (a' := ?_) #[true, true, true, true, true, true, true, true, true, true, true, true, true, false, false, false, false, false] rfl rfl (any_of HT_.out (by kernel_rfl)) (fun _ _ _ h => h) (Or.inl ⟨by rfl, ?_⟩) ?_ ?_
          rotate_left
          · intro w'
            go_simp
            try with_reducible rfl
          rotate_left
          · simp only [Act.put, List.setIfInBounds_toArray, List.set_cons_zero, List.set_cons_succ, i64_w, i32_w]
            rfl
          refine take_ (i := 13) (N := some 50) (v := ?_) (a' := ?_) #[true, true, true, true, true, true, true, true, true, true, true, true, true, true, false, false, false, false] rfl rfl (take_ofW HT_.out HW_.out (by kernel_rfl)) (fun _ _ _ h => h) (Or.inl ⟨by rfl, ?_⟩) hHeld ?_ ?_
          rotate_left
          · rintro w' ⟨s0, s1, s2, s3, s4, s5, s6, s7⟩
            go_simp
            with_reducible rfl
          rotate_left
          · simp only [Act.put, List.setIfInBounds_toArray, List.set_cons_zero, List.set_cons_succ, i64_w, i32_w]
            rfl
          refine pure_ (i := 14) (N := some 51) (v := ?_) (a' := ?_) #[true, true, true, true, true, true, true, true, true, true, true, true, true, true, true, false, false, false] rfl rfl (any_of HT_.out (by kernel_rfl)) (fun _ _ _ h => h) (Or.inl ⟨by rfl, ?_⟩) ?_ ?_
          rotate_left
          · intro w'
            go_simp
            try with_reducible rfl
          rotate_left
          · simp only [Act.put, List.setIfInBounds_toArray, List.set_cons_zero, List.set_cons_succ, i64_w, i32_w]
            rfl
          refine last_ (i := 15) (N := none) #[true, true, true, true, true, true, true, true, true, true, true, true, true, true, true, true, false, false] rfl rfl (one_of HT_.out (by kernel_rfl)) (by decide) (fun K hK => ?_)
          refine skip_ (w1 := ?_) (by rfl) rfl ?_ ?_
          rotate_left
          · go_simp
            rfl
          refine hK.out _ _ ?_
          clear hK K
          refine pure_ (i := 16) (N := some 52) (v := ?_) (a' := ?_) #[true, true, true, true, true, true, true, true, true, true, true, true, true, true, true, true, true, false] rfl rfl (any_of HT_.out (by kernel_rfl)) (fun _ _ _ h => h) (Or.inl ⟨by rfl, ?_⟩) ?_ ?_
          rotate_left
          · intro w'
            go_simp
            try with_reducible rfl
          rotate_left
          · simp only [Act.put, List.setIfInBounds_toArray, List.set_cons_zero, List.set_cons_succ, i64_w, i32_w]
            rfl
          refine last_ (i := 17) (N := none) #[true, true, true, true, true, true, true, true, true, true, true, true, true, true, true, true, true, true] rfl rfl (one_of HT_.out (by kernel_rfl)) (by decide) (fun K hK => ?_)
          refine skip_ (w1 := ?_) (by rfl) rfl ?_ ?_
          rotate_left
          · go_simp
            rfl
          refine hK.out _ _ ?_
          clear hK K
          refine done_ (done_of HT_.out (by kernel_rfl)) ?_
          clear HT_ HW_
          clear p0 p1 p2 p3 p4 p5 p6 p7 q0 q1 q2 q3 q4 q5 q6 q7 n0 m0 n1 m1 n2 m2 n3 m3 hHeld HO
          replace HO := RS_
          clear RS_
          replace HB := Aside0.mk (BS_.out HB.out)
          replace HY := Aside0.mk (HY.out.trans OS_.out)
          clear OS_ BS_
          try go_wp2
          go_roundg m
          case measure => have := HMJ.out; have := HJ.out.2.1; omega
          case rel => exact ⟨m, St.swp (z30, 0) zs j m, (by first | rfl | rw [r2] | simp [r2]), ⟨by have := HJ.out.1; have := HMJ.out; omega, rfl, by have q1 := HX.out; have q2 := HE2.out; have q3 := HZ.out; have q4 := HMJ.out; have q5 := HE1.out; have q6 := HJ.out.2.2.1; subst q4; rw [← q6]; exact (insIn_go q5 (by rw [← q1, ← q3]; exact q2)).symm, sm_swp HJ.out.2.2.2 j m (by have := HL.out; have := HM.out; omega) (by have := HL.out; have := HM.out; omega)⟩, HO, HB, HY⟩
        · have r7 : (cmT X.1 Z.1 < 0) = False := eq_false e2
          have HE2 := Aside0.mk e2
          clear e2
          refine start_ (n := 17) (S := fun w' => w'.cell? ⟨g, j * 4, none⟩ = some (.int .i64 X.1.f0) ∧ w'.cell? ⟨g, j * 4 + 1, none⟩ = some (.int .i64 X.1.f1) ∧ w'.cell? ⟨g, j * 4 + 2, none⟩ = some (.slice Aa2 X.1.f2.length ca2) ∧ w'.cell? ⟨g, j * 4 + 3, none⟩ = some (.slice Aa3 X.1.f3.length ca3) ∧ w'.cell? ⟨g, m * 4, none⟩ = some (.int .i64 Z.1.f0) ∧ w'.cell? ⟨g, m * 4 + 1, none⟩ = some (.int .i64 Z.1.f1) ∧ w'.cell? ⟨g, m * 4 + 2, none⟩ = some (.slice Ab2 Z.1.f2.length cb2) ∧ w'.cell? ⟨g, m * 4 + 3, none⟩ = some (.slice Ab3 Z.1.f3.length cb3)) (ds := []) #[false, false, false, false, false, false, false, false, false, false, false, false, false, false, false, false, false] (by kernel_rfl) rfl rfl PC.out (fun hHeld => ?_); refine with_tabW tabIns.tab4 tabIns.bits4 (fun HT_ HW_ => ?_)
          generalize wr.drew = w1 at HO HB HY PC GA2 GA3 GB2 GB3 hHeld ⊢
          refine pure_ (i := 0) (N := some 18) (v := ?_) (a' := ?_) #[true, false, false, false, false, false, false, false, false, false, false, false, false, false, false, false, false] rfl rfl (any_of HT_.out (by kernel_rfl)) (fun _ _ _ h => h) (Or.inl ⟨by rfl, ?_⟩) ?_ ?_
          rotate_left
          · intro w'
            go_simp
            try with_reducible rfl
          rotate_left
          · simp only [Act.put, List.setIfInBounds_toArray, List.set_cons_zero, List.set_cons_succ, i64_w, i32_w]
            rfl
          refine pure_ (i := 1) (N := some 19) (v := ?_) (a' := ?_) #[true, true, false, false, false, false, false, false, false, false, false, false, false, false, false, false, false] rfl rfl (any_of HT_.out (by kernel_rfl)) (fun _ _ _ h => h) (Or.inl ⟨by rfl, ?_⟩) ?_ ?_
          rotate_left
          · intro w'
            go_simp
            try with_reducible rfl
          rotate_left
          · simp only [Act.put, List.setIfInBounds_toArray, List.set_cons_zero, List.set_cons_succ, i64_w, i32_w]
            rfl
          refine pure_ (i := 2) (N := some 20) (v := ?_) (a' := ?_) #[true, true, true, false, false, false, false, false, false, false, false, false, false, false, false, false, false] rfl rfl (any_of HT_.out (by kernel_rfl)) (fun _ _ _ h => h) (Or.inl ⟨by rfl, ?_⟩) ?_ ?_
          rotate_left
          · intro w'
            go_simp
            try with_reducible rfl
          rotate_left
          · simp only [Act.put, List.setIfInBounds_toArray, List.set_cons_zero, List.set_cons_succ, i64_w, i32_w]
            rfl
          refine pure_ (i := 3) (N := some 21) (v := ?_) (a' := ?_) #[true, true, true, true, false, false, false, false, false, false, false, false, false, false, false, false, false] rfl rfl (any_of HT_.out (by kernel_rfl)) (fun _ _ _ h => h) (Or.inl ⟨by rfl, ?_⟩) ?_ ?_
          rotate_left
          · intro w'
            go_simp
            try with_reducible rfl
          rotate_left
          · simp only [Act.put, List.setIfInBounds_toArray, List.set_cons_zero, List.set_cons_succ, i64_w, i32_w]
            rfl
          refine pure_ (i := 4) (N := some 22) (v := ?_) (a' := ?_) #[true, true, true, true, true, false, false, false, false, false, false, false, false, false, false, false, false] rfl rfl (any_of HT_.out (by kernel_rfl)) (fun _ _ _ h => h) (Or.inl ⟨by rfl, ?_⟩) ?_ ?_
          rotate_left
          · intro w'
            go_simp
            try with_reducible rfl
          rotate_left
          · simp only [Act.put, List.setIfInBounds_toArray, List.set_cons_zero, List.set_cons_succ, i64_w, i32_w]
            rfl
          refine pure_ (i := 5) (N := some 23) (v := ?_) (a' := ?_) #[true, true, true, true, true, true, false, false, false, false, false, false, false, false, false, false, false] rfl rfl (any_of HT_.out (by kernel_rfl)) (fun _ _ _ h => h) (Or.inl ⟨by rfl, ?_⟩) ?_ ?_
          rotate_left
          · intro w'
            go_simp
            try with_reducible rfl
          rotate_left
          · simp only [Act.put, List.setIfInBounds_toArray, List.set_cons_zero, List.set_cons_succ, i64_w, i32_w]
            rfl
          refine pure_ (i := 6) (N := some 24) (v := ?_) (a' := ?_) #[true, true, true, true, true, true, true, false, false, false, false, false, false, false, false, false, false] rfl rfl (any_of HT_.out (by kernel_rfl)) (fun _ _ _ h => h) (Or.inl ⟨by rfl, ?_⟩) ?_ ?_
          rotate_left
          · intro w'
            go_simp
            try with_reducible rfl
          rotate_left
          · simp only [Act.put, List.setIfInBounds_toArray, List.set_cons_zero, List.set_cons_succ, i64_w, i32_w]
            rfl
          refine pure_ (i := 7) (N := some 25) (v := ?_) (a' := ?_) #[true, true, true, true, true, true, true, true, false, false, false, false, false, false, false, false, false] rfl rfl (any_of HT_.out (by kernel_rfl)) (fun _ _ _ h => h) (Or.inl ⟨by rfl, ?_⟩) ?_ ?_
          rotate_left
          · intro w'
            go_simp
            try with_reducible rfl
          rotate_left
          · simp only [Act.put, List.setIfInBounds_toArray, List.set_cons_zero, List.set_cons_succ, i64_w, i32_w]
            rfl
          refine take_ (i := 8) (N := some 26) (v := ?_) (a' := ?_) #[true, true, true, true, true, true, true, true, true, false, false, false, false, false, false, false, false] rfl rfl (take_ofW HT_.out HW_.out (by kernel_rfl)) (fun _ _ _ h => h) (Or.inl ⟨by rfl, ?_⟩) hHeld ?_ ?_
          rotate_left
          · rintro w' ⟨s0, s1, s2, s3, s4, s5, s6, s7⟩
            go_simp
            with_reducible rfl
          rotate_left
          · simp only [Act.put, List.setIfInBounds_toArray, List.set_cons_zero, List.set_cons_succ, i64_w, i32_w]
            rfl
          refine pure_ (i := 9) (N := some 27) (v := ?_) (a' := ?_) #[true, true, true, true, true, true, true, true, true, true, false, false, false, false, false, false, false] rfl rfl (any_of HT_.out (by kernel_rfl)) (fun _ _ _ h => h) (Or.inl ⟨by rfl, ?_⟩) ?_ ?_
          rotate_left
          · intro w'
            go_simp
            try with_reducible rfl
          rotate_left
          · simp only [Act.put, List.setIfInBounds_toArray, List.set_cons_zero, List.set_cons_succ, i64_w, i32_w]
            rfl
          refine pure_ (i := 10) (N := some 28) (v := ?_) (a' := ?_) #[true, true, true, true, true, true, true, true, true, true, true, false, false, false, false, false, false] rfl rfl (any_of HT_.out (by kernel_rfl)) (fun _ _ _ h => h) (Or.inl ⟨by rfl, ?_⟩) ?_ ?_
          rotate_left
          · intro w'
            go_simp
            try with_reducible rfl
          rotate_left
          · simp only [Act.put, List.setIfInBounds_toArray, List.set_cons_zero, List.set_cons_succ, i64_w, i32_w]
            rfl
          refine pure_ (i := 11) (N := some 29) (v := ?_) (a' := ?_) #[true, true, true, true, true, true, true, true, true, true, true, true, false, false, false, false, false] rfl rfl (any_of HT_.out (by kernel_rfl)) (fun _ _ _ h => h) (Or.inl ⟨by rfl, ?_⟩) ?_ ?_
          rotate_left
          · intro w'
            go_simp
            try with_reducible rfl
          rotate_left
          · simp only [Act.put, List.setIfInBounds_toArray, List.set_cons_zero, List.set_cons_succ, i64_w, i32_w]
            rfl
          refine pure_ (i := 12) (N := some 30) (v := ?_) (a' := ?_) #[true, true, true, true, true, true, true, true, true, true, true, true, true, false, false, false, false] rfl rfl (any_of HT_.out (by kernel_rfl)) (fun _ _ _ h => h) (Or.inl ⟨by rfl, ?_⟩) ?_ ?_
          rotate_left
          · intro w'
            go_simp
            try with_reducible rfl
          rotate_left
          · simp only [Act.put, List.setIfInBounds_toArray, List.set_cons_zero, List.set_cons_succ, i64_w, i32_w]
            rfl
          refine take_ (i := 13) (N := some 31) (v := ?_) (a' := ?_) #[true, true, true, true, true, true, true, true, true, true, true, true, true, true, false, false, false] rfl rfl (take_ofW HT_.out HW_.out (by kernel_rfl)) (fun _ _ _ h => h) (Or.inl ⟨by rfl, ?_⟩) hHeld ?_ ?_
          rotate_left
          · rintro w' ⟨s0, s1, s2, s3, s4, s5, s6, s7⟩
            go_simp
            with_reducible rfl
          rotate_left
          · simp only [Act.put, List.setIfInBounds_toArray, List.set_cons_zero, List.set_cons_succ, i64_w, i32_w]
            rfl
          refine one_ (i := 14) (N := some 32) #[true, true, true, true, true, true, true, true, true, true, true, true, true, true, true, false, false] rfl rfl (one_of HT_.out (by kernel_rfl)) (by decide) (fun K hK => ?_)
          refine goesC0_ 22 (by rfl) Try.func22 (by kernel_rfl) rfl #[.agg #[.int .i64 X.1.f0, .int .i64 X.1.f1, .slice Aa2 X.1.f2.length ca2, .slice Aa3 X.1.f3.length ca3], .agg #[.int .i64 Z.1.f0, .int .i64 Z.1.f1, .slice Ab2 Z.1.f2.length cb2, .slice Ab3 Z.1.f3.length cb3]] (by rfl) rfl rfl (by (try simp only [List.map_toArray, List.map_cons, List.map_nil]); first | done | rfl | (simp only [List.length_drop, List.length_take]; rfl)) ?_
          have hb_ : ∀ {w1 w2 : World}, Below w1.heap.size w1 w2 → Below w1.heap.size w1 w2 := fun h => h
          refine (impl_CompareValues.calls KC X.1.f0 X.1.f1 Aa2 ca2 X.1.f2 Aa3 ca3 X.1.f3 Z.1.f0 Z.1.f1 Ab2 cb2 Z.1.f2 Ab3 cb3 Z.1.f3 _ _ GA2.out.2 GA2.out.1 GA3.out.2 GA3.out.1 GB2.out.2 GB2.out.1 GB3.out.2 GB3.out.1 HC.out).mono ?_
          rintro e w2 ⟨rfl, hd⟩
          refine ⟨_, rfl, ?_⟩
          try replace hd := Drawn0.below hd
          replace HO := Aside0.mk (Kd.R_below HO.out hd)
          replace HB := Aside0.mk (below_step HB.out hd)
          replace HY := Aside0.mk (HY.out.trans (Only.below hd))
          replace PC := Aside0.mk (show w2.cell? ⟨g, j * 4, none⟩ = some (.int .i64 X.1.f0) ∧ w2.cell? ⟨g, j * 4 + 1, none⟩ = some (.int .i64 X.1.f1) ∧ w2.cell? ⟨g, j * 4 + 2, none⟩ = some (.slice Aa2 X.1.f2.length ca2) ∧ w2.cell? ⟨g, j * 4 + 3, none⟩ = some (.slice Aa3 X.1.f3.length ca3) ∧ w2.cell? ⟨g, m * 4, none⟩ = some (.int .i64 Z.1.f0) ∧ w2.cell? ⟨g, m * 4 + 1, none⟩ = some (.int .i64 Z.1.f1) ∧ w2.cell? ⟨g, m * 4 + 2, none⟩ = some (.slice Ab2 Z.1.f2.length cb2) ∧ w2.cell? ⟨g, m * 4 + 3, none⟩ = some (.slice Ab3 Z.1.f3.length cb3) from ⟨pw_cell_below hd PC.out.1, pw_cell_below hd PC.out.2.1, pw_cell_below hd PC.out.2.2.1, pw_cell_below hd PC.out.2.2.2.1, pw_cell_below hd PC.out.2.2.2.2.1, pw_cell_below hd PC.out.2.2.2.2.2.1, pw_cell_below hd PC.out.2.2.2.2.2.2.1, pw_cell_below hd PC.out.2.2.2.2.2.2.2⟩)
          clear hd
          refine hK.out _ _ PC.out (fun hHeld => ?_)
          clear hK K
          refine norm_ (a' := ?_) ?_ ?_
          rotate_left
          · show Act.put _ (some 32) _ = _
            simp only [Act.put, List.setIfInBounds_toArray, List.set_cons_zero, List.set_cons_succ, i64_w, i32_w]
            rfl
          refine pure_ (i := 15) (N := some 33) (v := ?_) (a' := ?_) #[true, true, true, true, true, true, true, true, true, true, true, true, true, true, true, true, false] rfl rfl (any_of HT_.out (by kernel_rfl)) (fun _ _ _ h => h) (Or.inl ⟨by rfl, ?_⟩) ?_ ?_
          rotate_left
          · intro w'
            go_simp
            try with_reducible rfl
          rotate_left
          · simp only [Act.put, List.setIfInBounds_toArray, List.set_cons_zero, List.set_cons_succ, i64_w, i32_w]
            rfl
          refine pure_ (i := 16) (N := some 34) (v := ?_) (a' := ?_) #[true, true, true, true, true, true, true, true, true, true, true, true, true, true, true, true, true] rfl rfl (any_of HT_.out (by kernel_rfl)) (fun _ _ _ h => h) (Or.inl ⟨by rfl, ?_⟩) ?_ ?_
          rotate_left
          · intro w'
            go_simp
            try with_reducible rfl
          rotate_left
          · simp only [Act.put, List.setIfInBounds_toArray, List.set_cons_zero, List.set_cons_succ, i64_w, i32_w]
            rfl
          refine done_ (done_of HT_.out (by kernel_rfl)) ?_
          clear HT_ HW_
          clear r7 hHeld PC GA2 GA3 GB2 GB3
          have hwi := HWI.out
          go_wp2
          go_roundg (b - (i + 1))
          case measure => have := HI.out.2.1; have := HD1.out; omega
          case rel => exact ⟨i + 1, zs, (by first | rfl | rw [hwi] | simp [hwi]), ⟨by have := HI.out.1; omega, rfl, by have h1 := HI.out.2.2.1; rw [show b - i = (b - (i + 1)) + 1 by have := HD1.out; omega, St.insOut, ← HJ.out.2.2.1, (show St.insIn ltP (z30, 0) a j zs = zs by have q1 := HX.out; have q2 := HE2.out; have q3 := HZ.out; have q4 := HMJ.out; subst q4; exact insIn_stop2 (by rw [← q1, ← q3]; omega))] at h1; exact h1, HJ.out.2.2.2⟩, HO, HB, HY⟩
      · have HE1 := Aside0.mk e1
        have r1 : ((a : Int) < (j : Int)) = False := eq_false (by omega)
        clear e1
        try go_wp2
        replace HO := Aside0.mk (Kd.R_drew HO.out)
        replace HB := Aside0.mk (below_drew1 HB.out)
        replace HY := Aside0.mk (HY.out.trans drewOnly)
        refine start_ (n := 17) (S := fun w' => True) (ds := []) #[false, false, false, false, false, false, false, false, false, false, false, false, false, false, false, false, false] (by kernel_rfl) rfl rfl trivial (fun hHeld => ?_); refine with_tabW tabIns.tab4 tabIns.bits4 (fun HT_ HW_ => ?_)
        generalize wr.drew = w1 at HO HB HY hHeld ⊢
        refine pure_ (i := 0) (N := some 18) (v := ?_) (a' := ?_) #[true, false, false, false, false, false, false, false, false, false, false, false, false, false, false, false, false] rfl rfl (any_of HT_.out (by kernel_rfl)) (fun _ _ _ h => h) (Or.inl ⟨by rfl, ?_⟩) ?_ ?_
        rotate_left
        · intro w'
          go_simp
          try with_reducible rfl
        rotate_left
        · simp only [Act.put, List.setIfInBounds_toArray, List.set_cons_zero, List.set_cons_succ, i64_w, i32_w]
          rfl
        refine pure_ (i := 1) (N := some 19) (v := ?_) (a' := ?_) #[true, true, false, false, false, false, false, false, false, false, false, false, false, false, false, false, false] rfl rfl (any_of HT_.out (by kernel_rfl)) (fun _ _ _ h => h) (Or.inl ⟨by rfl, ?_⟩) ?_ ?_
        rotate_left
        · intro w'
          go_simp
          try with_reducible rfl
        rotate_left
        · simp only [Act.put, List.setIfInBounds_toArray, List.set_cons_zero, List.set_cons_succ, i64_w, i32_w]
          rfl
        refine pure_ (i := 2) (N := some 20) (v := ?_) (a' := ?_) #[true, true, true, false, false, false, false, false, false, false, false, false, false, false, false, false, false] rfl rfl (any_of HT_.out (by kernel_rfl)) (fun _ _ _ h => h) (Or.inl ⟨by rfl, ?_⟩) ?_ ?_
        rotate_left
        · intro w'
          go_simp
          try with_reducible rfl
        rotate_left
        · simp only [Act.put, List.setIfInBounds_toArray, List.set_cons_zero, List.set_cons_succ, i64_w, i32_w]
          rfl
        refine pure_ (i := 3) (N := some 21) (v := ?_) (a' := ?_) #[true, true, true, true, false, false, false, false, false, false, false, false, false, false, false, false, false] rfl rfl (any_of HT_.out (by kernel_rfl)) (fun _ _ _ h => h) (Or.inl ⟨by rfl, ?_⟩) ?_ ?_
        rotate_left
        · intro w'
          go_simp
          try with_reducible rfl
        rotate_left
        · simp only [Act.put, List.setIfInBounds_toArray, List.set_cons_zero, List.set_cons_succ, i64_w, i32_w]
          rfl
        refine pure_ (i := 4) (N := some 22) (v := undef) (a' := ?_) #[true, true, true, true, true, false, false, false, false, false, false, false, false, false, false, false, false] rfl rfl (any_of HT_.out (by kernel_rfl)) (fun _ _ _ h => h) (Or.inr ⟨by rfl, by rfl⟩) ?_ ?_
        rotate_left
        · simp only [Act.put, List.setIfInBounds_toArray, List.set_cons_zero, List.set_cons_succ, i64_w, i32_w]
          rfl
        refine pure_ (i := 5) (N := some 23) (v := undef) (a' := ?_) #[true, true, true, true, true, true, false, false, false, false, false, false, false, false, false, false, false] rfl rfl (any_of HT_.out (by kernel_rfl)) (fun _ _ _ h => h) (Or.inr ⟨by rfl, by rfl⟩) ?_ ?_
        rotate_left
        · simp only [Act.put, List.setIfInBounds_toArray, List.set_cons_zero, List.set_cons_succ, i64_w, i32_w]
          rfl
        refine pure_ (i := 6) (N := some 24) (v := undef) (a' := ?_) #[true, true, true, true, true, true, true, false, false, false, false, false, false, false, false, false, false] rfl rfl (any_of HT_.out (by kernel_rfl)) (fun _ _ _ h => h) (Or.inr ⟨by rfl, by rfl⟩) ?_ ?_
        rotate_left
        · simp only [Act.put, List.setIfInBounds_toArray, List.set_cons_zero, List.set_cons_succ, i64_w, i32_w]
          rfl
        refine pure_ (i := 7) (N := some 25) (v := undef) (a' := ?_) #[true, true, true, true, true, true, true, true, false, false, false, false, false, false, false, false, false] rfl rfl (any_of HT_.out (by kernel_rfl)) (fun _ _ _ h => h) (Or.inr ⟨by rfl, by rfl⟩) ?_ ?_
        rotate_left
        · simp only [Act.put, List.setIfInBounds_toArray, List.set_cons_zero, List.set_cons_succ, i64_w, i32_w]
          rfl
        refine pure_ (i := 8) (N := some 26) (v := undef) (a' := ?_) #[true, true, true, true, true, true, true, true, true, false, false, false, false, false, false, false, false] rfl rfl (any_of HT_.out (by kernel_rfl)) (fun _ _ _ h => h) (Or.inr ⟨by rfl, by rfl⟩) ?_ ?_
        rotate_left
        · simp only [Act.put, List.setIfInBounds_toArray, List.set_cons_zero, List.set_cons_succ, i64_w, i32_w]
          rfl
        refine pure_ (i := 9) (N := some 27) (v := undef) (a' := ?_) #[true, true, true, true, true, true, true, true, true, true, false, false, false, false, false, false, false] rfl rfl (any_of HT_.out (by kernel_rfl)) (fun _ _ _ h => h) (Or.inr ⟨by rfl, by rfl⟩) ?_ ?_
        rotate_left
        · simp only [Act.put, List.setIfInBounds_toArray, List.set_cons_zero, List.set_cons_succ, i64_w, i32_w]
          rfl
        refine pure_ (i := 10) (N := some 28) (v := undef) (a' := ?_) #[true, true, true, true, true, true, true, true, true, true, true, false, false, false, false, false, false] rfl rfl (any_of HT_.out (by kernel_rfl)) (fun _ _ _ h => h) (Or.inr ⟨by rfl, by rfl⟩) ?_ ?_
        rotate_left
        · simp only [Act.put, List.setIfInBounds_toArray, List.set_cons_zero, List.set_cons_succ, i64_w, i32_w]
          rfl
        refine pure_ (i := 11) (N := some 29) (v := undef) (a' := ?_) #[true, true, true, true, true, true, true, true, true, true, true, true, false, false, false, false, false] rfl rfl (any_of HT_.out (by kernel_rfl)) (fun _ _ _ h => h) (Or.inr ⟨by rfl, by rfl⟩) ?_ ?_
        rotate_left
        · simp only [Act.put, List.setIfInBounds_toArray, List.set_cons_zero, List.set_cons_succ, i64_w, i32_w]
          rfl
        refine pure_ (i := 12) (N := some 30) (v := undef) (a' := ?_) #[true, true, true, true, true, true, true, true, true, true, true, true, true, false, false, false, false] rfl rfl (any_of HT_.out (by kernel_rfl)) (fun _ _ _ h => h) (Or.inr ⟨by rfl, by rfl⟩) ?_ ?_
        rotate_left
        · simp only [Act.put, List.setIfInBounds_toArray, List.set_cons_zero, List.set_cons_succ, i64_w, i32_w]
          rfl
        refine pure_ (i := 13) (N := some 31) (v := undef) (a' := ?_) #[true, true, true, true, true, true, true, true, true, true, true, true, true, true, false, false, false] rfl rfl (any_of HT_.out (by kernel_rfl)) (fun _ _ _ h => h) (Or.inr ⟨by rfl, by rfl⟩) ?_ ?_
        rotate_left
        · simp only [Act.put, List.setIfInBounds_toArray, List.set_cons_zero, List.set_cons_succ, i64_w, i32_w]
          rfl
        refine pure_ (i := 14) (N := some 32) (v := undef) (a' := ?_) #[true, true, true, true, true, true, true, true, true, true, true, true, true, true, true, false, false] rfl rfl (any_of HT_.out (by kernel_rfl)) (fun _ _ _ h => h) (Or.inr ⟨by rfl, by rfl⟩) ?_ ?_
        rotate_left
        · simp only [Act.put, List.setIfInBounds_toArray, List.set_cons_zero, List.set_cons_succ, i64_w, i32_w]
          rfl
        refine pure_ (i := 15) (N := some 33) (v := undef) (a' := ?_) #[true, true, true, true, true, true, true, true, true, true, true, true, true, true, true, true, false] rfl rfl (any_of HT_.out (by kernel_rfl)) (fun _ _ _ h => h) (Or.inr ⟨by rfl, by rfl⟩) ?_ ?_
        rotate_left
        · simp only [Act.put, List.setIfInBounds_toArray, List.set_cons_zero, List.set_cons_succ, i64_w, i32_w]
          rfl
        refine pure_ (i := 16) (N := some 34) (v := ?_) (a' := ?_) #[true, true, true, true, true, true, true, true, true, true, true, true, true, true, true, true, true] rfl rfl (any_of HT_.out (by kernel_rfl)) (fun _ _ _ h => h) (Or.inl ⟨by rfl, ?_⟩) ?_ ?_
        rotate_left
        · intro w'
          go_simp
          try with_reducible rfl
        rotate_left
        · simp only [Act.put, List.setIfInBounds_toArray, List.set_cons_zero, List.set_cons_succ, i64_w, i32_w]
          rfl
        refine done_ (done_of HT_.out (by kernel_rfl)) ?_
        clear HT_ HW_
        clear hHeld
        have hwi := HWI.out
        go_wp2
        go_roundg (b - (i + 1))
        case measure => have := HI.out.2.1; have := HD1.out; omega
        case rel => exact ⟨i + 1, zs, (by first | rfl | rw [hwi] | simp [hwi]), ⟨by have := HI.out.1; omega, rfl, by have h1 := HI.out.2.2.1; rw [show b - i = (b - (i + 1)) + 1 by have := HD1.out; omega, St.insOut, ← HJ.out.2.2.1, insIn_stop HE1.out] at h1; exact h1, HJ.out.2.2.2⟩, HO, HB, HY⟩
    · have d3 : decide ((i : Int) < (b : Int)) = false := decide_eq_false (by omega)
      have d2 : ¬ ((i : Int) < (b : Int)) := by omega
      have hz : Aside0 (ys = St.insSort ltP (z30, 0) a b xs) := ⟨by have h1 := HI.out.2.2.1; rw [show b - i = 0 by omega, St.insOut] at h1; exact h1⟩
      clear d1
      go_wp2
      (first | go_ret | go_end0 | refine bodyPost_ret (results_none rfl _ _ _) rfl ?_)
      exact ⟨rfl, by rw [← hz.out]; exact HI.out.2.2.2, by rw [← hz.out]; exact HO.out, HB.out, HY.out⟩
end Go.Proofs.Ytonimhfahjediaa.Pk
