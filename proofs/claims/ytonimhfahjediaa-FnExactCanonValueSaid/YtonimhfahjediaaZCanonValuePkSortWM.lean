/- The library's swapRange and rotate at rows of values: their contracts. No condition beyond the sizes named. -/
import Derived.Test.YtonimhfahjediaaZCanonValueWTabM
import Derived.Test.YtonimhfahjediaaZCanonValuePkSortI
import Derived.Test.YtonimhfahjediaaZCanonValuePkMarkValueM
import Derived.Test.YtonimhfahjediaaZCanonValuePlM
import Derived.Test.YtonimhfahjediaaZCanonValueWLastM
import Derived.Test.YtonimhfahjediaaZCanonValuePk11M
import Derived.Test.YtonimhfahjediaaZCanonValuePkSortM
section
namespace Go.Proofs.Ytonimhfahjediaa.Pk
open Go.RowKit Go.Proofs.YtonimhfahjediaaW.PrintWords Go.Proofs.YtonimhfahjediaaW.PrintLast Go.Proofs.YtonimhfahjediaaW.PrintMore Go.Proofs.Ytonimhfahjediaa.Pl Go.Proofs.Ytonimhfahjediaa.Ext
set_option linter.unusedVariables false
set_option linter.unusedSimpArgs false
def tabSwr.T3 : Bool × List (List Nat × List Nat) := (true, [([], []), ([], []), ([], []), ([1, 2], [1, 2]), ([], []), ([], []), ([], []), ([5, 6], [5, 6]), ([], []), ([], []), ([], []), ([9, 10], [9, 10]), ([8, 11], [8, 11]), ([12], [12]), ([], []), ([], []), ([], []), ([15, 16], [15, 16]), ([14, 17], [14, 17]), ([18], [18]), ([0, 3, 0, 1, 2, 3, 8, 9, 10, 11, 12, 13, 19], [0, 3]), ([20, 13, 0, 1, 2, 3, 8, 9, 10, 11, 12, 13, 19], [13, 20]), ([4, 7, 0, 1, 2, 3, 4, 5, 6, 7, 8, 9, 10, 11, 12, 13, 14, 15, 16, 17, 18, 19, 20, 21], [4, 7]), ([22, 19, 21, 0, 1, 2, 3, 4, 5, 6, 7, 8, 9, 10, 11, 12, 13, 14, 15, 16, 17, 18, 19, 20, 21], [19, 22])])
def tabSwr.B3 : List Nat := [0, 0, 0, 6, 0, 0, 0, 96, 0, 0, 0, 1536, 3840, 7936, 0, 0, 0, 98304, 245760, 507904, 1048335, 2096911, 4194303, 8388607]
theorem tabSwr.tab3 : rtab .any (opsOf Try.f46 3) = tabSwr.T3 := by kernel_rfl
theorem tabSwr.bits3 : waitsOk tabSwr.T3.2 tabSwr.B3 = true := by kernel_rfl
set_option maxHeartbeats 8000000 in
set_option maxRecDepth 100000 in
theorem swr_go (fo : Nat → Nat) (w0 : World) (g n cap : Nat) (ok : Nat → Prop) (hg : w0.heap.size ≤ g) (hn : n ≤ 1048576) (a b d : Nat) (ha : a + d ≤ n) (hd : b + d ≤ n) (xs : List (S30 × Nat)) (hs : SmL (xs)) (w : World) (ho : Kd.R (Kd.tag fo k30) 30 w w0.heap.size ok (.slice (some ⟨g, 0, none⟩) n cap) xs) (hb : Below w0.heap.size w0 w) :
    Calls Try.prog 46 #[.slice (some ⟨g, 0, none⟩) n cap, .int .i64 (a : Int), .int .i64 (b : Int), .int .i64 (d : Int), .func (.func 22) #[] #[]] w fun e w' => e = .returned (.tuple #[]) ∧ (SmL (St.swR (z30, 0) a b d 0 xs)) ∧ Kd.R (Kd.tag fo k30) 30 w' w0.heap.size ok (.slice (some ⟨g, 0, none⟩) n cap) (St.swR (z30, 0) a b d 0 xs) ∧ Below w0.heap.size w0 w' ∧ Only g w w' := by
  have HG := Aside0.mk hg; have HN := Aside0.mk hn; have HA := Aside0.mk ha; have HD := Aside0.mk hd; have HS := Aside0.mk hs; have HO := Aside0.mk ho; have HB := Aside0.mk hb
  have HY := Aside0.mk (Only.refl g w)
  clear hg hn ha hd hs ho hb
  go_enter Try.func46, Try.ntmps46
  go_wp2
  go_loopg [10] d (fun gq v10 w' => ∃ (i : Nat) (ys : List (S30 × Nat)), v10 = .int .i64 (i : Int) ∧ Aside0 (i ≤ d ∧ gq = d - i ∧ St.swR (z30, 0) a b (d - i) i ys = St.swR (z30, 0) a b d 0 xs ∧ SmL (ys)) ∧ Aside0 (Kd.R (Kd.tag fo k30) 30 w' w0.heap.size ok (.slice (some ⟨g, 0, none⟩) n cap) ys) ∧ Aside0 (Below w0.heap.size w0 w') ∧ Aside0 (Only g w w'))
  case atStart => exact ⟨0, xs, rfl, ⟨by omega, rfl, rfl, HS.out⟩, HO, HB, HY⟩
  case round =>
    clear HO HB HY
    obtain ⟨i, ys, rfl, HJ, HO, HB, HY⟩ := hrel
    have HL := Aside0.mk (Kd.R_reads' HO.out).1
    by_cases d1 : i < d
    · have HD1 := Aside0.mk d1
      have d3 : decide ((i : Int) < (d : Int)) = true := decide_eq_true (by omega)
      have d2 : (i : Int) < (d : Int) := by omega
      go_wp2
      clear d1 d2 d3
      obtain ⟨p, hp_⟩ : ∃ q : Nat, q = a + i := ⟨_, rfl⟩
      have Ep := Aside0.mk hp_
      obtain ⟨q, hq_⟩ : ∃ q : Nat, q = b + i := ⟨_, rfl⟩
      have Eq := Aside0.mk hq_
      have HPN : Aside0 (p < n ∧ q < n) := ⟨by have := HD1.out; have := HA.out; have := HD.out; omega⟩
      clear hp_ hq_
      have r1 : wrap64 ((a : Int) + (i : Int)) = (p : Int) := by have := Ep.out; have := HPN.out; have := HN.out; unfold wrap64; omega
      have r2 : wrap64 ((b : Int) + (i : Int)) = (q : Int) := by have := Eq.out; have := HPN.out; have := HN.out; unfold wrap64; omega
      have r3 : ((p : Int) < (n : Int)) = True := eq_true (by have := HPN.out; omega)
      have r4 : ((q : Int) < (n : Int)) = True := eq_true (by have := HPN.out; omega)
      have r5 : (0 ≤ (p : Int)) = True := eq_true (by omega)
      have r6 : (0 ≤ (q : Int)) = True := eq_true (by omega)
      have hwi : wrap64 ((i : Int) + 1) = (((i + 1 : Nat) : Int) : Int) := by have := HD1.out; have := HA.out; have := HN.out; unfold wrap64; omega
      replace HO := Aside0.mk (Kd.R_drew HO.out)
      replace HB := Aside0.mk (below_drew1 HB.out)
      replace HY := Aside0.mk (HY.out.trans drewOnly)
      obtain ⟨ci, cj, li, lj, Mi, Mj, hci, hcj, fi, fj, RS, OS, BS, NC, NF⟩ := R_swap HO.out (z30, 0) p q (by exact HPN.out.1) (by exact HPN.out.2)
      obtain ⟨X_, hX_⟩ : ∃ X, X = ys.getD p (z30, 0) := ⟨_, rfl⟩
      obtain ⟨Z_, hZ_⟩ : ∃ Z, Z = ys.getD q (z30, 0) := ⟨_, rfl⟩
      rw [← hX_] at Mi; rw [← hZ_] at Mj
      clear hX_ hZ_
      obtain ⟨va2, va3, rfl, ga2, ga3⟩ := k30_openM Mi
      obtain ⟨vb2, vb3, rfl, gb2, gb3⟩ := k30_openM Mj
      obtain ⟨Ea2, fa2, rfl⟩ := Kd.R_slice ga2
      obtain ⟨Ea3, fa3, rfl⟩ := Kd.R_slice (Kd.S_R ga3)
      obtain ⟨Eb2, fb2, rfl⟩ := Kd.R_slice gb2
      obtain ⟨Eb3, fb3, rfl⟩ := Kd.R_slice (Kd.S_R gb3)
      have p0 := hci 0 _ rfl
      have p1 := hci 1 _ rfl
      have p2 := hci 2 _ rfl
      have p3 := hci 3 _ rfl
      have p4 := hcj 0 _ rfl
      have p5 := hcj 1 _ rfl
      have p6 := hcj 2 _ rfl
      have p7 := hcj 3 _ rfl
      have q0 := fi 0
      have q1 := fi 1
      have q2 := fi 2
      have q3 := fi 3
      have q4 := fj 0
      have q5 := fj 1
      have q6 := fj 2
      have q7 := fj 3
      obtain ⟨un0, n0⟩ := NC 0 (by show 0 < 4; decide)
      obtain ⟨un1, n1⟩ := NC 1 (by show 1 < 4; decide)
      obtain ⟨un2, n2⟩ := NC 2 (by show 2 < 4; decide)
      obtain ⟨un3, n3⟩ := NC 3 (by show 3 < 4; decide)
      have m0 := NF 0
      have m1 := NF 1
      have m2 := NF 2
      have m3 := NF 3
      simp only [show (Kd.tag fo k30).sz = 4 from rfl, Nat.add_zero] at p0 p1 p2 p3 p4 p5 p6 p7 q0 q1 q2 q3 q4 q5 q6 q7
      simp only [show (Kd.tag fo k30).sz = 4 from rfl, World.setCells, Nat.add_assoc, Nat.add_zero, Nat.reduceAdd] at RS OS BS n0 m0 n1 m1 n2 m2 n3 m3
      have RS_ := Aside0.mk RS; have OS_ := Aside0.mk OS; have BS_ := Aside0.mk (BS w0 HG.out)
      clear RS OS BS NC NF hci hcj fi fj li lj Mi Mj ga2 ga3 gb2 gb3
      refine start_ (n := 24) (S := fun w' => w'.cell? ⟨g, p * 4, none⟩ = some (.int .i64 X_.1.f0) ∧ w'.cell? ⟨g, p * 4 + 1, none⟩ = some (.int .i64 X_.1.f1) ∧ w'.cell? ⟨g, p * 4 + 2, none⟩ = some (.slice Ea2 X_.1.f2.length fa2) ∧ w'.cell? ⟨g, p * 4 + 3, none⟩ = some (.slice Ea3 X_.1.f3.length fa3) ∧ w'.cell? ⟨g, q * 4, none⟩ = some (.int .i64 Z_.1.f0) ∧ w'.cell? ⟨g, q * 4 + 1, none⟩ = some (.int .i64 Z_.1.f1) ∧ w'.cell? ⟨g, q * 4 + 2, none⟩ = some (.slice Eb2 Z_.1.f2.length fb2) ∧ w'.cell? ⟨g, q * 4 + 3, none⟩ = some (.slice Eb3 Z_.1.f3.length fb3)) (ds := [21, 23]) #[false, false, false, false, false, false, false, false, false, false, false, false, false, false, false, false, false, false, false, false, false, false, false, false] (by kernel_rfl) rfl rfl ⟨p0, p1, p2, p3, p4, p5, p6, p7⟩ (fun hHeld => ?_); refine with_tabW tabSwr.tab3 tabSwr.bits3 (fun HT_ HW_ => ?_)
      generalize World.drew _ = w3 at HO HB HY RS_ OS_ BS_ hHeld p0 p1 p2 p3 p4 p5 p6 p7 q0 q1 q2 q3 q4 q5 q6 q7 n0 m0 n1 m1 n2 m2 n3 m3  ⊢
      refine pure_ (i := 0) (N := some 16) (v := ?_) (a' := ?_) #[true, false, false, false, false, false, false, false, false, false, false, false, false, false, false, false, false, false, false, false, false, false, false, false] rfl rfl (any_of HT_.out (by kernel_rfl)) (fun _ _ _ h => h) (Or.inl ⟨by rfl, ?_⟩) ?_ ?_
      rotate_left
      · intro w'
        go_simp
        try with_reducible rfl
      rotate_left
      · simp only [Act.put, List.setIfInBounds_toArray, List.set_cons_zero, List.set_cons_succ, i64_w, i32_w]
        rfl
      refine pure_ (i := 1) (N := some 17) (v := ?_) (a' := ?_) #[true, true, false, false, false, false, false, false, false, false, false, false, false, false, false, false, false, false, false, false, false, false, false, false] rfl rfl (any_of HT_.out (by kernel_rfl)) (fun _ _ _ h => h) (Or.inl ⟨by rfl, ?_⟩) ?_ ?_
      rotate_left
      · intro w'
        go_simp
        try with_reducible rfl
      rotate_left
      · simp only [Act.put, List.setIfInBounds_toArray, List.set_cons_zero, List.set_cons_succ, i64_w, i32_w]
        rfl
      refine pure_ (i := 2) (N := some 18) (v := ?_) (a' := ?_) #[true, true, true, false, false, false, false, false, false, false, false, false, false, false, false, false, false, false, false, false, false, false, false, false] rfl rfl (any_of HT_.out (by kernel_rfl)) (fun _ _ _ h => h) (Or.inl ⟨by rfl, ?_⟩) ?_ ?_
      rotate_left
      · intro w'
        go_simp
        try with_reducible rfl
      rotate_left
      · simp only [Act.put, List.setIfInBounds_toArray, List.set_cons_zero, List.set_cons_succ, i64_w, i32_w]
        rfl
      refine pure_ (i := 3) (N := some 19) (v := ?_) (a' := ?_) #[true, true, true, true, false, false, false, false, false, false, false, false, false, false, false, false, false, false, false, false, false, false, false, false] rfl rfl (any_of HT_.out (by kernel_rfl)) (fun _ _ _ h => h) (Or.inl ⟨by rfl, ?_⟩) ?_ ?_
      rotate_left
      · intro w'
        go_simp
        try with_reducible rfl
      rotate_left
      · simp only [Act.put, List.setIfInBounds_toArray, List.set_cons_zero, List.set_cons_succ, i64_w, i32_w]
        rfl
      refine pure_ (i := 4) (N := some 20) (v := ?_) (a' := ?_) #[true, true, true, true, true, false, false, false, false, false, false, false, false, false, false, false, false, false, false, false, false, false, false, false] rfl rfl (any_of HT_.out (by kernel_rfl)) (fun _ _ _ h => h) (Or.inl ⟨by rfl, ?_⟩) ?_ ?_
      rotate_left
      · intro w'
        go_simp
        try with_reducible rfl
      rotate_left
      · simp only [Act.put, List.setIfInBounds_toArray, List.set_cons_zero, List.set_cons_succ, i64_w, i32_w]
        rfl
      refine pure_ (i := 5) (N := some 21) (v := ?_) (a' := ?_) #[true, true, true, true, true, true, false, false, false, false, false, false, false, false, false, false, false, false, false, false, false, false, false, false] rfl rfl (any_of HT_.out (by kernel_rfl)) (fun _ _ _ h => h) (Or.inl ⟨by rfl, ?_⟩) ?_ ?_
      rotate_left
      · intro w'
        go_simp
        try with_reducible rfl
      rotate_left
      · simp only [Act.put, List.setIfInBounds_toArray, List.set_cons_zero, List.set_cons_succ, i64_w, i32_w]
        rfl
      refine pure_ (i := 6) (N := some 22) (v := ?_) (a' := ?_) #[true, true, true, true, true, true, true, false, false, false, false, false, false, false, false, false, false, false, false, false, false, false, false, false] rfl rfl (any_of HT_.out (by kernel_rfl)) (fun _ _ _ h => h) (Or.inl ⟨by rfl, ?_⟩) ?_ ?_
      rotate_left
      · intro w'
        go_simp
        try with_reducible rfl
      rotate_left
      · simp only [Act.put, List.setIfInBounds_toArray, List.set_cons_zero, List.set_cons_succ, i64_w, i32_w]
        rfl
      refine pure_ (i := 7) (N := some 23) (v := ?_) (a' := ?_) #[true, true, true, true, true, true, true, true, false, false, false, false, false, false, false, false, false, false, false, false, false, false, false, false] rfl rfl (any_of HT_.out (by kernel_rfl)) (fun _ _ _ h => h) (Or.inl ⟨by rfl, ?_⟩) ?_ ?_
      rotate_left
      · intro w'
        go_simp
        try with_reducible rfl
      rotate_left
      · simp only [Act.put, List.setIfInBounds_toArray, List.set_cons_zero, List.set_cons_succ, i64_w, i32_w]
        rfl
      refine pure_ (i := 8) (N := some 24) (v := ?_) (a' := ?_) #[true, true, true, true, true, true, true, true, true, false, false, false, false, false, false, false, false, false, false, false, false, false, false, false] rfl rfl (any_of HT_.out (by kernel_rfl)) (fun _ _ _ h => h) (Or.inl ⟨by rfl, ?_⟩) ?_ ?_
      rotate_left
      · intro w'
        go_simp
        try with_reducible rfl
      rotate_left
      · simp only [Act.put, List.setIfInBounds_toArray, List.set_cons_zero, List.set_cons_succ, i64_w, i32_w]
        rfl
      refine pure_ (i := 9) (N := some 25) (v := ?_) (a' := ?_) #[true, true, true, true, true, true, true, true, true, true, false, false, false, false, false, false, false, false, false, false, false, false, false, false] rfl rfl (any_of HT_.out (by kernel_rfl)) (fun _ _ _ h => h) (Or.inl ⟨by rfl, ?_⟩) ?_ ?_
      rotate_left
      · intro w'
        go_simp
        try with_reducible rfl
      rotate_left
      · simp only [Act.put, List.setIfInBounds_toArray, List.set_cons_zero, List.set_cons_succ, i64_w, i32_w]
        rfl
      refine pure_ (i := 10) (N := some 26) (v := ?_) (a' := ?_) #[true, true, true, true, true, true, true, true, true, true, true, false, false, false, false, false, false, false, false, false, false, false, false, false] rfl rfl (any_of HT_.out (by kernel_rfl)) (fun _ _ _ h => h) (Or.inl ⟨by rfl, ?_⟩) ?_ ?_
      rotate_left
      · intro w'
        go_simp
        try with_reducible rfl
      rotate_left
      · simp only [Act.put, List.setIfInBounds_toArray, List.set_cons_zero, List.set_cons_succ, i64_w, i32_w]
        rfl
      refine pure_ (i := 11) (N := some 27) (v := ?_) (a' := ?_) #[true, true, true, true, true, true, true, true, true, true, true, true, false, false, false, false, false, false, false, false, false, false, false, false] rfl rfl (any_of HT_.out (by kernel_rfl)) (fun _ _ _ h => h) (Or.inl ⟨by rfl, ?_⟩) ?_ ?_
      rotate_left
      · intro w'
        go_simp
        try with_reducible rfl
      rotate_left
      · simp only [Act.put, List.setIfInBounds_toArray, List.set_cons_zero, List.set_cons_succ, i64_w, i32_w]
        rfl
      refine pure_ (i := 12) (N := some 28) (v := ?_) (a' := ?_) #[true, true, true, true, true, true, true, true, true, true, true, true, true, false, false, false, false, false, false, false, false, false, false, false] rfl rfl (any_of HT_.out (by kernel_rfl)) (fun _ _ _ h => h) (Or.inl ⟨by rfl, ?_⟩) ?_ ?_
      rotate_left
      · intro w'
        go_simp
        try with_reducible rfl
      rotate_left
      · simp only [Act.put, List.setIfInBounds_toArray, List.set_cons_zero, List.set_cons_succ, i64_w, i32_w]
        rfl
      refine take_ (i := 13) (N := some 29) (v := ?_) (a' := ?_) #[true, true, true, true, true, true, true, true, true, true, true, true, true, true, false, false, false, false, false, false, false, false, false, false] rfl rfl (take_ofW HT_.out HW_.out (by kernel_rfl)) (fun _ _ _ h => h) (Or.inl ⟨by rfl, ?_⟩) hHeld ?_ ?_
      rotate_left
      · rintro w' ⟨s0, s1, s2, s3, s4, s5, s6, s7⟩
        go_simp
        with_reducible rfl
      rotate_left
      · simp only [Act.put, List.setIfInBounds_toArray, List.set_cons_zero, List.set_cons_succ, i64_w, i32_w]
        rfl
      refine pure_ (i := 14) (N := some 30) (v := ?_) (a' := ?_) #[true, true, true, true, true, true, true, true, true, true, true, true, true, true, true, false, false, false, false, false, false, false, false, false] rfl rfl (any_of HT_.out (by kernel_rfl)) (fun _ _ _ h => h) (Or.inl ⟨by rfl, ?_⟩) ?_ ?_
      rotate_left
      · intro w'
        go_simp
        try with_reducible rfl
      rotate_left
      · simp only [Act.put, List.setIfInBounds_toArray, List.set_cons_zero, List.set_cons_succ, i64_w, i32_w]
        rfl
      refine pure_ (i := 15) (N := some 31) (v := ?_) (a' := ?_) #[true, true, true, true, true, true, true, true, true, true, true, true, true, true, true, true, false, false, false, false, false, false, false, false] rfl rfl (any_of HT_.out (by kernel_rfl)) (fun _ _ _ h => h) (Or.inl ⟨by rfl, ?_⟩) ?_ ?_
      rotate_left
      · intro w'
        go_simp
        try with_reducible rfl
      rotate_left
      · simp only [Act.put, List.setIfInBounds_toArray, List.set_cons_zero, List.set_cons_succ, i64_w, i32_w]
        rfl
      refine pure_ (i := 16) (N := some 32) (v := ?_) (a' := ?_) #[true, true, true, true, true, true, true, true, true, true, true, true, true, true, true, true, true, false, false, false, false, false, false, false] rfl rfl (any_of HT_.out (by kernel_rfl)) (fun _ _ _ h => h) (Or.inl ⟨by rfl, ?_⟩) ?_ ?_
      rotate_left
      · intro w'
        go_simp
        try with_reducible rfl
      rotate_left
      · simp only [Act.put, List.setIfInBounds_toArray, List.set_cons_zero, List.set_cons_succ, i64_w, i32_w]
        rfl
      refine pure_ (i := 17) (N := some 33) (v := ?_) (a' := ?_) #[true, true, true, true, true, true, true, true, true, true, true, true, true, true, true, true, true, true, false, false, false, false, false, false] rfl rfl (any_of HT_.out (by kernel_rfl)) (fun _ _ _ h => h) (Or.inl ⟨by rfl, ?_⟩) ?_ ?_
      rotate_left
      · intro w'
        go_simp
        try with_reducible rfl
      rotate_left
      · simp only [Act.put, List.setIfInBounds_toArray, List.set_cons_zero, List.set_cons_succ, i64_w, i32_w]
        rfl
      refine pure_ (i := 18) (N := some 34) (v := ?_) (a' := ?_) #[true, true, true, true, true, true, true, true, true, true, true, true, true, true, true, true, true, true, true, false, false, false, false, false] rfl rfl (any_of HT_.out (by kernel_rfl)) (fun _ _ _ h => h) (Or.inl ⟨by rfl, ?_⟩) ?_ ?_
      rotate_left
      · intro w'
        go_simp
        try with_reducible rfl
      rotate_left
      · simp only [Act.put, List.setIfInBounds_toArray, List.set_cons_zero, List.set_cons_succ, i64_w, i32_w]
        rfl
      refine take_ (i := 19) (N := some 35) (v := ?_) (a' := ?_) #[true, true, true, true, true, true, true, true, true, true, true, true, true, true, true, true, true, true, true, true, false, false, false, false] rfl rfl (take_ofW HT_.out HW_.out (by kernel_rfl)) (fun _ _ _ h => h) (Or.inl ⟨by rfl, ?_⟩) hHeld ?_ ?_
      rotate_left
      · rintro w' ⟨s0, s1, s2, s3, s4, s5, s6, s7⟩
        go_simp
        with_reducible rfl
      rotate_left
      · simp only [Act.put, List.setIfInBounds_toArray, List.set_cons_zero, List.set_cons_succ, i64_w, i32_w]
        rfl
      refine pure_ (i := 20) (N := some 36) (v := ?_) (a' := ?_) #[true, true, true, true, true, true, true, true, true, true, true, true, true, true, true, true, true, true, true, true, true, false, false, false] rfl rfl (any_of HT_.out (by kernel_rfl)) (fun _ _ _ h => h) (Or.inl ⟨by rfl, ?_⟩) ?_ ?_
      rotate_left
      · intro w'
        go_simp
        try with_reducible rfl
      rotate_left
      · simp only [Act.put, List.setIfInBounds_toArray, List.set_cons_zero, List.set_cons_succ, i64_w, i32_w]
        rfl
      refine last_ (i := 21) (N := none) #[true, true, true, true, true, true, true, true, true, true, true, true, true, true, true, true, true, true, true, true, true, true, false, false] rfl rfl (one_of HT_.out (by kernel_rfl)) (by decide) (fun K hK => ?_)
      refine skip_ (w1 := ?_) (by rfl) rfl ?_ ?_
      rotate_left
      · go_simp
        rfl
      refine hK.out _ _ ?_
      clear hK K
      refine pure_ (i := 22) (N := some 37) (v := ?_) (a' := ?_) #[true, true, true, true, true, true, true, true, true, true, true, true, true, true, true, true, true, true, true, true, true, true, true, false] rfl rfl (any_of HT_.out (by kernel_rfl)) (fun _ _ _ h => h) (Or.inl ⟨by rfl, ?_⟩) ?_ ?_
      rotate_left
      · intro w'
        go_simp
        try with_reducible rfl
      rotate_left
      · simp only [Act.put, List.setIfInBounds_toArray, List.set_cons_zero, List.set_cons_succ, i64_w, i32_w]
        rfl
      refine last_ (i := 23) (N := none) #[true, true, true, true, true, true, true, true, true, true, true, true, true, true, true, true, true, true, true, true, true, true, true, true] rfl rfl (one_of HT_.out (by kernel_rfl)) (by decide) (fun K hK => ?_)
      refine skip_ (w1 := ?_) (by rfl) rfl ?_ ?_
      rotate_left
      · go_simp
        rfl
      refine hK.out _ _ ?_
      clear hK K
      refine done_ (done_of HT_.out (by kernel_rfl)) ?_
      clear HT_ HW_
      clear p0 p1 p2 p3 p4 p5 p6 p7 q0 q1 q2 q3 q4 q5 q6 q7 n0 m0 n1 m1 n2 m2 n3 m3 hHeld HO
      replace HO := RS_
      clear RS_
      replace HB := Aside0.mk (BS_.out HB.out)
      replace HY := Aside0.mk (HY.out.trans OS_.out)
      clear OS_ BS_
      try go_wp2
      go_roundg (d - (i + 1))
      case measure => have := HJ.out.2.1; have := HD1.out; omega
      case rel => exact ⟨i + 1, St.swp (z30, 0) ys p q, (by first | rfl | rw [hwi] | simp [hwi]), ⟨by have := HD1.out; omega, rfl, by have h1 := HJ.out.2.2.1; rw [show d - i = (d - (i + 1)) + 1 by have := HD1.out; omega, St.swR, ← Ep.out, ← Eq.out] at h1; exact h1, sm_swp HJ.out.2.2.2 p q (by have := HL.out; have := HPN.out; omega) (by have := HL.out; have := HPN.out; omega)⟩, HO, HB, HY⟩
    · have d3 : decide ((i : Int) < (d : Int)) = false := decide_eq_false (by omega)
      have d2 : ¬ ((i : Int) < (d : Int)) := by omega
      have hz : Aside0 (ys = St.swR (z30, 0) a b d 0 xs) := ⟨by have h1 := HJ.out.2.2.1; rw [show d - i = 0 by omega, St.swR] at h1; exact h1⟩
      clear d1
      go_wp2
      (first | go_ret | go_end0 | refine bodyPost_ret (results_none rfl _ _ _) rfl ?_)
      exact ⟨rfl, by rw [← hz.out]; exact HJ.out.2.2.2, by rw [← hz.out]; exact HO.out, HB.out, HY.out⟩
set_option maxHeartbeats 8000000 in
set_option maxRecDepth 100000 in
theorem rot_go (fo : Nat → Nat) (w0 : World) (g n cap : Nat) (ok : Nat → Prop) (hg : w0.heap.size ≤ g) (hn : n ≤ 1048576) (a m b F : Nat) (ha : a < m ∧ m < b ∧ b ≤ n ∧ b - a ≤ F) (xs : List (S30 × Nat)) (hs : SmL (xs)) (w : World) (ho : Kd.R (Kd.tag fo k30) 30 w w0.heap.size ok (.slice (some ⟨g, 0, none⟩) n cap) xs) (hb : Below w0.heap.size w0 w) :
    Calls Try.prog 45 #[.slice (some ⟨g, 0, none⟩) n cap, .int .i64 (a : Int), .int .i64 (m : Int), .int .i64 (b : Int), .func (.func 22) #[] #[]] w fun e w' => e = .returned (.tuple #[]) ∧ (SmL (St.rot (z30, 0) m F (m - a) (b - m) xs)) ∧ Kd.R (Kd.tag fo k30) 30 w' w0.heap.size ok (.slice (some ⟨g, 0, none⟩) n cap) (St.rot (z30, 0) m F (m - a) (b - m) xs) ∧ Below w0.heap.size w0 w' ∧ Only g w w' := by
  have HG := Aside0.mk hg; have HN := Aside0.mk hn; have HA := Aside0.mk ha; have HS := Aside0.mk hs; have HO := Aside0.mk ho; have HB := Aside0.mk hb
  have HY := Aside0.mk (Only.refl g w)
  clear hg hn ha hs ho hb
  obtain ⟨i0, hi0_⟩ : ∃ q : Nat, q = m - a := ⟨_, rfl⟩
  have Ei0 := Aside0.mk hi0_
  obtain ⟨j0, hj0_⟩ : ∃ q : Nat, q = b - m := ⟨_, rfl⟩
  have Ej0 := Aside0.mk hj0_
  clear hi0_ hj0_
  have r1 : wrap64 ((m : Int) - (a : Int)) = (i0 : Int) := by have := Ei0.out; have := HA.out; have := HN.out; unfold wrap64; omega
  have r2 : wrap64 ((b : Int) - (m : Int)) = (j0 : Int) := by have := Ej0.out; have := HA.out; have := HN.out; unfold wrap64; omega
  go_enter Try.func45, Try.ntmps45
  go_wp2
  go_loopg [10, 11] (i0 + j0) (fun gq v10 v11 w' => ∃ (f i j : Nat) (ys : List (S30 × Nat)), v10 = .int .i64 (i : Int) ∧ v11 = .int .i64 (j : Int) ∧ Aside0 ((0 < i ∧ 0 < j ∧ i ≤ m ∧ m + j ≤ n ∧ i + j ≤ f) ∧ gq = i + j ∧ St.rot (z30, 0) m f i j ys = St.rot (z30, 0) m F (m - a) (b - m) xs ∧ SmL (ys)) ∧ Aside0 (Kd.R (Kd.tag fo k30) 30 w' w0.heap.size ok (.slice (some ⟨g, 0, none⟩) n cap) ys) ∧ Aside0 (Below w0.heap.size w0 w') ∧ Aside0 (Only g w w'))
  case atStart => exact ⟨F, i0, j0, xs, by rw [r1], by rw [r2], ⟨by have := Ei0.out; have := Ej0.out; have := HA.out; omega, rfl, by rw [Ei0.out, Ej0.out], HS.out⟩, HO, HB, HY⟩
  case round =>
    clear HO HB HY r1 r2
    obtain ⟨f, i, j, ys, rfl, rfl, HJ, HO, HB, HY⟩ := hrel
    obtain ⟨f, rfl⟩ : ∃ f', f = f' + 1 := ⟨f - 1, by have := HJ.out.1; omega⟩
    obtain ⟨p, hp_⟩ : ∃ q : Nat, q = m - i := ⟨_, rfl⟩
    have Ep := Aside0.mk hp_
    clear hp_
    have r1 : wrap64 ((m : Int) - (i : Int)) = (p : Int) := by have := Ep.out; have := HJ.out; have := HA.out; have := HN.out; unfold wrap64; omega
    by_cases d1 : i = j
    · have d2 : ((i : Int) = (j : Int)) = True := eq_true (by omega)
      have d3 : ((i : Int) == (j : Int)) = true := by simp [d1]
      have d4 : ((i : Int) != (j : Int)) = false := by simp [d1]
      have HD1 := Aside0.mk d1
      have d5 : decide ((i : Int) = (j : Int)) = true := by simp [d1]
      clear d1
      have hz : Aside0 (St.swR (z30, 0) p m i 0 ys = St.rot (z30, 0) m F (m - a) (b - m) xs) := ⟨by have h1 := HJ.out.2.2.1; rw [St.rot, if_pos HD1.out] at h1; rw [Ep.out]; exact h1⟩
      go_wp2_with (fail)
      refine (swr_go fo w0 g n cap ok HG.out HN.out p m i (by have := Ep.out; have := HJ.out.1; omega) (by have := HD1.out; have := HJ.out.1; omega) _ HJ.out.2.2.2 _ HO.out HB.out).mono ?_
      rintro e w2 ⟨rfl, hs2, ho2, hb2, hy2⟩
      (try refine ⟨_, rfl, ?_⟩)
      replace HO := Aside0.mk ho2; replace HB := Aside0.mk hb2; replace HY := Aside0.mk (HY.out.trans hy2)
      have HS2 := Aside0.mk hs2
      clear ho2 hb2 hy2 hs2
      try go_wp2
      (first | go_ret | go_end0 | refine bodyPost_ret (results_none rfl _ _ _) rfl ?_)
      exact ⟨rfl, by rw [← hz.out]; exact HS2.out, by rw [← hz.out]; exact HO.out, HB.out, HY.out⟩
    · have d2 : ((i : Int) = (j : Int)) = False := eq_false (by omega)
      have HD1 := Aside0.mk d1
      have d3 : ((i : Int) == (j : Int)) = false := by simp; omega
      have d4 : ((i : Int) != (j : Int)) = true := by simp; omega
      have d5 : decide ((i : Int) = (j : Int)) = false := by simp; omega
      by_cases e1 : j < i
      · have HE1 := Aside0.mk e1
        have e2 : ((j : Int) < (i : Int)) = True := eq_true (by omega)
        clear d1 e1
        obtain ⟨i1, hi1_⟩ : ∃ q : Nat, q = i - j := ⟨_, rfl⟩
        have Ei1 := Aside0.mk hi1_
        clear hi1_
        have r2 : wrap64 ((i : Int) - (j : Int)) = (i1 : Int) := by have := Ei1.out; have := HE1.out; have := HJ.out; have := HA.out; have := HN.out; unfold wrap64; omega
        go_wp2_with (fail)
        refine (swr_go fo w0 g n cap ok HG.out HN.out p m j (by have := Ep.out; have := HE1.out; have := HJ.out.1; omega) (by have := HJ.out.1; omega) _ HJ.out.2.2.2 _ HO.out HB.out).mono ?_
        rintro e w2 ⟨rfl, hs2, ho2, hb2, hy2⟩
        (try refine ⟨_, rfl, ?_⟩)
        replace HO := Aside0.mk ho2; replace HB := Aside0.mk hb2; replace HY := Aside0.mk (HY.out.trans hy2)
        have HS2 := Aside0.mk hs2
        clear ho2 hb2 hy2 hs2
        try go_wp2
        go_roundg (i1 + j)
        case measure => have := HJ.out; have := Ei1.out; have := HE1.out; omega
        case rel => exact ⟨f, i1, j, _, (by first | rfl | rw [r2] | simp [r2]), rfl, ⟨by have := HJ.out.1; have := Ei1.out; have := HE1.out; omega, rfl, by have h1 := HJ.out.2.2.1; rw [St.rot, if_neg HD1.out, if_pos HE1.out, ← Ep.out, ← Ei1.out] at h1; exact h1, HS2.out⟩, HO, HB, HY⟩
      · have HE1 := Aside0.mk e1
        have e2 : ((j : Int) < (i : Int)) = False := eq_false (by omega)
        clear d1 e1
        obtain ⟨j1, hj1_⟩ : ∃ q : Nat, q = j - i := ⟨_, rfl⟩
        have Ej1 := Aside0.mk hj1_
        obtain ⟨q, hq_⟩ : ∃ q : Nat, q = m + j - i := ⟨_, rfl⟩
        have Eq := Aside0.mk hq_
        obtain ⟨mj, hmj_⟩ : ∃ q : Nat, q = m + j := ⟨_, rfl⟩
        have Emj := Aside0.mk hmj_
        clear hj1_ hq_ hmj_
        have r2 : wrap64 ((j : Int) - (i : Int)) = (j1 : Int) := by have := Ej1.out; have := HE1.out; have := HJ.out; have := HA.out; have := HN.out; unfold wrap64; omega
        have r3 : wrap64 ((m : Int) + (j : Int)) = (mj : Int) := by have := Emj.out; have := HJ.out; have := HN.out; unfold wrap64; omega
        have r4 : wrap64 ((mj : Int) - (i : Int)) = (q : Int) := by have := Eq.out; have := Emj.out; have := HE1.out; have := HJ.out; have := HN.out; unfold wrap64; omega
        go_wp2_with (fail)
        refine (swr_go fo w0 g n cap ok HG.out HN.out p q i (by have := Ep.out; have := HE1.out; have := HD1.out; have := HJ.out.1; omega) (by have := Eq.out; have := HE1.out; have := HD1.out; have := HJ.out.1; omega) _ HJ.out.2.2.2 _ HO.out HB.out).mono ?_
        rintro e w2 ⟨rfl, hs2, ho2, hb2, hy2⟩
        (try refine ⟨_, rfl, ?_⟩)
        replace HO := Aside0.mk ho2; replace HB := Aside0.mk hb2; replace HY := Aside0.mk (HY.out.trans hy2)
        have HS2 := Aside0.mk hs2
        clear ho2 hb2 hy2 hs2
        try go_wp2
        go_roundg (i + j1)
        case measure => have := HJ.out; have := Ej1.out; have := HE1.out; have := HD1.out; omega
        case rel => exact ⟨f, i, j1, _, rfl, (by first | rfl | rw [r2] | simp [r2]), ⟨by have := HJ.out.1; have := Ej1.out; have := HE1.out; have := HD1.out; omega, rfl, by have h1 := HJ.out.2.2.1; rw [St.rot, if_neg HD1.out, if_neg HE1.out, ← Ep.out, ← Ej1.out, ← Eq.out] at h1; exact h1, HS2.out⟩, HO, HB, HY⟩
end Go.Proofs.Ytonimhfahjediaa.Pk
end
section
namespace Go.Proofs.Ytonimhfahjediaa.Pk
open Go.RowKit Go.Proofs.YtonimhfahjediaaW.PrintWords Go.Proofs.YtonimhfahjediaaW.PrintLast Go.Proofs.YtonimhfahjediaaW.PrintMore Go.Proofs.Ytonimhfahjediaa.Pl Go.Proofs.Ytonimhfahjediaa.Ext
set_option linter.unusedVariables false
set_option linter.unusedSimpArgs false
theorem symM_three {f a m b mid s0 r0 i e : Nat} {xs ys zs out : List (S30 × Nat)} (h1 : m - a ≠ 1) (h2 : b - m ≠ 1) (hm : mid = (a + b) / 2) (hsr : (mid < m ∧ s0 + b = mid + m ∧ r0 = mid) ∨ (m ≤ mid ∧ s0 = a ∧ r0 = m))
    (hi : i = St.bs (fun c => !(ltP (xs.getD (mid + m - 1 - c) (z30, 0)) (xs.getD c (z30, 0)))) (b - a) s0 r0) (he : e = mid + m - i) (hy : ys = if i < m ∧ m < e then St.rot (z30, 0) m (e - i) (m - i) (e - m) xs else xs)
    (hz : zs = if a < i ∧ i < mid then St.symM ltP (z30, 0) f a i mid ys else ys) (ho : out = if mid < e ∧ e < b then St.symM ltP (z30, 0) f mid e b zs else zs) : St.symM ltP (z30, 0) (f + 1) a m b xs = out := by
  have q1 : (if m > mid then mid + m - b else a) = s0 := by by_cases c : m > mid <;> simp only [c, if_true, if_false] <;> omega
  have q2 : (if m > mid then mid else m) = r0 := by by_cases c : m > mid <;> simp only [c, if_true, if_false] <;> omega
  rw [St.symM, if_neg h1, if_neg h2]
  dsimp only
  rw [← hm, q1, q2, ← hi, ← he, ← hy, ← hz, ← ho]
set_option maxHeartbeats 8000000 in
set_option maxRecDepth 100000 in
theorem sym3_go (fo : Nat → Nat) (w0 : World) (g n cap : Nat) (ok : Nat → Prop) (hg : w0.heap.size ≤ g) (hn : n ≤ 1048576) (f : Nat) (ih : ∀ (a m b : Nat) (ha : a < m ∧ m < b ∧ b ≤ n ∧ b - a ≤ f) (xs : List (S30 × Nat)) (hs : SmL (xs)) (w : World) (ho : Kd.R (Kd.tag fo k30) 30 w w0.heap.size ok (.slice (some ⟨g, 0, none⟩) n cap) xs) (hb : Below w0.heap.size w0 w), Calls Try.prog 43 #[.slice (some ⟨g, 0, none⟩) n cap, .int .i64 (a : Int), .int .i64 (m : Int), .int .i64 (b : Int), .func (.func 22) #[] #[]] w fun e w' => e = .returned (.tuple #[]) ∧ (SmL (St.symM ltP (z30, 0) f a m b xs)) ∧ Kd.R (Kd.tag fo k30) 30 w' w0.heap.size ok (.slice (some ⟨g, 0, none⟩) n cap) (St.symM ltP (z30, 0) f a m b xs) ∧ Below w0.heap.size w0 w' ∧ Only g w w') (a m b : Nat) (ha : a < m ∧ m < b ∧ b ≤ n ∧ b - a ≤ f + 1) (h1 : m - a ≠ 1) (h2 : b - m ≠ 1) (xs : List (S30 × Nat)) (hs : SmL (xs)) (w : World) (ho : Kd.R (Kd.tag fo k30) 30 w w0.heap.size ok (.slice (some ⟨g, 0, none⟩) n cap) xs) (hb : Below w0.heap.size w0 w) :
    Calls Try.prog 43 #[.slice (some ⟨g, 0, none⟩) n cap, .int .i64 (a : Int), .int .i64 (m : Int), .int .i64 (b : Int), .func (.func 22) #[] #[]] w fun e w' => e = .returned (.tuple #[]) ∧ (SmL ((St.symM ltP (z30, 0) (f + 1) a m b xs))) ∧ Kd.R (Kd.tag fo k30) 30 w' w0.heap.size ok (.slice (some ⟨g, 0, none⟩) n cap) ((St.symM ltP (z30, 0) (f + 1) a m b xs)) ∧ Below w0.heap.size w0 w' ∧ Only g w w' := by
  have HG := Aside0.mk hg; have HN := Aside0.mk hn; have IH := Aside0.mk ih; have HA := Aside0.mk ha; have H1 := Aside0.mk h1; have H2 := Aside0.mk h2; have HS := Aside0.mk hs; have HO := Aside0.mk ho; have HB := Aside0.mk hb
  have HY := Aside0.mk (Only.refl g w)
  clear hg hn ih ha h1 h2 hs ho hb
  obtain ⟨p0, hp0_⟩ : ∃ q : Nat, q = m - a := ⟨_, rfl⟩
  have Ep0 := Aside0.mk hp0_
  obtain ⟨p1, hp1_⟩ : ∃ q : Nat, q = b - m := ⟨_, rfl⟩
  have Ep1 := Aside0.mk hp1_
  obtain ⟨mid, hmid_⟩ : ∃ q : Nat, q = (a + b) / 2 := ⟨_, rfl⟩
  have Emid := Aside0.mk hmid_
  obtain ⟨nn, hnn_⟩ : ∃ q : Nat, q = mid + m := ⟨_, rfl⟩
  have Enn := Aside0.mk hnn_
  obtain ⟨pp, hpp_⟩ : ∃ q : Nat, q = nn - 1 := ⟨_, rfl⟩
  have Epp := Aside0.mk hpp_
  have rmid := half_ a b (by have := HA.out; have := HN.out; omega)
  rw [← hmid_] at rmid
  clear hp0_ hp1_ hmid_ hnn_ hpp_
  have HMI : Aside0 (a < mid ∧ mid < b) := ⟨by have := Emid.out; have := HA.out; have := H1.out; have := H2.out; omega⟩
  have r1 : wrap64 ((m : Int) - (a : Int)) = (p0 : Int) := by have := Ep0.out; have := HA.out; have := HN.out; unfold wrap64; omega
  have r2 : wrap64 ((b : Int) - (m : Int)) = (p1 : Int) := by have := Ep1.out; have := HA.out; have := HN.out; unfold wrap64; omega
  have dp01 : ((p0 : Int) = 1) = False := eq_false (by have := Ep0.out; have := H1.out; omega)
  have dp02 : ((p0 : Int) == 1) = false := by have := Ep0.out; have := H1.out; simp; omega
  have dp03 : decide ((p0 : Int) = 1) = false := by have := Ep0.out; have := H1.out; simp; omega
  have dp11 : ((p1 : Int) = 1) = False := eq_false (by have := Ep1.out; have := H2.out; omega)
  have dp12 : ((p1 : Int) == 1) = false := by have := Ep1.out; have := H2.out; simp; omega
  have dp13 : decide ((p1 : Int) = 1) = false := by have := Ep1.out; have := H2.out; simp; omega
  have RN := Aside0.mk (show wrap64 ((mid : Int) + (m : Int)) = (nn : Int) by have := Enn.out; have := HMI.out; have := HA.out; have := HN.out; unfold wrap64; omega)
  have RP := Aside0.mk (show wrap64 ((nn : Int) - 1) = (pp : Int) by have := Epp.out; have := Enn.out; have := HMI.out; have := HA.out; have := HN.out; unfold wrap64; omega)
  have RM := Aside0.mk rmid
  clear rmid
  go_enter Try.func43, Try.ntmps43
  go_upto_region 25 with (fail)
  clear r1 r2 dp01 dp02 dp03 dp11 dp12 dp13
  rw [RM.out]
  go_upto_if 140 with (fail)
  rw [RN.out]
  go_cut [20, 21] (fun v20 v21 wc => ∃ (s0 r0 : Nat), v20 = .int .i64 (s0 : Int) ∧ v21 = .int .i64 (r0 : Int) ∧ Aside0 ((mid < m ∧ s0 + b = mid + m ∧ r0 = mid) ∨ (m ≤ mid ∧ s0 = a ∧ r0 = m)) ∧ w = wc)
  case first =>
    by_cases c : mid < m
    · have HC0 := Aside0.mk c
      have c1 : (mid : Int) < (m : Int) := by omega
      have c2 : ((mid : Int) < (m : Int)) = True := eq_true c1
      have c3 : decide ((mid : Int) < (m : Int)) = true := decide_eq_true c1
      obtain ⟨s0, hs0_⟩ : ∃ q : Nat, q = nn - b := ⟨_, rfl⟩
      have Es0 := Aside0.mk hs0_
      clear hs0_ c
      have r1 : wrap64 ((nn : Int) - (b : Int)) = (s0 : Int) := by have := Es0.out; have := Enn.out; have := Emid.out; have := HMI.out; have := HA.out; have := HN.out; have := HC0.out; unfold wrap64; omega
      try rw [c3]
      go_wp2
      go_meet
      case rel => exact ⟨s0, mid, (by first | rfl | rw [r1] | simp [r1]), rfl, ⟨.inl ⟨HC0.out, by have := Es0.out; have := Enn.out; have := Emid.out; have := HC0.out; have := HA.out; omega, rfl⟩⟩, rfl⟩
    · have HC0 := Aside0.mk c
      have c1 : ¬ ((mid : Int) < (m : Int)) := by omega
      have c2 : ((mid : Int) < (m : Int)) = False := eq_false c1
      have c3 : decide ((mid : Int) < (m : Int)) = false := decide_eq_false c1
      clear c
      try rw [c3]
      go_wp2
      go_meet
      case rel => exact ⟨a, m, rfl, rfl, ⟨.inr ⟨by have := HC0.out; omega, rfl, rfl⟩⟩, rfl⟩
  case rest =>
    obtain ⟨s0, r0, rfl, rfl, HSR, rfl⟩ := hcut
    go_wp2
    rw [RP.out]
    go_loopg [20, 21, 23] (r0 - s0) (fun gq v20 v21 v23 w' => ∃ (fb i j : Nat), v20 = .int .i64 (i : Int) ∧ v21 = .int .i64 (j : Int) ∧ Aside0 ((s0 ≤ i ∧ i ≤ j ∧ j ≤ r0 ∧ j - i ≤ fb) ∧ gq = j - i ∧ St.bs (fun c => !(ltP (xs.getD (mid + m - 1 - c) (z30, 0)) (xs.getD c (z30, 0)))) fb i j = St.bs (fun c => !(ltP (xs.getD (mid + m - 1 - c) (z30, 0)) (xs.getD c (z30, 0)))) (b - a) s0 r0) ∧ Aside0 (Kd.R (Kd.tag fo k30) 30 w' w0.heap.size ok (.slice (some ⟨g, 0, none⟩) n cap) xs) ∧ Aside0 (Below w0.heap.size w0 w') ∧ Aside0 (Only g w w'))
    case atStart => exact ⟨(b - a), s0, r0, rfl, rfl, ⟨by have := HA.out; have := HSR.out; have := HMI.out; have := Emid.out; omega, rfl, rfl⟩, HO, HB, HY⟩
    case round =>
      clear HO HB HY
      obtain ⟨fb, i, j, rfl, rfl, HJ, HO, HB, HY⟩ := hrel
      by_cases d1 : i < j
      · obtain ⟨fb, rfl⟩ : ∃ f', fb = f' + 1 := ⟨fb - 1, by have := HJ.out.1; omega⟩
        have HD1 := Aside0.mk d1
        have d2 : (i : Int) < (j : Int) := by omega
        have d3 : decide ((i : Int) < (j : Int)) = true := decide_eq_true d2
        go_upto_region 35 with (fail)
        clear d1 d2 d3
        obtain ⟨h, hh_⟩ : ∃ q : Nat, q = (i + j) / 2 := ⟨_, rfl⟩
        have Eh := Aside0.mk hh_
        have rh := half_ i j (by have := HJ.out.1; have := HA.out; have := HN.out; have := HSR.out; have := HMI.out; have := Emid.out; omega)
        rw [← hh_] at rh
        rw [rh]
        clear hh_ rh
        obtain ⟨pc, hpc_⟩ : ∃ q : Nat, q = pp - h := ⟨_, rfl⟩
        have Epc := Aside0.mk hpc_
        clear hpc_
        have rpc : wrap64 ((pp : Int) - (h : Int)) = (pc : Int) := by have := Epc.out; have := Epp.out; have := Enn.out; have := Eh.out; have := HJ.out; have := HD1.out; have := HSR.out; have := HMI.out; have := HA.out; have := HN.out; unfold wrap64; omega
        have HIJ : Aside0 (pc < n ∧ h < n) := ⟨by have := HJ.out.1; have := HA.out; have := Eh.out; have := HD1.out; have := HSR.out; have := HMI.out; have := Emid.out; have := Epc.out; have := Epp.out; have := Enn.out; omega⟩
        have r3 : ((pc : Int) < (n : Int)) = True := eq_true (by have := HIJ.out; omega)
        have r4 : ((h : Int) < (n : Int)) = True := eq_true (by have := HIJ.out; omega)
        have r5 : (0 ≤ (pc : Int)) = True := eq_true (by have := HIJ.out; omega)
        have r6 : (0 ≤ (h : Int)) = True := eq_true (by have := HIJ.out; omega)
        have hwh : wrap64 ((h : Int) + 1) = ((h + 1 : Nat) : Int) := by have := HJ.out.1; have := HA.out; have := HN.out; have := Eh.out; have := HSR.out; have := HMI.out; have := Emid.out; unfold wrap64; omega
        have HL := Aside0.mk (Kd.R_reads' HO.out).1
        have sX := HS.out _ (mem_getD xs (z30, 0) pc (by have := HL.out; have := HIJ.out; omega))
        have sZ := HS.out _ (mem_getD xs (z30, 0) h (by have := HL.out; have := HIJ.out; omega))
        obtain ⟨KC, hKC⟩ := (CompareValues_ev _ _ sX sZ).rounds
        have HC := Aside0.mk hKC
        clear hKC sX sZ
        obtain ⟨X, hX⟩ : ∃ X, X = xs.getD pc (z30, 0) := ⟨_, rfl⟩
        obtain ⟨Z, hZ⟩ : ∃ Z, Z = xs.getD h (z30, 0) := ⟨_, rfl⟩
        rw [← hX, ← hZ] at HC
        have HX := Aside0.mk hX; have HZ := Aside0.mk hZ
        clear hX hZ
        try go_wp2
        replace HO := Aside0.mk (Kd.R_drew HO.out)
        replace HB := Aside0.mk (below_drew1 HB.out)
        replace HY := Aside0.mk (HY.out.trans drewOnly)
        obtain ⟨ci, cj, li, lj, Mi, Mj, hci, hcj, fi, fj, RS, OS, BS, NC, NF⟩ := R_swap HO.out (z30, 0) pc h (by have := HIJ.out; omega) (by have := HIJ.out; omega)
        clear RS OS BS NC NF fi fj
        rw [← HX.out] at Mi; rw [← HZ.out] at Mj
        obtain ⟨va2, va3, rfl, ga2, ga3⟩ := k30_openM Mi
        obtain ⟨vb2, vb3, rfl, gb2, gb3⟩ := k30_openM Mj
        obtain ⟨Aa2, ca2, rfl⟩ := Kd.R_slice ga2
        obtain ⟨Aa3, ca3, rfl⟩ := Kd.R_slice (Kd.S_R ga3)
        obtain ⟨Ab2, cb2, rfl⟩ := Kd.R_slice gb2
        obtain ⟨Ab3, cb3, rfl⟩ := Kd.R_slice (Kd.S_R gb3)
        have GA2 := Aside0.mk (Kd.R_reads' ga2).2; have GA3 := Aside0.mk (Kd.R_reads' (Kd.S_R ga3)).2; have GB2 := Aside0.mk (Kd.R_reads' gb2).2; have GB3 := Aside0.mk (Kd.R_reads' (Kd.S_R gb3)).2
        have p0 := hci 0 _ rfl
        have p1 := hci 1 _ rfl
        have p2 := hci 2 _ rfl
        have p3 := hci 3 _ rfl
        have p4 := hcj 0 _ rfl
        have p5 := hcj 1 _ rfl
        have p6 := hcj 2 _ rfl
        have p7 := hcj 3 _ rfl
        simp only [show (Kd.tag fo k30).sz = 4 from rfl, Nat.add_zero] at p0 p1 p2 p3 p4 p5 p6 p7
        have PC := Aside0.mk (And.intro p0 (And.intro p1 (And.intro p2 (And.intro p3 (And.intro p4 (And.intro p5 (And.intro p6 p7)))))))
        clear hci hcj li lj Mi Mj ga2 ga3 gb2 gb3 p0 p1 p2 p3 p4 p5 p6 p7
        by_cases e2 : cmT X.1 Z.1 < 0
        · have r7 : (cmT X.1 Z.1 < 0) = True := eq_true e2
          have HE2 := Aside0.mk e2
          clear e2
          refine start_ (n := 14) (S := fun w' => w'.cell? ⟨g, pc * 4, none⟩ = some (.int .i64 X.1.f0) ∧ w'.cell? ⟨g, pc * 4 + 1, none⟩ = some (.int .i64 X.1.f1) ∧ w'.cell? ⟨g, pc * 4 + 2, none⟩ = some (.slice Aa2 X.1.f2.length ca2) ∧ w'.cell? ⟨g, pc * 4 + 3, none⟩ = some (.slice Aa3 X.1.f3.length ca3) ∧ w'.cell? ⟨g, h * 4, none⟩ = some (.int .i64 Z.1.f0) ∧ w'.cell? ⟨g, h * 4 + 1, none⟩ = some (.int .i64 Z.1.f1) ∧ w'.cell? ⟨g, h * 4 + 2, none⟩ = some (.slice Ab2 Z.1.f2.length cb2) ∧ w'.cell? ⟨g, h * 4 + 3, none⟩ = some (.slice Ab3 Z.1.f3.length cb3)) (ds := []) #[false, false, false, false, false, false, false, false, false, false, false, false, false, false] (by kernel_rfl) rfl rfl PC.out (fun hHeld => ?_); refine with_tabW tabSym.tab35 tabSym.bits35 (fun HT_ HW_ => ?_)
          generalize World.drew _ = w1 at HO HB HY PC GA2 GA3 GB2 GB3 hHeld ⊢
          refine pure_ (i := 0) (N := some 158) (v := ?_) (a' := ?_) #[true, false, false, false, false, false, false, false, false, false, false, false, false, false] rfl rfl (any_of HT_.out (by kernel_rfl)) (fun _ _ _ h => h) (Or.inl ⟨by rfl, ?_⟩) ?_ ?_
          rotate_left
          · intro w'
            go_simp
            try with_reducible rfl
          rotate_left
          · simp only [Act.put, List.setIfInBounds_toArray, List.set_cons_zero, List.set_cons_succ, i64_w, i32_w]
            rfl
          refine pure_ (i := 1) (N := some 159) (v := ?_) (a' := ?_) #[true, true, false, false, false, false, false, false, false, false, false, false, false, false] rfl rfl (any_of HT_.out (by kernel_rfl)) (fun _ _ _ h => h) (Or.inl ⟨by rfl, ?_⟩) ?_ ?_
          rotate_left
          · intro w'
            go_simp
            try with_reducible rfl
          rotate_left
          · simp only [Act.put, List.setIfInBounds_toArray, List.set_cons_zero, List.set_cons_succ, i64_w, i32_w]
            rfl
          refine pure_ (i := 2) (N := some 160) (v := ?_) (a' := ?_) #[true, true, true, false, false, false, false, false, false, false, false, false, false, false] rfl rfl (any_of HT_.out (by kernel_rfl)) (fun _ _ _ h => h) (Or.inl ⟨by rfl, ?_⟩) ?_ ?_
          rotate_left
          · intro w'
            go_simp
            try with_reducible rfl
          rotate_left
          · simp only [Act.put, List.setIfInBounds_toArray, List.set_cons_zero, List.set_cons_succ, i64_w, i32_w]
            rfl
          refine pure_ (i := 3) (N := some 161) (v := ?_) (a' := ?_) #[true, true, true, true, false, false, false, false, false, false, false, false, false, false] rfl rfl (any_of HT_.out (by kernel_rfl)) (fun _ _ _ h => h) (Or.inl ⟨by rfl, ?_⟩) ?_ ?_
          rotate_left
          · intro w'
            go_simp
            try with_reducible rfl
          rotate_left
          · simp only [Act.put, List.setIfInBounds_toArray, List.set_cons_zero, List.set_cons_succ, i64_w, i32_w]
            rfl
          refine pure_ (i := 4) (N := some 162) (v := ?_) (a' := ?_) #[true, true, true, true, true, false, false, false, false, false, false, false, false, false] rfl rfl (any_of HT_.out (by kernel_rfl)) (fun _ _ _ h => h) (Or.inl ⟨by rfl, ?_⟩) ?_ ?_
          rotate_left
          · intro w'
            go_simp
            try with_reducible rfl
          rotate_left
          · simp only [Act.put, List.setIfInBounds_toArray, List.set_cons_zero, List.set_cons_succ, i64_w, i32_w]
            rfl
          refine pure_ (i := 5) (N := some 163) (v := ?_) (a' := ?_) #[true, true, true, true, true, true, false, false, false, false, false, false, false, false] rfl rfl (any_of HT_.out (by kernel_rfl)) (fun _ _ _ h => h) (Or.inl ⟨by rfl, ?_⟩) ?_ ?_
          rotate_left
          · intro w'
            go_simp
            try with_reducible rfl
          rotate_left
          · simp only [Act.put, List.setIfInBounds_toArray, List.set_cons_zero, List.set_cons_succ, i64_w, i32_w]
            rfl
          refine take_ (i := 6) (N := some 164) (v := ?_) (a' := ?_) #[true, true, true, true, true, true, true, false, false, false, false, false, false, false] rfl rfl (take_ofW HT_.out HW_.out (by kernel_rfl)) (fun _ _ _ h => h) (Or.inl ⟨by rfl, ?_⟩) hHeld ?_ ?_
          rotate_left
          · rintro w' ⟨s0, s1, s2, s3, s4, s5, s6, s7⟩
            go_simp
            with_reducible rfl
          rotate_left
          · simp only [Act.put, List.setIfInBounds_toArray, List.set_cons_zero, List.set_cons_succ, i64_w, i32_w]
            rfl
          refine pure_ (i := 7) (N := some 165) (v := ?_) (a' := ?_) #[true, true, true, true, true, true, true, true, false, false, false, false, false, false] rfl rfl (any_of HT_.out (by kernel_rfl)) (fun _ _ _ h => h) (Or.inl ⟨by rfl, ?_⟩) ?_ ?_
          rotate_left
          · intro w'
            go_simp
            try with_reducible rfl
          rotate_left
          · simp only [Act.put, List.setIfInBounds_toArray, List.set_cons_zero, List.set_cons_succ, i64_w, i32_w]
            rfl
          refine pure_ (i := 8) (N := some 166) (v := ?_) (a' := ?_) #[true, true, true, true, true, true, true, true, true, false, false, false, false, false] rfl rfl (any_of HT_.out (by kernel_rfl)) (fun _ _ _ h => h) (Or.inl ⟨by rfl, ?_⟩) ?_ ?_
          rotate_left
          · intro w'
            go_simp
            try with_reducible rfl
          rotate_left
          · simp only [Act.put, List.setIfInBounds_toArray, List.set_cons_zero, List.set_cons_succ, i64_w, i32_w]
            rfl
          refine pure_ (i := 9) (N := some 167) (v := ?_) (a' := ?_) #[true, true, true, true, true, true, true, true, true, true, false, false, false, false] rfl rfl (any_of HT_.out (by kernel_rfl)) (fun _ _ _ h => h) (Or.inl ⟨by rfl, ?_⟩) ?_ ?_
          rotate_left
          · intro w'
            go_simp
            try with_reducible rfl
          rotate_left
          · simp only [Act.put, List.setIfInBounds_toArray, List.set_cons_zero, List.set_cons_succ, i64_w, i32_w]
            rfl
          refine take_ (i := 10) (N := some 168) (v := ?_) (a' := ?_) #[true, true, true, true, true, true, true, true, true, true, true, false, false, false] rfl rfl (take_ofW HT_.out HW_.out (by kernel_rfl)) (fun _ _ _ h => h) (Or.inl ⟨by rfl, ?_⟩) hHeld ?_ ?_
          rotate_left
          · rintro w' ⟨s0, s1, s2, s3, s4, s5, s6, s7⟩
            go_simp
            with_reducible rfl
          rotate_left
          · simp only [Act.put, List.setIfInBounds_toArray, List.set_cons_zero, List.set_cons_succ, i64_w, i32_w]
            rfl
          refine one_ (i := 11) (N := some 169) #[true, true, true, true, true, true, true, true, true, true, true, true, false, false] rfl rfl (one_of HT_.out (by kernel_rfl)) (by decide) (fun K hK => ?_)
          refine goesC0_ 158 (by rfl) Try.func22 (by kernel_rfl) rfl #[.agg #[.int .i64 X.1.f0, .int .i64 X.1.f1, .slice Aa2 X.1.f2.length ca2, .slice Aa3 X.1.f3.length ca3], .agg #[.int .i64 Z.1.f0, .int .i64 Z.1.f1, .slice Ab2 Z.1.f2.length cb2, .slice Ab3 Z.1.f3.length cb3]] (by rfl) rfl rfl (by (try simp only [List.map_toArray, List.map_cons, List.map_nil]); first | done | rfl | (simp only [List.length_drop, List.length_take]; rfl)) ?_
          have hb_ : ∀ {w1 w2 : World}, Below w1.heap.size w1 w2 → Below w1.heap.size w1 w2 := fun h => h
          refine (impl_CompareValues.calls KC X.1.f0 X.1.f1 Aa2 ca2 X.1.f2 Aa3 ca3 X.1.f3 Z.1.f0 Z.1.f1 Ab2 cb2 Z.1.f2 Ab3 cb3 Z.1.f3 _ _ GA2.out.2 GA2.out.1 GA3.out.2 GA3.out.1 GB2.out.2 GB2.out.1 GB3.out.2 GB3.out.1 HC.out).mono ?_
          rintro e w2 ⟨rfl, hd⟩
          refine ⟨_, rfl, ?_⟩
          try replace hd := Drawn0.below hd
          replace HO := Aside0.mk (Kd.R_below HO.out hd)
          replace HB := Aside0.mk (below_step HB.out hd)
          replace HY := Aside0.mk (HY.out.trans (Only.below hd))
          replace PC := Aside0.mk (show w2.cell? ⟨g, pc * 4, none⟩ = some (.int .i64 X.1.f0) ∧ w2.cell? ⟨g, pc * 4 + 1, none⟩ = some (.int .i64 X.1.f1) ∧ w2.cell? ⟨g, pc * 4 + 2, none⟩ = some (.slice Aa2 X.1.f2.length ca2) ∧ w2.cell? ⟨g, pc * 4 + 3, none⟩ = some (.slice Aa3 X.1.f3.length ca3) ∧ w2.cell? ⟨g, h * 4, none⟩ = some (.int .i64 Z.1.f0) ∧ w2.cell? ⟨g, h * 4 + 1, none⟩ = some (.int .i64 Z.1.f1) ∧ w2.cell? ⟨g, h * 4 + 2, none⟩ = some (.slice Ab2 Z.1.f2.length cb2) ∧ w2.cell? ⟨g, h * 4 + 3, none⟩ = some (.slice Ab3 Z.1.f3.length cb3) from ⟨pw_cell_below hd PC.out.1, pw_cell_below hd PC.out.2.1, pw_cell_below hd PC.out.2.2.1, pw_cell_below hd PC.out.2.2.2.1, pw_cell_below hd PC.out.2.2.2.2.1, pw_cell_below hd PC.out.2.2.2.2.2.1, pw_cell_below hd PC.out.2.2.2.2.2.2.1, pw_cell_below hd PC.out.2.2.2.2.2.2.2⟩)
          clear hd
          refine hK.out _ _ PC.out (fun hHeld => ?_)
          clear hK K
          refine norm_ (a' := ?_) ?_ ?_
          rotate_left
          · show Act.put _ (some 169) _ = _
            simp only [Act.put, List.setIfInBounds_toArray, List.set_cons_zero, List.set_cons_succ, i64_w, i32_w]
            rfl
          refine pure_ (i := 12) (N := some 170) (v := ?_) (a' := ?_) #[true, true, true, true, true, true, true, true, true, true, true, true, true, false] rfl rfl (any_of HT_.out (by kernel_rfl)) (fun _ _ _ h => h) (Or.inl ⟨by rfl, ?_⟩) ?_ ?_
          rotate_left
          · intro w'
            go_simp
            try with_reducible rfl
          rotate_left
          · simp only [Act.put, List.setIfInBounds_toArray, List.set_cons_zero, List.set_cons_succ, i64_w, i32_w]
            rfl
          refine pure_ (i := 13) (N := some 171) (v := ?_) (a' := ?_) #[true, true, true, true, true, true, true, true, true, true, true, true, true, true] rfl rfl (any_of HT_.out (by kernel_rfl)) (fun _ _ _ h => h) (Or.inl ⟨by rfl, ?_⟩) ?_ ?_
          rotate_left
          · intro w'
            go_simp
            try with_reducible rfl
          rotate_left
          · simp only [Act.put, List.setIfInBounds_toArray, List.set_cons_zero, List.set_cons_succ, i64_w, i32_w]
            rfl
          refine done_ (done_of HT_.out (by kernel_rfl)) ?_
          clear HT_ HW_
          clear r7 hHeld PC GA2 GA3 GB2 GB3
          try go_wp2
          go_roundg (h - i)
          case measure => have := HJ.out; have := HD1.out; have := Eh.out; omega
          case rel => exact ⟨fb, i, h, rfl, rfl, ⟨by have := HJ.out.1; have := HD1.out; have := Eh.out; omega, rfl, by rw [← HJ.out.2.2]; exact (bs_no (p := fun c => !(ltP (xs.getD (mid + m - 1 - c) (z30, 0)) (xs.getD c (z30, 0)))) HD1.out Eh.out (by have q0 : ltP (xs.getD pc (z30, 0)) (xs.getD h (z30, 0)) = true := ltP_yes (by have q1 := HX.out; have q2 := HZ.out; have q3 := HE2.out; rw [q1, q2] at q3; first | exact q3 | omega); rw [Epc.out, Epp.out, Enn.out] at q0; (try dsimp only); rw [q0]; rfl)).symm⟩, HO, HB, HY⟩
        · have r7 : (cmT X.1 Z.1 < 0) = False := eq_false e2
          have HE2 := Aside0.mk e2
          clear e2
          refine start_ (n := 14) (S := fun w' => w'.cell? ⟨g, pc * 4, none⟩ = some (.int .i64 X.1.f0) ∧ w'.cell? ⟨g, pc * 4 + 1, none⟩ = some (.int .i64 X.1.f1) ∧ w'.cell? ⟨g, pc * 4 + 2, none⟩ = some (.slice Aa2 X.1.f2.length ca2) ∧ w'.cell? ⟨g, pc * 4 + 3, none⟩ = some (.slice Aa3 X.1.f3.length ca3) ∧ w'.cell? ⟨g, h * 4, none⟩ = some (.int .i64 Z.1.f0) ∧ w'.cell? ⟨g, h * 4 + 1, none⟩ = some (.int .i64 Z.1.f1) ∧ w'.cell? ⟨g, h * 4 + 2, none⟩ = some (.slice Ab2 Z.1.f2.length cb2) ∧ w'.cell? ⟨g, h * 4 + 3, none⟩ = some (.slice Ab3 Z.1.f3.length cb3)) (ds := []) #[false, false, false, false, false, false, false, false, false, false, false, false, false, false] (by kernel_rfl) rfl rfl PC.out (fun hHeld => ?_); refine with_tabW tabSym.tab35 tabSym.bits35 (fun HT_ HW_ => ?_)
          generalize World.drew _ = w1 at HO HB HY PC GA2 GA3 GB2 GB3 hHeld ⊢
          refine pure_ (i := 0) (N := some 158) (v := ?_) (a' := ?_) #[true, false, false, false, false, false, false, false, false, false, false, false, false, false] rfl rfl (any_of HT_.out (by kernel_rfl)) (fun _ _ _ h => h) (Or.inl ⟨by rfl, ?_⟩) ?_ ?_
          rotate_left
          · intro w'
            go_simp
            try with_reducible rfl
          rotate_left
          · simp only [Act.put, List.setIfInBounds_toArray, List.set_cons_zero, List.set_cons_succ, i64_w, i32_w]
            rfl
          refine pure_ (i := 1) (N := some 159) (v := ?_) (a' := ?_) #[true, true, false, false, false, false, false, false, false, false, false, false, false, false] rfl rfl (any_of HT_.out (by kernel_rfl)) (fun _ _ _ h => h) (Or.inl ⟨by rfl, ?_⟩) ?_ ?_
          rotate_left
          · intro w'
            go_simp
            try with_reducible rfl
          rotate_left
          · simp only [Act.put, List.setIfInBounds_toArray, List.set_cons_zero, List.set_cons_succ, i64_w, i32_w]
            rfl
          refine pure_ (i := 2) (N := some 160) (v := ?_) (a' := ?_) #[true, true, true, false, false, false, false, false, false, false, false, false, false, false] rfl rfl (any_of HT_.out (by kernel_rfl)) (fun _ _ _ h => h) (Or.inl ⟨by rfl, ?_⟩) ?_ ?_
          rotate_left
          · intro w'
            go_simp
            try with_reducible rfl
          rotate_left
          · simp only [Act.put, List.setIfInBounds_toArray, List.set_cons_zero, List.set_cons_succ, i64_w, i32_w]
            rfl
          refine pure_ (i := 3) (N := some 161) (v := ?_) (a' := ?_) #[true, true, true, true, false, false, false, false, false, false, false, false, false, false] rfl rfl (any_of HT_.out (by kernel_rfl)) (fun _ _ _ h => h) (Or.inl ⟨by rfl, ?_⟩) ?_ ?_
          rotate_left
          · intro w'
            go_simp
            try with_reducible rfl
          rotate_left
          · simp only [Act.put, List.setIfInBounds_toArray, List.set_cons_zero, List.set_cons_succ, i64_w, i32_w]
            rfl
          refine pure_ (i := 4) (N := some 162) (v := ?_) (a' := ?_) #[true, true, true, true, true, false, false, false, false, false, false, false, false, false] rfl rfl (any_of HT_.out (by kernel_rfl)) (fun _ _ _ h => h) (Or.inl ⟨by rfl, ?_⟩) ?_ ?_
          rotate_left
          · intro w'
            go_simp
            try with_reducible rfl
          rotate_left
          · simp only [Act.put, List.setIfInBounds_toArray, List.set_cons_zero, List.set_cons_succ, i64_w, i32_w]
            rfl
          refine pure_ (i := 5) (N := some 163) (v := ?_) (a' := ?_) #[true, true, true, true, true, true, false, false, false, false, false, false, false, false] rfl rfl (any_of HT_.out (by kernel_rfl)) (fun _ _ _ h => h) (Or.inl ⟨by rfl, ?_⟩) ?_ ?_
          rotate_left
          · intro w'
            go_simp
            try with_reducible rfl
          rotate_left
          · simp only [Act.put, List.setIfInBounds_toArray, List.set_cons_zero, List.set_cons_succ, i64_w, i32_w]
            rfl
          refine take_ (i := 6) (N := some 164) (v := ?_) (a' := ?_) #[true, true, true, true, true, true, true, false, false, false, false, false, false, false] rfl rfl (take_ofW HT_.out HW_.out (by kernel_rfl)) (fun _ _ _ h => h) (Or.inl ⟨by rfl, ?_⟩) hHeld ?_ ?_
          rotate_left
          · rintro w' ⟨s0, s1, s2, s3, s4, s5, s6, s7⟩
            go_simp
            with_reducible rfl
          rotate_left
          · simp only [Act.put, List.setIfInBounds_toArray, List.set_cons_zero, List.set_cons_succ, i64_w, i32_w]
            rfl
          refine pure_ (i := 7) (N := some 165) (v := ?_) (a' := ?_) #[true, true, true, true, true, true, true, true, false, false, false, false, false, false] rfl rfl (any_of HT_.out (by kernel_rfl)) (fun _ _ _ h => h) (Or.inl ⟨by rfl, ?_⟩) ?_ ?_
          rotate_left
          · intro w'
            go_simp
            try with_reducible rfl
          rotate_left
          · simp only [Act.put, List.setIfInBounds_toArray, List.set_cons_zero, List.set_cons_succ, i64_w, i32_w]
            rfl
          refine pure_ (i := 8) (N := some 166) (v := ?_) (a' := ?_) #[true, true, true, true, true, true, true, true, true, false, false, false, false, false] rfl rfl (any_of HT_.out (by kernel_rfl)) (fun _ _ _ h => h) (Or.inl ⟨by rfl, ?_⟩) ?_ ?_
          rotate_left
          · intro w'
            go_simp
            try with_reducible rfl
          rotate_left
          · simp only [Act.put, List.setIfInBounds_toArray, List.set_cons_zero, List.set_cons_succ, i64_w, i32_w]
            rfl
          refine pure_ (i := 9) (N := some 167) (v := ?_) (a' := ?_) #[true, true, true, true, true, true, true, true, true, true, false, false, false, false] rfl rfl (any_of HT_.out (by kernel_rfl)) (fun _ _ _ h => h) (Or.inl ⟨by rfl, ?_⟩) ?_ ?_
          rotate_left
          · intro w'
            go_simp
            try with_reducible rfl
          rotate_left
          · simp only [Act.put, List.setIfInBounds_toArray, List.set_cons_zero, List.set_cons_succ, i64_w, i32_w]
            rfl
          refine take_ (i := 10) (N := some 168) (v := ?_) (a' := ?_) #[true, true, true, true, true, true, true, true, true, true, true, false, false, false] rfl rfl (take_ofW HT_.out HW_.out (by kernel_rfl)) (fun _ _ _ h => h) (Or.inl ⟨by rfl, ?_⟩) hHeld ?_ ?_
          rotate_left
          · rintro w' ⟨s0, s1, s2, s3, s4, s5, s6, s7⟩
            go_simp
            with_reducible rfl
          rotate_left
          · simp only [Act.put, List.setIfInBounds_toArray, List.set_cons_zero, List.set_cons_succ, i64_w, i32_w]
            rfl
          refine one_ (i := 11) (N := some 169) #[true, true, true, true, true, true, true, true, true, true, true, true, false, false] rfl rfl (one_of HT_.out (by kernel_rfl)) (by decide) (fun K hK => ?_)
          refine goesC0_ 158 (by rfl) Try.func22 (by kernel_rfl) rfl #[.agg #[.int .i64 X.1.f0, .int .i64 X.1.f1, .slice Aa2 X.1.f2.length ca2, .slice Aa3 X.1.f3.length ca3], .agg #[.int .i64 Z.1.f0, .int .i64 Z.1.f1, .slice Ab2 Z.1.f2.length cb2, .slice Ab3 Z.1.f3.length cb3]] (by rfl) rfl rfl (by (try simp only [List.map_toArray, List.map_cons, List.map_nil]); first | done | rfl | (simp only [List.length_drop, List.length_take]; rfl)) ?_
          have hb_ : ∀ {w1 w2 : World}, Below w1.heap.size w1 w2 → Below w1.heap.size w1 w2 := fun h => h
          refine (impl_CompareValues.calls KC X.1.f0 X.1.f1 Aa2 ca2 X.1.f2 Aa3 ca3 X.1.f3 Z.1.f0 Z.1.f1 Ab2 cb2 Z.1.f2 Ab3 cb3 Z.1.f3 _ _ GA2.out.2 GA2.out.1 GA3.out.2 GA3.out.1 GB2.out.2 GB2.out.1 GB3.out.2 GB3.out.1 HC.out).mono ?_
          rintro e w2 ⟨rfl, hd⟩
          refine ⟨_, rfl, ?_⟩
          try replace hd := Drawn0.below hd
          replace HO := Aside0.mk (Kd.R_below HO.out hd)
          replace HB := Aside0.mk (below_step HB.out hd)
          replace HY := Aside0.mk (HY.out.trans (Only.below hd))
          replace PC := Aside0.mk (show w2.cell? ⟨g, pc * 4, none⟩ = some (.int .i64 X.1.f0) ∧ w2.cell? ⟨g, pc * 4 + 1, none⟩ = some (.int .i64 X.1.f1) ∧ w2.cell? ⟨g, pc * 4 + 2, none⟩ = some (.slice Aa2 X.1.f2.length ca2) ∧ w2.cell? ⟨g, pc * 4 + 3, none⟩ = some (.slice Aa3 X.1.f3.length ca3) ∧ w2.cell? ⟨g, h * 4, none⟩ = some (.int .i64 Z.1.f0) ∧ w2.cell? ⟨g, h * 4 + 1, none⟩ = some (.int .i64 Z.1.f1) ∧ w2.cell? ⟨g, h * 4 + 2, none⟩ = some (.slice Ab2 Z.1.f2.length cb2) ∧ w2.cell? ⟨g, h * 4 + 3, none⟩ = some (.slice Ab3 Z.1.f3.length cb3) from ⟨pw_cell_below hd PC.out.1, pw_cell_below hd PC.out.2.1, pw_cell_below hd PC.out.2.2.1, pw_cell_below hd PC.out.2.2.2.1, pw_cell_below hd PC.out.2.2.2.2.1, pw_cell_below hd PC.out.2.2.2.2.2.1, pw_cell_below hd PC.out.2.2.2.2.2.2.1, pw_cell_below hd PC.out.2.2.2.2.2.2.2⟩)
          clear hd
          refine hK.out _ _ PC.out (fun hHeld => ?_)
          clear hK K
          refine norm_ (a' := ?_) ?_ ?_
          rotate_left
          · show Act.put _ (some 169) _ = _
            simp only [Act.put, List.setIfInBounds_toArray, List.set_cons_zero, List.set_cons_succ, i64_w, i32_w]
            rfl
          refine pure_ (i := 12) (N := some 170) (v := ?_) (a' := ?_) #[true, true, true, true, true, true, true, true, true, true, true, true, true, false] rfl rfl (any_of HT_.out (by kernel_rfl)) (fun _ _ _ h => h) (Or.inl ⟨by rfl, ?_⟩) ?_ ?_
          rotate_left
          · intro w'
            go_simp
            try with_reducible rfl
          rotate_left
          · simp only [Act.put, List.setIfInBounds_toArray, List.set_cons_zero, List.set_cons_succ, i64_w, i32_w]
            rfl
          refine pure_ (i := 13) (N := some 171) (v := ?_) (a' := ?_) #[true, true, true, true, true, true, true, true, true, true, true, true, true, true] rfl rfl (any_of HT_.out (by kernel_rfl)) (fun _ _ _ h => h) (Or.inl ⟨by rfl, ?_⟩) ?_ ?_
          rotate_left
          · intro w'
            go_simp
            try with_reducible rfl
          rotate_left
          · simp only [Act.put, List.setIfInBounds_toArray, List.set_cons_zero, List.set_cons_succ, i64_w, i32_w]
            rfl
          refine done_ (done_of HT_.out (by kernel_rfl)) ?_
          clear HT_ HW_
          clear r7 hHeld PC GA2 GA3 GB2 GB3
          try go_wp2
          go_roundg (j - (h + 1))
          case measure => have := HJ.out; have := HD1.out; have := Eh.out; omega
          case rel => exact ⟨fb, h + 1, j, (by first | rfl | rw [hwh] | simp [hwh]), rfl, ⟨by have := HJ.out.1; have := HD1.out; have := Eh.out; omega, rfl, by rw [← HJ.out.2.2]; exact (bs_yes (p := fun c => !(ltP (xs.getD (mid + m - 1 - c) (z30, 0)) (xs.getD c (z30, 0)))) HD1.out Eh.out (by have q0 : ltP (xs.getD pc (z30, 0)) (xs.getD h (z30, 0)) = false := ltP_no (by have q1 := HX.out; have q2 := HZ.out; have q3 := HE2.out; rw [q1, q2] at q3; first | exact q3 | omega); rw [Epc.out, Epp.out, Enn.out] at q0; (try dsimp only); rw [q0]; rfl)).symm⟩, HO, HB, HY⟩
      · have HE : Aside0 (i = St.bs (fun c => !(ltP (xs.getD (mid + m - 1 - c) (z30, 0)) (xs.getD c (z30, 0)))) (b - a) s0 r0) := ⟨by rw [← HJ.out.2.2]; exact (bs_stop d1).symm⟩
        have d2 : ¬ ((i : Int) < (j : Int)) := by omega
        have d3 : decide ((i : Int) < (j : Int)) = false := decide_eq_false d2
        have HIR : Aside0 (s0 ≤ i ∧ i ≤ r0) := ⟨by have := HJ.out.1; omega⟩
        clear d1
        go_upto_region 39 with (fail)
        obtain ⟨e, he_⟩ : ∃ q : Nat, q = mid + m - i := ⟨_, rfl⟩
        have Ee := Aside0.mk he_
        clear he_
        have HEB : Aside0 (i ≤ m ∧ a ≤ i ∧ i ≤ mid ∧ m ≤ e ∧ mid ≤ e ∧ e ≤ b ∧ i + e = mid + m) := ⟨by have := Ee.out; have := HIR.out; have := HSR.out; have := HMI.out; have := HA.out; have := Emid.out; omega⟩
        have re : wrap64 ((nn : Int) - (i : Int)) = (e : Int) := by have := Ee.out; have := Enn.out; have := HEB.out; have := HA.out; have := HMI.out; have := HN.out; unfold wrap64; omega
        clear d2 d3
        by_cases kA : i < m
        · have HKA := Aside0.mk kA
          have tA0 : ((i : Int) < (m : Int)) = True := eq_true (by have := HEB.out; omega)
          have uA0 : decide ((i : Int) < (m : Int)) = true := by simp only [tA0]; rfl
          have tA1 : ((mid : Int) < (e : Int)) = True := eq_true (by have := HEB.out; omega)
          have uA1 : decide ((mid : Int) < (e : Int)) = true := by simp only [tA1]; rfl
          clear kA
          by_cases kB : m < e
          · have HKB := Aside0.mk kB
            have tB0 : ((m : Int) < (e : Int)) = True := eq_true (by have := HEB.out; omega)
            have uB0 : decide ((m : Int) < (e : Int)) = true := by simp only [tB0]; rfl
            have tB1 : ((i : Int) < (mid : Int)) = True := eq_true (by have := HEB.out; omega)
            have uB1 : decide ((i : Int) < (mid : Int)) = true := by simp only [tB1]; rfl
            clear kB
            by_cases kC : a < i
            · have HKC := Aside0.mk kC
              have tC0 : ((a : Int) < (i : Int)) = True := eq_true (by have := HEB.out; omega)
              have uC0 : decide ((a : Int) < (i : Int)) = true := by simp only [tC0]; rfl
              clear kC
              by_cases kD : e < b
              · have HKD := Aside0.mk kD
                have tD0 : ((e : Int) < (b : Int)) = True := eq_true (by have := HEB.out; omega)
                have uD0 : decide ((e : Int) < (b : Int)) = true := by simp only [tD0]; rfl
                clear kD
                go_wp2_with (fail)
                refine (rot_go fo w0 g n cap ok HG.out HN.out i m e (e - i) (by have := HEB.out; have := HA.out; have := HMI.out; have := HKA.out; have := HKB.out; have := HKC.out; have := HKD.out; omega) _ HS.out _ HO.out HB.out).mono ?_
                rintro e w2 ⟨rfl, hs2, ho2, hb2, hy2⟩
                (try refine ⟨_, rfl, ?_⟩)
                replace HO := Aside0.mk ho2; replace HB := Aside0.mk hb2; replace HY := Aside0.mk (HY.out.trans hy2)
                have HS2 := Aside0.mk hs2
                clear ho2 hb2 hy2 hs2
                go_wp2_with (fail)
                refine (IH.out a i mid (by have := HEB.out; have := HA.out; have := HMI.out; have := HKA.out; have := HKB.out; have := HKC.out; have := HKD.out; omega) _ HS2.out _ HO.out HB.out).mono ?_
                rintro e w2 ⟨rfl, hs2, ho2, hb2, hy2⟩
                (try refine ⟨_, rfl, ?_⟩)
                replace HO := Aside0.mk ho2; replace HB := Aside0.mk hb2; replace HY := Aside0.mk (HY.out.trans hy2)
                clear HS2
                have HS2 := Aside0.mk hs2
                clear ho2 hb2 hy2 hs2
                go_wp2_with (fail)
                refine (IH.out mid e b (by have := HEB.out; have := HA.out; have := HMI.out; have := HKA.out; have := HKB.out; have := HKC.out; have := HKD.out; omega) _ HS2.out _ HO.out HB.out).mono ?_
                rintro e w2 ⟨rfl, hs2, ho2, hb2, hy2⟩
                (try refine ⟨_, rfl, ?_⟩)
                replace HO := Aside0.mk ho2; replace HB := Aside0.mk hb2; replace HY := Aside0.mk (HY.out.trans hy2)
                clear HS2
                have HS2 := Aside0.mk hs2
                clear ho2 hb2 hy2 hs2
                go_wp2
                (first | go_ret | go_end0 | refine bodyPost_ret (results_none rfl _ _ _) rfl ?_ | (try rw [Exit.noGoto_ret]; go_ret))
                have hz := symM_three (f := f) H1.out H2.out Emid.out HSR.out HE.out Ee.out (if_pos (by have := HEB.out; have := HA.out; have := HMI.out; have := HKA.out; have := HKB.out; have := HKC.out; have := HKD.out; omega)).symm (if_pos (by have := HEB.out; have := HA.out; have := HMI.out; have := HKA.out; have := HKB.out; have := HKC.out; have := HKD.out; omega)).symm (if_pos (by have := HEB.out; have := HA.out; have := HMI.out; have := HKA.out; have := HKB.out; have := HKC.out; have := HKD.out; omega)).symm
                exact ⟨rfl, by rw [hz]; exact HS2.out, by rw [hz]; exact HO.out, HB.out, HY.out⟩
              · have HKD := Aside0.mk kD
                have tD0 : ((e : Int) < (b : Int)) = False := eq_false (by have := HEB.out; omega)
                have uD0 : decide ((e : Int) < (b : Int)) = false := by simp only [tD0]; rfl
                clear kD
                go_wp2_with (fail)
                refine (rot_go fo w0 g n cap ok HG.out HN.out i m e (e - i) (by have := HEB.out; have := HA.out; have := HMI.out; have := HKA.out; have := HKB.out; have := HKC.out; have := HKD.out; omega) _ HS.out _ HO.out HB.out).mono ?_
                rintro e w2 ⟨rfl, hs2, ho2, hb2, hy2⟩
                (try refine ⟨_, rfl, ?_⟩)
                replace HO := Aside0.mk ho2; replace HB := Aside0.mk hb2; replace HY := Aside0.mk (HY.out.trans hy2)
                have HS2 := Aside0.mk hs2
                clear ho2 hb2 hy2 hs2
                go_wp2_with (fail)
                refine (IH.out a i mid (by have := HEB.out; have := HA.out; have := HMI.out; have := HKA.out; have := HKB.out; have := HKC.out; have := HKD.out; omega) _ HS2.out _ HO.out HB.out).mono ?_
                rintro e w2 ⟨rfl, hs2, ho2, hb2, hy2⟩
                (try refine ⟨_, rfl, ?_⟩)
                replace HO := Aside0.mk ho2; replace HB := Aside0.mk hb2; replace HY := Aside0.mk (HY.out.trans hy2)
                clear HS2
                have HS2 := Aside0.mk hs2
                clear ho2 hb2 hy2 hs2
                go_wp2
                (first | go_ret | go_end0 | refine bodyPost_ret (results_none rfl _ _ _) rfl ?_ | (try rw [Exit.noGoto_ret]; go_ret))
                have hz := symM_three (f := f) H1.out H2.out Emid.out HSR.out HE.out Ee.out (if_pos (by have := HEB.out; have := HA.out; have := HMI.out; have := HKA.out; have := HKB.out; have := HKC.out; have := HKD.out; omega)).symm (if_pos (by have := HEB.out; have := HA.out; have := HMI.out; have := HKA.out; have := HKB.out; have := HKC.out; have := HKD.out; omega)).symm (if_neg (by have := HEB.out; have := HA.out; have := HMI.out; have := HKA.out; have := HKB.out; have := HKC.out; have := HKD.out; omega)).symm
                exact ⟨rfl, by rw [hz]; exact HS2.out, by rw [hz]; exact HO.out, HB.out, HY.out⟩
            · have HKC := Aside0.mk kC
              have tC0 : ((a : Int) < (i : Int)) = False := eq_false (by have := HEB.out; omega)
              have uC0 : decide ((a : Int) < (i : Int)) = false := by simp only [tC0]; rfl
              clear kC
              by_cases kD : e < b
              · have HKD := Aside0.mk kD
                have tD0 : ((e : Int) < (b : Int)) = True := eq_true (by have := HEB.out; omega)
                have uD0 : decide ((e : Int) < (b : Int)) = true := by simp only [tD0]; rfl
                clear kD
                go_wp2_with (fail)
                refine (rot_go fo w0 g n cap ok HG.out HN.out i m e (e - i) (by have := HEB.out; have := HA.out; have := HMI.out; have := HKA.out; have := HKB.out; have := HKC.out; have := HKD.out; omega) _ HS.out _ HO.out HB.out).mono ?_
                rintro e w2 ⟨rfl, hs2, ho2, hb2, hy2⟩
                (try refine ⟨_, rfl, ?_⟩)
                replace HO := Aside0.mk ho2; replace HB := Aside0.mk hb2; replace HY := Aside0.mk (HY.out.trans hy2)
                have HS2 := Aside0.mk hs2
                clear ho2 hb2 hy2 hs2
                go_wp2_with (fail)
                refine (IH.out mid e b (by have := HEB.out; have := HA.out; have := HMI.out; have := HKA.out; have := HKB.out; have := HKC.out; have := HKD.out; omega) _ HS2.out _ HO.out HB.out).mono ?_
                rintro e w2 ⟨rfl, hs2, ho2, hb2, hy2⟩
                (try refine ⟨_, rfl, ?_⟩)
                replace HO := Aside0.mk ho2; replace HB := Aside0.mk hb2; replace HY := Aside0.mk (HY.out.trans hy2)
                clear HS2
                have HS2 := Aside0.mk hs2
                clear ho2 hb2 hy2 hs2
                go_wp2
                (first | go_ret | go_end0 | refine bodyPost_ret (results_none rfl _ _ _) rfl ?_ | (try rw [Exit.noGoto_ret]; go_ret))
                have hz := symM_three (f := f) H1.out H2.out Emid.out HSR.out HE.out Ee.out (if_pos (by have := HEB.out; have := HA.out; have := HMI.out; have := HKA.out; have := HKB.out; have := HKC.out; have := HKD.out; omega)).symm (if_neg (by have := HEB.out; have := HA.out; have := HMI.out; have := HKA.out; have := HKB.out; have := HKC.out; have := HKD.out; omega)).symm (if_pos (by have := HEB.out; have := HA.out; have := HMI.out; have := HKA.out; have := HKB.out; have := HKC.out; have := HKD.out; omega)).symm
                exact ⟨rfl, by rw [hz]; exact HS2.out, by rw [hz]; exact HO.out, HB.out, HY.out⟩
              · have HKD := Aside0.mk kD
                have tD0 : ((e : Int) < (b : Int)) = False := eq_false (by have := HEB.out; omega)
                have uD0 : decide ((e : Int) < (b : Int)) = false := by simp only [tD0]; rfl
                clear kD
                go_wp2_with (fail)
                refine (rot_go fo w0 g n cap ok HG.out HN.out i m e (e - i) (by have := HEB.out; have := HA.out; have := HMI.out; have := HKA.out; have := HKB.out; have := HKC.out; have := HKD.out; omega) _ HS.out _ HO.out HB.out).mono ?_
                rintro e w2 ⟨rfl, hs2, ho2, hb2, hy2⟩
                (try refine ⟨_, rfl, ?_⟩)
                replace HO := Aside0.mk ho2; replace HB := Aside0.mk hb2; replace HY := Aside0.mk (HY.out.trans hy2)
                have HS2 := Aside0.mk hs2
                clear ho2 hb2 hy2 hs2
                go_wp2
                (first | go_ret | go_end0 | refine bodyPost_ret (results_none rfl _ _ _) rfl ?_ | (try rw [Exit.noGoto_ret]; go_ret))
                have hz := symM_three (f := f) H1.out H2.out Emid.out HSR.out HE.out Ee.out (if_pos (by have := HEB.out; have := HA.out; have := HMI.out; have := HKA.out; have := HKB.out; have := HKC.out; have := HKD.out; omega)).symm (if_neg (by have := HEB.out; have := HA.out; have := HMI.out; have := HKA.out; have := HKB.out; have := HKC.out; have := HKD.out; omega)).symm (if_neg (by have := HEB.out; have := HA.out; have := HMI.out; have := HKA.out; have := HKB.out; have := HKC.out; have := HKD.out; omega)).symm
                exact ⟨rfl, by rw [hz]; exact HS2.out, by rw [hz]; exact HO.out, HB.out, HY.out⟩
          · have HKB := Aside0.mk kB
            have tB0 : ((m : Int) < (e : Int)) = False := eq_false (by have := HEB.out; omega)
            have uB0 : decide ((m : Int) < (e : Int)) = false := by simp only [tB0]; rfl
            have tB1 : ((i : Int) < (mid : Int)) = False := eq_false (by have := HEB.out; omega)
            have uB1 : decide ((i : Int) < (mid : Int)) = false := by simp only [tB1]; rfl
            clear kB
            by_cases kC : a < i
            · have HKC := Aside0.mk kC
              have tC0 : ((a : Int) < (i : Int)) = True := eq_true (by have := HEB.out; omega)
              have uC0 : decide ((a : Int) < (i : Int)) = true := by simp only [tC0]; rfl
              clear kC
              by_cases kD : e < b
              · have HKD := Aside0.mk kD
                have tD0 : ((e : Int) < (b : Int)) = True := eq_true (by have := HEB.out; omega)
                have uD0 : decide ((e : Int) < (b : Int)) = true := by simp only [tD0]; rfl
                clear kD
                go_wp2_with (fail)
                refine (IH.out mid e b (by have := HEB.out; have := HA.out; have := HMI.out; have := HKA.out; have := HKB.out; have := HKC.out; have := HKD.out; omega) _ HS.out _ HO.out HB.out).mono ?_
                rintro e w2 ⟨rfl, hs2, ho2, hb2, hy2⟩
                (try refine ⟨_, rfl, ?_⟩)
                replace HO := Aside0.mk ho2; replace HB := Aside0.mk hb2; replace HY := Aside0.mk (HY.out.trans hy2)
                have HS2 := Aside0.mk hs2
                clear ho2 hb2 hy2 hs2
                go_wp2
                (first | go_ret | go_end0 | refine bodyPost_ret (results_none rfl _ _ _) rfl ?_ | (try rw [Exit.noGoto_ret]; go_ret))
                have hz := symM_three (f := f) H1.out H2.out Emid.out HSR.out HE.out Ee.out (if_neg (by have := HEB.out; have := HA.out; have := HMI.out; have := HKA.out; have := HKB.out; have := HKC.out; have := HKD.out; omega)).symm (if_neg (by have := HEB.out; have := HA.out; have := HMI.out; have := HKA.out; have := HKB.out; have := HKC.out; have := HKD.out; omega)).symm (if_pos (by have := HEB.out; have := HA.out; have := HMI.out; have := HKA.out; have := HKB.out; have := HKC.out; have := HKD.out; omega)).symm
                exact ⟨rfl, by rw [hz]; exact HS2.out, by rw [hz]; exact HO.out, HB.out, HY.out⟩
              · have HKD := Aside0.mk kD
                have tD0 : ((e : Int) < (b : Int)) = False := eq_false (by have := HEB.out; omega)
                have uD0 : decide ((e : Int) < (b : Int)) = false := by simp only [tD0]; rfl
                clear kD
                go_wp2
                (first | go_ret | go_end0 | refine bodyPost_ret (results_none rfl _ _ _) rfl ?_ | (try rw [Exit.noGoto_ret]; go_ret))
                have hz := symM_three (f := f) H1.out H2.out Emid.out HSR.out HE.out Ee.out (if_neg (by have := HEB.out; have := HA.out; have := HMI.out; have := HKA.out; have := HKB.out; have := HKC.out; have := HKD.out; omega)).symm (if_neg (by have := HEB.out; have := HA.out; have := HMI.out; have := HKA.out; have := HKB.out; have := HKC.out; have := HKD.out; omega)).symm (if_neg (by have := HEB.out; have := HA.out; have := HMI.out; have := HKA.out; have := HKB.out; have := HKC.out; have := HKD.out; omega)).symm
                exact ⟨rfl, by rw [hz]; exact HS.out, by rw [hz]; exact HO.out, HB.out, HY.out⟩
            · have HKC := Aside0.mk kC
              have tC0 : ((a : Int) < (i : Int)) = False := eq_false (by have := HEB.out; omega)
              have uC0 : decide ((a : Int) < (i : Int)) = false := by simp only [tC0]; rfl
              clear kC
              by_cases kD : e < b
              · have HKD := Aside0.mk kD
                have tD0 : ((e : Int) < (b : Int)) = True := eq_true (by have := HEB.out; omega)
                have uD0 : decide ((e : Int) < (b : Int)) = true := by simp only [tD0]; rfl
                clear kD
                go_wp2_with (fail)
                refine (IH.out mid e b (by have := HEB.out; have := HA.out; have := HMI.out; have := HKA.out; have := HKB.out; have := HKC.out; have := HKD.out; omega) _ HS.out _ HO.out HB.out).mono ?_
                rintro e w2 ⟨rfl, hs2, ho2, hb2, hy2⟩
                (try refine ⟨_, rfl, ?_⟩)
                replace HO := Aside0.mk ho2; replace HB := Aside0.mk hb2; replace HY := Aside0.mk (HY.out.trans hy2)
                have HS2 := Aside0.mk hs2
                clear ho2 hb2 hy2 hs2
                go_wp2
                (first | go_ret | go_end0 | refine bodyPost_ret (results_none rfl _ _ _) rfl ?_ | (try rw [Exit.noGoto_ret]; go_ret))
                have hz := symM_three (f := f) H1.out H2.out Emid.out HSR.out HE.out Ee.out (if_neg (by have := HEB.out; have := HA.out; have := HMI.out; have := HKA.out; have := HKB.out; have := HKC.out; have := HKD.out; omega)).symm (if_neg (by have := HEB.out; have := HA.out; have := HMI.out; have := HKA.out; have := HKB.out; have := HKC.out; have := HKD.out; omega)).symm (if_pos (by have := HEB.out; have := HA.out; have := HMI.out; have := HKA.out; have := HKB.out; have := HKC.out; have := HKD.out; omega)).symm
                exact ⟨rfl, by rw [hz]; exact HS2.out, by rw [hz]; exact HO.out, HB.out, HY.out⟩
              · have HKD := Aside0.mk kD
                have tD0 : ((e : Int) < (b : Int)) = False := eq_false (by have := HEB.out; omega)
                have uD0 : decide ((e : Int) < (b : Int)) = false := by simp only [tD0]; rfl
                clear kD
                go_wp2
                (first | go_ret | go_end0 | refine bodyPost_ret (results_none rfl _ _ _) rfl ?_ | (try rw [Exit.noGoto_ret]; go_ret))
                have hz := symM_three (f := f) H1.out H2.out Emid.out HSR.out HE.out Ee.out (if_neg (by have := HEB.out; have := HA.out; have := HMI.out; have := HKA.out; have := HKB.out; have := HKC.out; have := HKD.out; omega)).symm (if_neg (by have := HEB.out; have := HA.out; have := HMI.out; have := HKA.out; have := HKB.out; have := HKC.out; have := HKD.out; omega)).symm (if_neg (by have := HEB.out; have := HA.out; have := HMI.out; have := HKA.out; have := HKB.out; have := HKC.out; have := HKD.out; omega)).symm
                exact ⟨rfl, by rw [hz]; exact HS.out, by rw [hz]; exact HO.out, HB.out, HY.out⟩
        · have HKA := Aside0.mk kA
          have tA0 : ((i : Int) < (m : Int)) = False := eq_false (by have := HEB.out; omega)
          have uA0 : decide ((i : Int) < (m : Int)) = false := by simp only [tA0]; rfl
          have tA1 : ((mid : Int) < (e : Int)) = False := eq_false (by have := HEB.out; omega)
          have uA1 : decide ((mid : Int) < (e : Int)) = false := by simp only [tA1]; rfl
          clear kA
          by_cases kB : m < e
          · have HKB := Aside0.mk kB
            have tB0 : ((m : Int) < (e : Int)) = True := eq_true (by have := HEB.out; omega)
            have uB0 : decide ((m : Int) < (e : Int)) = true := by simp only [tB0]; rfl
            have tB1 : ((i : Int) < (mid : Int)) = True := eq_true (by have := HEB.out; omega)
            have uB1 : decide ((i : Int) < (mid : Int)) = true := by simp only [tB1]; rfl
            clear kB
            by_cases kC : a < i
            · have HKC := Aside0.mk kC
              have tC0 : ((a : Int) < (i : Int)) = True := eq_true (by have := HEB.out; omega)
              have uC0 : decide ((a : Int) < (i : Int)) = true := by simp only [tC0]; rfl
              clear kC
              go_wp2_with (fail)
              refine (IH.out a i mid (by have := HEB.out; have := HA.out; have := HMI.out; have := HKA.out; have := HKB.out; have := HKC.out; omega) _ HS.out _ HO.out HB.out).mono ?_
              rintro e w2 ⟨rfl, hs2, ho2, hb2, hy2⟩
              (try refine ⟨_, rfl, ?_⟩)
              replace HO := Aside0.mk ho2; replace HB := Aside0.mk hb2; replace HY := Aside0.mk (HY.out.trans hy2)
              have HS2 := Aside0.mk hs2
              clear ho2 hb2 hy2 hs2
              go_wp2
              (first | go_ret | go_end0 | refine bodyPost_ret (results_none rfl _ _ _) rfl ?_ | (try rw [Exit.noGoto_ret]; go_ret))
              have hz := symM_three (f := f) H1.out H2.out Emid.out HSR.out HE.out Ee.out (if_neg (by have := HEB.out; have := HA.out; have := HMI.out; have := HKA.out; have := HKB.out; have := HKC.out; omega)).symm (if_pos (by have := HEB.out; have := HA.out; have := HMI.out; have := HKA.out; have := HKB.out; have := HKC.out; omega)).symm (if_neg (by have := HEB.out; have := HA.out; have := HMI.out; have := HKA.out; have := HKB.out; have := HKC.out; omega)).symm
              exact ⟨rfl, by rw [hz]; exact HS2.out, by rw [hz]; exact HO.out, HB.out, HY.out⟩
            · have HKC := Aside0.mk kC
              have tC0 : ((a : Int) < (i : Int)) = False := eq_false (by have := HEB.out; omega)
              have uC0 : decide ((a : Int) < (i : Int)) = false := by simp only [tC0]; rfl
              clear kC
              go_wp2
              (first | go_ret | go_end0 | refine bodyPost_ret (results_none rfl _ _ _) rfl ?_ | (try rw [Exit.noGoto_ret]; go_ret))
              have hz := symM_three (f := f) H1.out H2.out Emid.out HSR.out HE.out Ee.out (if_neg (by have := HEB.out; have := HA.out; have := HMI.out; have := HKA.out; have := HKB.out; have := HKC.out; omega)).symm (if_neg (by have := HEB.out; have := HA.out; have := HMI.out; have := HKA.out; have := HKB.out; have := HKC.out; omega)).symm (if_neg (by have := HEB.out; have := HA.out; have := HMI.out; have := HKA.out; have := HKB.out; have := HKC.out; omega)).symm
              exact ⟨rfl, by rw [hz]; exact HS.out, by rw [hz]; exact HO.out, HB.out, HY.out⟩
          · have HKB := Aside0.mk kB
            have tB0 : ((m : Int) < (e : Int)) = False := eq_false (by have := HEB.out; omega)
            have uB0 : decide ((m : Int) < (e : Int)) = false := by simp only [tB0]; rfl
            have tB1 : ((i : Int) < (mid : Int)) = False := eq_false (by have := HEB.out; omega)
            have uB1 : decide ((i : Int) < (mid : Int)) = false := by simp only [tB1]; rfl
            clear kB
            by_cases kC : a < i
            · have HKC := Aside0.mk kC
              have tC0 : ((a : Int) < (i : Int)) = True := eq_true (by have := HEB.out; omega)
              have uC0 : decide ((a : Int) < (i : Int)) = true := by simp only [tC0]; rfl
              clear kC
              go_wp2
              (first | go_ret | go_end0 | refine bodyPost_ret (results_none rfl _ _ _) rfl ?_ | (try rw [Exit.noGoto_ret]; go_ret))
              have hz := symM_three (f := f) H1.out H2.out Emid.out HSR.out HE.out Ee.out (if_neg (by have := HEB.out; have := HA.out; have := HMI.out; have := HKA.out; have := HKB.out; have := HKC.out; omega)).symm (if_neg (by have := HEB.out; have := HA.out; have := HMI.out; have := HKA.out; have := HKB.out; have := HKC.out; omega)).symm (if_neg (by have := HEB.out; have := HA.out; have := HMI.out; have := HKA.out; have := HKB.out; have := HKC.out; omega)).symm
              exact ⟨rfl, by rw [hz]; exact HS.out, by rw [hz]; exact HO.out, HB.out, HY.out⟩
            · have HKC := Aside0.mk kC
              have tC0 : ((a : Int) < (i : Int)) = False := eq_false (by have := HEB.out; omega)
              have uC0 : decide ((a : Int) < (i : Int)) = false := by simp only [tC0]; rfl
              clear kC
              go_wp2
              (first | go_ret | go_end0 | refine bodyPost_ret (results_none rfl _ _ _) rfl ?_ | (try rw [Exit.noGoto_ret]; go_ret))
              have hz := symM_three (f := f) H1.out H2.out Emid.out HSR.out HE.out Ee.out (if_neg (by have := HEB.out; have := HA.out; have := HMI.out; have := HKA.out; have := HKB.out; have := HKC.out; omega)).symm (if_neg (by have := HEB.out; have := HA.out; have := HMI.out; have := HKA.out; have := HKB.out; have := HKC.out; omega)).symm (if_neg (by have := HEB.out; have := HA.out; have := HMI.out; have := HKA.out; have := HKB.out; have := HKC.out; omega)).symm
              exact ⟨rfl, by rw [hz]; exact HS.out, by rw [hz]; exact HO.out, HB.out, HY.out⟩
end Go.Proofs.Ytonimhfahjediaa.Pk
end
