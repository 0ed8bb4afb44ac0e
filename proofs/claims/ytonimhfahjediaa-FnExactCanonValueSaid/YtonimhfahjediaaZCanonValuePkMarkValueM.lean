/- Marks of Value: what markValueS and markValue do with rows that they are given to write. -/
import Derived.Test.YtonimhfahjediaaZCanonValueWTabM
import Derived.Test.YtonimhfahjediaaZCanonValuePk11M
import Derived.Test.YtonimhfahjediaaZCanonValuePlM
import Derived.Test.YtonimhfahjediaaZCanonValueWLastM
section
namespace Go.Proofs.Ytonimhfahjediaa.Pk
open Go.RowKit Go.Proofs.YtonimhfahjediaaW.PrintWords Go.Proofs.YtonimhfahjediaaW.PrintLast Go.Proofs.Ytonimhfahjediaa.Pl Go.Proofs.Ytonimhfahjediaa.Ext
set_option linter.unusedVariables false
set_option linter.unusedSimpArgs false
mutual
def cnValue : S30 → Nat
  | ⟨x0, x1, x2, x3⟩ => 2 + x2.length + cnValueS x3
def cnValueS : List S30 → Nat
  | [] => 0
  | x :: r => cnValue x + cnValueS r
end
mutual
noncomputable def mkValue : S30 → Int → S30
  | ⟨x0, x1, x2, x3⟩, a => ⟨a, a + 1, mtS (a + 2) x2.length, mkValueS x3 (a + 2 + (x2.length : Nat))⟩
noncomputable def mkValueS : List S30 → Int → List S30
  | [], _ => []
  | x :: r, a => mkValue x a :: mkValueS r (a + cnValue x)
end
theorem cnValue_eq (x : S30) : cnValue x = 2 + x.f2.length + cnValueS x.f3 := by cases x; simp only [cnValue]
theorem mkValue_eq (x : S30) (a : Int) : mkValue x a = ⟨a, a + 1, mtS (a + 2) x.f2.length, mkValueS x.f3 (a + 2 + (x.f2.length : Nat))⟩ := by cases x; simp only [mkValue]
theorem mkValueS_length : ∀ (xs : List S30) (a : Int), (mkValueS xs a).length = xs.length
  | [], _ => rfl
  | x :: r, a => by simp [mkValueS, mkValueS_length r]
theorem cnValueS_append : ∀ xs ys : List S30, cnValueS (xs ++ ys) = cnValueS xs + cnValueS ys
  | [], ys => by simp [cnValueS]
  | x :: r, ys => by simp only [List.cons_append, cnValueS, cnValueS_append r ys]; omega
theorem mkValueS_append : ∀ (xs ys : List S30) (a : Int), mkValueS (xs ++ ys) a = mkValueS xs a ++ mkValueS ys (a + cnValueS xs)
  | [], ys, a => by simp [mkValueS, cnValueS]
  | x :: r, ys, a => by
    simp only [List.cons_append, mkValueS, mkValueS_append r ys, cnValueS]
    rw [show a + cnValue x + (cnValueS r : Int) = a + ((cnValue x + cnValueS r : Nat) : Int) by omega]
theorem cnValueS_take (xs : List S30) (i : Nat) (h : i < xs.length) : cnValueS (xs.take (i + 1)) = cnValueS (xs.take i) + cnValue (xs.getD i z30) := by
  rw [List.take_succ_eq_append_getElem h, cnValueS_append]
  simp [cnValueS, List.getD_eq_getElem?_getD, h]
theorem cnValueS_take_le (xs : List S30) (i : Nat) : cnValueS (xs.take i) ≤ cnValueS xs := by
  have := cnValueS_append (xs.take i) (xs.drop i)
  rw [List.take_append_drop] at this
  omega
theorem mkValueS_step (xs : List S30) (i : Nat) (h : i < xs.length) (a : Int) : (mkValueS (xs.take i) a ++ xs.drop i).set i (mkValue (xs.getD i z30) (a + cnValueS (xs.take i))) = mkValueS (xs.take (i + 1)) a ++ xs.drop (i + 1) := by
  have hl : (mkValueS (xs.take i) a).length = i := by rw [mkValueS_length, List.length_take]; omega
  rw [List.set_append, if_neg (by omega), hl, Nat.sub_self, List.drop_eq_getElem_cons h, List.set_cons_zero, List.take_succ_eq_append_getElem h, mkValueS_append]
  simp [mkValueS, List.getD_eq_getElem?_getD, h]
theorem mkValueS_at (xs : List S30) (i : Nat) (h : i < xs.length) (a : Int) : (mkValueS (xs.take i) a ++ xs.drop i).getD i z30 = xs.getD i z30 := by
  have hl : (mkValueS (xs.take i) a).length = i := by rw [mkValueS_length, List.length_take]; omega
  rw [List.getD_eq_getElem?_getD, List.getElem?_append_right (by omega), hl, Nat.sub_self, List.getElem?_drop, Nat.add_zero, List.getD_eq_getElem?_getD]
theorem mkValueS_len (xs : List S30) (i : Nat) (a : Int) : (mkValueS (xs.take i) a ++ xs.drop i).length = xs.length := by
  rw [List.length_append, mkValueS_length, List.length_take, List.length_drop]; omega
/-- What markValueS does with the row xs. -/
def MarksValueS (xs : List S30) : Prop :=
  ∀ (a : Int) (v : Value) (ok : Nat → Prop) (w0 w : World), 0 ≤ a → a + cnValueS xs ≤ 4611686018427387000 → Below w0.heap.size w0 w → Kd.S k30 30 w w0.heap.size ok v xs →
    Calls Try.prog 30 #[v, .int .i64 a] w fun e w' => e = .returned (.int .i64 (a + cnValueS xs)) ∧ Kd.S k30 30 w' w0.heap.size ok v (mkValueS xs a) ∧ Below w0.heap.size w0 w' ∧ Kept w w' ok
theorem MarksValueS.go {xs : List S30} (h : MarksValueS xs) (a : Int) (v : Value) (ok : Nat → Prop) (w0 w : World) (h0 : 0 ≤ a) (hb : a + cnValueS xs ≤ 4611686018427387000) (hB : Below w0.heap.size w0 w) (ho : Kd.S k30 30 w w0.heap.size ok v xs) :
    Calls Try.prog 30 #[v, .int .i64 a] w fun e w' => e = .returned (.int .i64 (a + cnValueS xs)) ∧ Kd.S k30 30 w' w0.heap.size ok v (mkValueS xs a) ∧ Below w0.heap.size w0 w' ∧ Kept w w' ok := h a v ok w0 w h0 hb hB ho
set_option maxHeartbeats 8000000 in
set_option maxRecDepth 100000 in
theorem marksValueS_step (xs : List S30) (hn : xs.length ≤ 1048576) (hx : ∀ y ∈ xs, y.f2.length ≤ 1048576 ∧ MarksValueS y.f3) : MarksValueS xs := by
  intro a v ok w0 w h0 hb hB ho
  have HO := Aside0.mk ho
  have HB := Aside0.mk hB
  have HK := Aside0.mk (Kept.refl w ok)
  have HX := Aside0.mk hx
  have HA := Aside0.mk (And.intro h0 (And.intro hb hn))
  clear ho hB hx h0 hb hn
  go_enter Try.func30, Try.ntmps30
  go_wp2
  go_loopg [1, 5] xs.length (fun kq v1 v5 w' => ∃ (b i : Int) (L : List S30), v1 = .int .i64 b ∧ v5 = .int .i64 i ∧ Aside0 (0 ≤ i ∧ i + kq = xs.length ∧ b = a + cnValueS (xs.take i.toNat)) ∧ Aside0 (L = mkValueS (xs.take i.toNat) a ++ xs.drop i.toNat) ∧ Aside0 (Kd.S k30 30 w' w0.heap.size ok v L) ∧ Aside0 (Below w0.heap.size w0 w') ∧ Aside0 (Kept w w' ok))
  case atStart => exact ⟨a, 0, xs, rfl, rfl, ⟨by omega, by omega, by simp [cnValueS]⟩, ⟨by simp [mkValueS]⟩, HO, HB, HK⟩
  case round =>
    clear HO HB HK
    obtain ⟨b, i, L, rfl, rfl, HI, HLE, HO, HB, HK⟩ := hrel
    obtain ⟨Ao, co, eo⟩ := Kd.S_slice HO.out
    have hlen : L.length = xs.length := by rw [HLE.out]; exact mkValueS_len xs i.toNat a
    rw [hlen] at eo
    have HL := Aside0.mk hlen
    clear hlen
    subst eo
    by_cases hlt : i < (xs.length : Int)
    · have hd : decide (i < (xs.length : Int)) = true := decide_eq_true hlt
      have hi0 : (0 ≤ i) = True := eq_true HI.out.1
      have hi1 : (i < (xs.length : Int)) = True := eq_true hlt
      have HLT := Aside0.mk (show i.toNat < xs.length by have := HI.out.1; omega)
      obtain ⟨g, cap, eg, gb, gl, HG⟩ := Kd.S_form HO.out (by rw [HL.out]; have := HLT.out; omega)
      rw [HL.out] at eg
      injection eg with ea _ ec
      subst ea ec
      have GB := Aside0.mk gb
      clear gb gl HG
      obtain ⟨oki, c, hcl, hM, hcc, hfr, hoki, hH⟩ := Kd.S_elem HO.out z30 i HI.out.1 (by exact hlt)
      rw [HLE.out, mkValueS_at xs i.toNat HLT.out a] at hM
      generalize hxe : xs.getD i.toNat z30 = x at hM
      have HXE := Aside0.mk hxe
      have hxm : x ∈ xs := by rw [← hxe]; exact mem_getD xs z30 _ HLT.out
      have HXL := Aside0.mk (HX.out x hxm)
      clear hxe hxm
      obtain ⟨v2, v3, o2, o3, rfl, s2, s3, d12, g2, g3⟩ := k30_openA hM
      have HH := Aside0.mk hH
      have H2 := Aside0.mk g2
      have HS2 := Aside0.mk s2
      have H3 := Aside0.mk g3
      have HS3 := Aside0.mk s3
      have HD := Aside0.mk d12
      have HOK := Aside0.mk (show ok g from (Kd.S_R HO.out).1 g rfl)
      have HOI := Aside0.mk hoki
      have HLT2 := Aside0.mk hlt
      have HE := Aside0.mk (show b + cnValue x ≤ a + cnValueS xs ∧ b = a + cnValueS (xs.take i.toNat) ∧ 0 ≤ b ∧ 0 ≤ a ∧ a + cnValueS xs ≤ 4611686018427387000 by
        have e1 := cnValueS_take xs i.toNat HLT.out
        have e2 := cnValueS_take_le xs (i.toNat + 1)
        rw [HXE.out] at e1
        have := HI.out; have := HA.out
        refine ⟨by omega, by omega, by omega, by omega, by omega⟩)
      have HW1 := Aside0.mk (show wrap64 (b + 1) = b + 1 by have := HE.out; have := cnValue_eq x; unfold wrap64; omega)
      have HW2 := Aside0.mk (show wrap64 (wrap64 (b + 1) + 1) = b + 2 by rw [HW1.out]; have := HE.out; have := cnValue_eq x; unfold wrap64; omega)
      have HV2 := Aside0.mk (show wrap64 (b + 1 + 1) = b + 2 by have := HE.out; have := cnValue_eq x; unfold wrap64; omega)
      clear hcl hM hcc hfr hoki hH hlt HO s2 g2 s3 g3 d12
      have hx : wr.cell? ⟨g, i.toNat * 4, none⟩ = some (.int .i64 x.f0) := (Ow.H_cells HH.out HI.out.1 HLT2.out).1 0 _ rfl
      have hf : wr.frozen? ⟨g, i.toNat * 4, none⟩ = false := (Ow.H_cells HH.out HI.out.1 HLT2.out).2 0
      go_wp2_with (first
        | ((with_reducible refine gate_store (t := 3) (p := 16) rfl ?_)
           refine store_event (t := 3) (p := 16) (v := ?vo_w3) (w1 := (wr.setCell ⟨g, i.toNat * 4, none⟩ (.int .i64 b))) ?hg ?ho ?hn ?hr ?_; (case ho => rfl); (case hg => rfl); (case hn => rfl); (case hr => first | (go_simp; done) | (go_simp; rfl)); intro w3 hw
           have hseg := Kd.H_seg HH.out HI.out.1 HLT2.out (seg := [.int .i64 b]) (j := 0) (show 0 + 1 ≤ 4 by decide) (fun q hq => by rw [List.mem_singleton.1 hq]; rfl)
           have hg : wr.grownBy w3 (some g) := by rw [hw]; exact hseg.2
           have n0 := (show Kd.H k30 30 w3 w0.heap.size ok (.slice (some ⟨g, 0, none⟩) xs.length co) L i oki [.int .i64 b, .int .i64 x.f1, v2, v3] by rw [hw]; exact hseg.1)
           have n1 := Kd.R_grown H2.out hg (fun k hk e => (HOI.out k (HS2.out k hk)).2 (by injection e))
           have n2 := Kd.S_grown H3.out hg (fun k hk e => (HOI.out k (HS3.out k hk)).2 (by injection e))
           have n3 := (show Below w0.heap.size w0 w3 by rw [hw]; exact below_set HB.out GB.out)
           have n4 := Kept.of_grown hg HK.out (fun k e => .inl (by injection e with e; exact e ▸ HOK.out))
           clear HH H2 H3 HB HK
           (try clear hx)
           (try clear hf)
           have HH := Aside0.mk n0; have H2 := Aside0.mk n1; have H3 := Aside0.mk n2; have HB := Aside0.mk n3; have HK := Aside0.mk n4
           clear n0 n1 n2 n3 n4
           clear hw hg hseg
           have hx : w3.cell? ⟨g, i.toNat * 4 + 1, none⟩ = some (.int .i64 x.f1) := (Ow.H_cells HH.out HI.out.1 HLT2.out).1 1 _ rfl
           have hf : w3.frozen? ⟨g, i.toNat * 4 + 1, none⟩ = false := (Ow.H_cells HH.out HI.out.1 HLT2.out).2 1)
        | ((with_reducible refine gate_store (t := 3) (p := 23) rfl ?_)
           refine store_event (t := 3) (p := 23) (v := ?vo_w4) (w1 := (w3.setCell ⟨g, i.toNat * 4 + 1, none⟩ (.int .i64 (wrap64 (b + 1))))) ?hg ?ho ?hn ?hr ?_; (case ho => rfl); (case hg => rfl); (case hn => rfl); (case hr => first | (go_simp; done) | (go_simp; rfl)); intro w4 hw
           have hseg := Kd.H_seg HH.out HI.out.1 HLT2.out (seg := [.int .i64 (wrap64 (b + 1))]) (j := 1) (show 1 + 1 ≤ 4 by decide) (fun q hq => by rw [List.mem_singleton.1 hq]; rfl)
           have hg : w3.grownBy w4 (some g) := by rw [hw]; exact hseg.2
           have n0 := (show Kd.H k30 30 w4 w0.heap.size ok (.slice (some ⟨g, 0, none⟩) xs.length co) L i oki [.int .i64 b, .int .i64 (wrap64 (b + 1)), v2, v3] by rw [hw]; exact hseg.1)
           have n1 := Kd.R_grown H2.out hg (fun k hk e => (HOI.out k (HS2.out k hk)).2 (by injection e))
           have n2 := Kd.S_grown H3.out hg (fun k hk e => (HOI.out k (HS3.out k hk)).2 (by injection e))
           have n3 := (show Below w0.heap.size w0 w4 by rw [hw]; exact below_set HB.out GB.out)
           have n4 := Kept.of_grown hg HK.out (fun k e => .inl (by injection e with e; exact e ▸ HOK.out))
           clear HH H2 H3 HB HK
           (try clear hx)
           (try clear hf)
           have HH := Aside0.mk n0; have H2 := Aside0.mk n1; have H3 := Aside0.mk n2; have HB := Aside0.mk n3; have HK := Aside0.mk n4
           clear n0 n1 n2 n3 n4
           clear hw hg hseg
           have hx : w4.cell? ⟨g, i.toNat * 4 + 2, none⟩ = some (v2) := (Ow.H_cells HH.out HI.out.1 HLT2.out).1 2 _ rfl)
        | ((with_reducible refine gate_callee (f := 29) rfl ?_)
           refine goesL_ (some 32) rfl rfl Try.func29 (by kernel_rfl) rfl #[v2, .int .i64 (wrap64 (wrap64 (b + 1) + 1))] rfl (by (try simp only [List.map_toArray, List.map_cons, List.map_nil]); first | done | rfl) ?_
           (with_reducible refine (markStringS_own x.f2 (Nat.le_trans HXL.out.1 (by decide)) (wrap64 (wrap64 (b + 1) + 1)) (by rw [HW2.out]; have := HE.out; omega) (by rw [HW2.out]; have := HE.out; have := cnValue_eq x; omega) v2 o2 w0 _ HB.out H2.out).mono ?_)
           rintro e w5 ⟨rfl, hr, hb, hk⟩
           refine ⟨_, rfl, ?_⟩
           have n0 := Kd.H_kept HH.out hk (fun k hk hn h1 => hn (HS2.out k h1))
           have n1 := hr
           have n2 := Kd.S_kept H3.out hk (fun k hk h1 => HD.out k h1 hk)
           have n3 := hb
           have n4 := HK.out.then_ hk (fun k h1 => .inl (HOI.out k (HS2.out k h1)).1)
           clear HH H2 H3 HB HK
           (try clear hx)
           (try clear hf)
           have HH := Aside0.mk n0; have H2 := Aside0.mk n1; have H3 := Aside0.mk n2; have HB := Aside0.mk n3; have HK := Aside0.mk n4
           clear n0 n1 n2 n3 n4
           clear hr hb hk
           have hx : w5.cell? ⟨g, i.toNat * 4 + 3, none⟩ = some (v3) := (Ow.H_cells HH.out HI.out.1 HLT2.out).1 3 _ rfl)
        | ((with_reducible refine gate_callee (f := 30) rfl ?_)
           refine goesL_ (some 39) rfl rfl Try.func30 (by kernel_rfl) rfl #[v3, .int .i64 (wrap64 (wrap64 (b + 1) + 1) + (x.f2.length : Nat))] rfl (by (try simp only [List.map_toArray, List.map_cons, List.map_nil]); first | done | rfl) ?_
           (with_reducible refine (MarksValueS.go HXL.out.2 (wrap64 (wrap64 (b + 1) + 1) + (x.f2.length : Nat)) v3 o3 w0 _ (by rw [HW2.out]; have := HE.out; omega) (by rw [HW2.out]; have := HE.out; have := cnValue_eq x; omega) HB.out H3.out).mono ?_)
           rintro e w6 ⟨rfl, hr, hb, hk⟩
           refine ⟨_, rfl, ?_⟩
           have n0 := Kd.H_kept HH.out hk (fun k hk hn h1 => hn (HS3.out k h1))
           have n1 := Kd.R_kept H2.out hk (fun k hk h1 => HD.out k hk h1)
           have n2 := hr
           have n3 := hb
           have n4 := HK.out.then_ hk (fun k h1 => .inl (HOI.out k (HS3.out k h1)).1)
           clear HH H2 H3 HB HK
           (try clear hx)
           (try clear hf)
           have HH := Aside0.mk n0; have H2 := Aside0.mk n1; have H3 := Aside0.mk n2; have HB := Aside0.mk n3; have HK := Aside0.mk n4
           clear n0 n1 n2 n3 n4
           clear hr hb hk))
      obtain ⟨k1, rfl⟩ : ∃ m, gk = m + 1 := ⟨gk - 1, by have := HI.out; have := HLT2.out; omega⟩
      go_roundg k1
      case measure => omega
      case rel =>
        have hM2 := k30_mkA _ w0.heap.size oki (⟨b, wrap64 (b + 1), mtS (wrap64 (wrap64 (b + 1) + 1)) x.f2.length, mkValueS x.f3 (wrap64 (wrap64 (b + 1) + 1) + (x.f2.length : Nat))⟩ : S30) (Kd.R_mono H2.out HS2.out) (Kd.S_mono H3.out (fun k hk => ⟨HS3.out k hk, fun e => HD.out k (H2.out.1 k e.symm) hk⟩))
        have hS := Kd.H_back HH.out hM2 (fun _ hk => hk)
        have hz : i.toNat + 1 = (wrap64 (i + 1)).toNat := by have := HI.out; have := HLT2.out; have := HA.out; unfold wrap64; omega
        have hw1 : wrap64 (i + 1) = i + 1 := by have := HI.out; have := HLT2.out; have := HA.out; unfold wrap64; omega
        refine ⟨wrap64 (wrap64 (b + 1) + 1) + (x.f2.length : Nat) + (cnValueS x.f3 : Nat), wrap64 (i + 1), _, rfl, rfl, ⟨by omega, ?_, ?_⟩, ⟨?_⟩, ⟨hS⟩, HB, HK⟩
        · have := HI.out; have := HLT2.out; omega
        · rw [← hz, cnValueS_take xs i.toNat HLT.out, HXE.out, cnValue_eq]; (try simp only [HW1.out, HV2.out]); have := HE.out; omega
        · rw [← hz, ← mkValueS_step xs i.toNat HLT.out a, HXE.out, mkValue_eq, ← HE.out.2.1, HLE.out]; (try simp only [HW1.out, HV2.out])
    · have hd : decide (i < (xs.length : Int)) = false := decide_eq_false hlt
      have HT := Aside0.mk (show i.toNat = xs.length by have := HI.out; omega)
      clear hlt
      go_wp2
      go_ret
      refine ⟨?_, ?_, HB.out, HK.out⟩
      · rw [HI.out.2.2, HT.out, List.take_of_length_le (Nat.le_refl _)]
        rfl
      · have := HO.out
        rw [HLE.out, HT.out, List.take_of_length_le (Nat.le_refl _), List.drop_of_length_le (Nat.le_refl _), List.append_nil] at this
        exact this
/-- All rows inside are short. -/
inductive LnValue : S30 → Prop
  | mk {x : S30} : x.f2.length ≤ 1048576 → x.f3.length ≤ 1048576 → (∀ y ∈ x.f3, LnValue y) → LnValue x
theorem LnValue.all {x : S30} (h : LnValue x) : x.f2.length ≤ 1048576 ∧ x.f3.length ≤ 1048576 ∧ ∀ y ∈ x.f3, LnValue y := by cases h; exact ⟨by assumption, by assumption, by assumption⟩
theorem marksValue_in : ∀ x : S30, LnValue x → MarksValueS x.f3 := by
  refine indValueI fun x ih hx => ?_
  exact marksValueS_step x.f3 hx.all.2.1 (fun y hy => ⟨(hx.all.2.2 y hy).all.1, ih y hy (hx.all.2.2 y hy)⟩)
theorem marksValueS (xs : List S30) (hn : xs.length ≤ 1048576) (hx : ∀ y ∈ xs, LnValue y) : MarksValueS xs := marksValueS_step xs hn (fun y hy => ⟨(hx y hy).all.1, marksValue_in y (hx y hy)⟩)
theorem lnValue_of : ∀ x : S30, SmValue x → LnValue x := by
  refine indValueI fun x ih hx => ?_
  exact LnValue.mk hx.p2.1 hx.p3.1 (fun y hy => ih y hy (hx.p3.2 y hy))
theorem cnValue_cv : ∀ x : S25, cnValue (cvValue x) ≤ 2 * (wtValue x + 1) := by
  refine indValueL fun x ih => ?_
  rw [cnValue_eq, cvValue_eq, wtValue_eq]
  have hL : ∀ l : List S25, (∀ y ∈ l, cnValue (cvValue y) ≤ 2 * (wtValue y + 1)) → cnValueS (l.map cvValue) ≤ 2 * (l.length + (l.map wtValue).sum) := by
    intro l
    induction l with
    | nil => intro _; simp [cnValueS]
    | cons y r ih2 =>
      intro h
      have h1 := h y (List.mem_cons_self ..)
      have h2 := ih2 (fun z hz => h z (List.mem_cons_of_mem _ hz))
      simp only [List.map_cons, cnValueS, List.sum_cons, List.length_cons] at h2 ⊢
      omega
  have := hL x.f3 ih
  (try dsimp only)
  rw [cvValueS_map, wtValueS_sum]
  unfold wts
  omega
theorem mkValueS_getD : ∀ (xs : List S30) (i : Nat) (a : Int), i < xs.length → (mkValueS xs a).getD i z30 = mkValue (xs.getD i z30) (a + cnValueS (xs.take i))
  | [], i, _, h => absurd h (by simp)
  | x :: r, 0, a, _ => by simp [mkValueS, cnValueS]
  | x :: r, i + 1, a, h => by
    have := mkValueS_getD r i (a + cnValue x) (by simpa using h)
    simp only [mkValueS, List.getD_cons_succ, List.take_succ_cons, cnValueS, this]
    congr 1
    omega
theorem heldValueS_step (xs : List S30) (hn : xs.length ≤ 1048576) (hx : ∀ y ∈ xs, y.f2.length ≤ 1048576 ∧ (∀ a : Int, 0 ≤ a → a + cnValueS y.f3 ≤ 4611686018427387000 → Ev (fun k => laws_heldValueS.f k (mkValueS y.f3 a) a) (a + cnValueS y.f3))) (a : Int) (h0 : 0 ≤ a) (hb : a + cnValueS xs ≤ 4611686018427387000) : Ev (fun k => laws_heldValueS.f k (mkValueS xs a) a) (a + cnValueS xs) := by
  suffices h : ∀ m i, i + m = xs.length → Ev (fun k => laws_heldValueS.l0 k (mkValueS xs a) (a + cnValueS (xs.take i)) (i : Int)) (a + cnValueS xs) by
    have := h xs.length 0 (by omega)
    first
    | (refine Ev.up ?_; simp only [laws_heldValueS.f]; simpa [cnValueS] using this)
    | (simp only [laws_heldValueS.f]; simpa [cnValueS] using this)
  intro m
  induction m with
  | zero =>
    intro i hi
    refine Ev.up ?_
    simp only [laws_heldValueS.l0, mkValueS_length]
    refine Ev.neg (by omega) (Ev.const ?_)
    rw [List.take_of_length_le (by omega)]
  | succ m ih =>
    intro i hi
    have hlt : i < xs.length := by omega
    have e1 := cnValueS_take xs i hlt
    have e2 := cnValueS_take_le xs (i + 1)
    have hg : rd_T30 (mkValueS xs a) (i : Int) = mkValue (xs.getD i z30) (a + cnValueS (xs.take i)) := mkValueS_getD xs i a hlt
    have hh := hx _ (mem_getD xs z30 i hlt)
    have ih2 := ih (i + 1) (by omega)
    rw [e1] at ih2
    generalize xs.getD i z30 = y at hg hh e1 ih2
    have e3 := cnValue_eq y
    generalize hbb : a + (cnValueS (xs.take i) : Int) = b at hg
    have hbe : b + cnValue y ≤ a + cnValueS xs ∧ 0 ≤ b := ⟨by omega, by omega⟩
    refine Ev.up ?_
    simp only [laws_heldValueS.l0, mkValueS_length, hg, mkValue_eq]
    refine Ev.pos (by omega) (Ev.pos (by omega) ?_)
    have v1 : wrap64 (b + 1) = b + 1 := (w64 (by omega) (by omega)).trans (by omega)
    have v2 : wrap64 ((b + 1) + 1) = b + 2 := (w64 (by omega) (by omega)).trans (by omega)
    simp only [v1, v2]
    refine Ev.pos (by first | exact trivial | rfl) ?_
    refine Ev.pos (by first | exact trivial | rfl) ?_
    refine Ev.bind (heldStringS_ev y.f2.length (Nat.le_trans hh.1 (by decide)) (b + 2) (by omega) (by omega)) (Ev.neg (by omega) ?_)
    refine Ev.bind (hh.2 ((b + 2) + (y.f2.length : Nat)) (by omega) (by omega)) (Ev.neg (by omega) ?_)
    rw [w1' hlt hn]
    rw [show b + 2 + (y.f2.length : Nat) + (cnValueS y.f3 : Nat) = a + ((cnValueS (xs.take i) + cnValue y : Nat) : Int) by omega]
    exact ih2
theorem heldValue_in : ∀ x : S30, LnValue x → ∀ a : Int, 0 ≤ a → a + cnValueS x.f3 ≤ 4611686018427387000 → Ev (fun k => laws_heldValueS.f k (mkValueS x.f3 a) a) (a + cnValueS x.f3) := by
  refine indValueI fun x ih hx => ?_
  exact heldValueS_step x.f3 hx.all.2.1 (fun y hy => ⟨(hx.all.2.2 y hy).all.1, ih y hy (hx.all.2.2 y hy)⟩)
theorem heldValueS_ev (xs : List S30) (hn : xs.length ≤ 1048576) (hx : ∀ y ∈ xs, LnValue y) (a : Int) (h0 : 0 ≤ a) (hb : a + cnValueS xs ≤ 4611686018427387000) : Ev (fun k => laws_heldValueS.f k (mkValueS xs a) a) (a + cnValueS xs) := heldValueS_step xs hn (fun y hy => ⟨(hx y hy).all.1, heldValue_in y (hx y hy)⟩) a h0 hb
set_option maxHeartbeats 8000000 in
set_option maxRecDepth 100000 in
theorem markValue_own (x : S30) (hl2 : x.f2.length ≤ 1048576) (hm3 : MarksValueS x.f3) (a : Int) (h0 : 0 ≤ a) (hb : a + (x.f2.length : Nat) + (cnValueS x.f3 : Nat) ≤ 4611686018427387000) (v2 v3 : Value) (o2 o3 : Nat → Prop) (w0 w : World) (hB : Below w0.heap.size w0 w) (g2 : Kd.R Kd.string 9 w w0.heap.size o2 v2 x.f2) (g3 : Kd.S k30 30 w w0.heap.size o3 v3 x.f3) (u2 : ∀ k, o2 k → k < w.heap.size) (u3 : ∀ k, o3 k → k < w.heap.size) (d : ∀ k, o2 k → ¬ o3 k) :
    Calls Try.prog 15 #[.agg #[.int .i64 x.f0, .int .i64 x.f1, v2, v3], .int .i64 a] w fun e w' => e = .returned (.int .i64 (a + (x.f2.length : Nat) + (cnValueS x.f3 : Nat))) ∧ Kd.R Kd.string 9 w' w0.heap.size o2 v2 (mtS (a) x.f2.length) ∧ Kd.S k30 30 w' w0.heap.size o3 v3 (mkValueS x.f3 (a + (x.f2.length : Nat))) ∧ Below w0.heap.size w0 w' ∧ Kept w w' (fun k => o2 k ∨ o3 k) := by
  have HB := Aside0.mk hB; have HK := Aside0.mk (Kept.refl w (fun k => o2 k ∨ o3 k)); have HA := Aside0.mk (And.intro h0 hb)
  have H2 := Aside0.mk g2; have HU2 := Aside0.mk u2
  have H3 := Aside0.mk g3; have HU3 := Aside0.mk u3
  have HL2 := Aside0.mk hl2
  have HL3 := Aside0.mk hm3
  have HD := Aside0.mk d
  clear hB h0 hb g2 u2 hl2 g3 u3 hm3 d
  go_enter Try.func15, Try.ntmps15
  go_wp2_with (first
    | ((with_reducible refine gate_dst (N := 2) rfl ?_)
       refine box_event ?hg (N := 2) ?hd (cs := #[.int .i64 x.f0, .int .i64 x.f1, v2, v3]) (t := 30) ?hr ?_; (case hd => rfl); (case hg => rfl); (case hr => first | (go_simp; done) | (go_simp; rfl))
       intro gb hg w1 hbox hb
       have HG := Aside0.mk (show ∀ k, k < w.heap.size → k ≠ gb from fun k h e => by omega)
       have HG2 := Aside0.mk (show w0.heap.size ≤ gb by rw [hg]; exact HB.out.size)
       have n0 := hbox
       have n1 := Kd.R_below H2.out hb
       have n2 := Kd.S_below H3.out hb
       have n3 := below_step HB.out hb
       have n4 := Kept.below HK.out hb
       clear H2 H3 HB HK
       (try clear hx)
       have BK := Aside0.mk n0; have H2 := Aside0.mk n1; have H3 := Aside0.mk n2; have HB := Aside0.mk n3; have HK := Aside0.mk n4
       clear n0 n1 n2 n3 n4
       clear hbox hb hg
       have hx : w1.cell? ⟨gb, 2, none⟩ = some v2 := (blk_cell BK.out 2).trans rfl)
    | ((with_reducible refine gate_callee (f := 29) rfl ?_)
       refine goesL_ (some 8) rfl rfl Try.func29 (by kernel_rfl) rfl #[v2, .int .i64 a] rfl (by (try simp only [List.map_toArray, List.map_cons, List.map_nil]); first | done | rfl) ?_
       (with_reducible refine (markStringS_own x.f2 (Nat.le_trans HL2.out (by decide)) (a) (by have := HA.out; omega) (by have := HA.out; omega) v2 o2 w0 _ HB.out H2.out).mono ?_)
       rintro e w2 ⟨rfl, hr, hb, hk⟩
       refine ⟨_, rfl, ?_⟩
       have n0 := blk_kept BK.out hk (fun h1 => HG.out _ (HU2.out _ h1) rfl)
       have n1 := hr
       have n2 := Kd.S_kept H3.out hk (fun k hk h1 => HD.out k h1 hk)
       have n3 := hb
       have n4 := HK.out.then_ hk (fun k h1 => .inl (Or.inl h1))
       clear BK H2 H3 HB HK
       (try clear hx)
       have BK := Aside0.mk n0; have H2 := Aside0.mk n1; have H3 := Aside0.mk n2; have HB := Aside0.mk n3; have HK := Aside0.mk n4
       clear n0 n1 n2 n3 n4
       clear hr hb hk
       have hx : w2.cell? ⟨gb, 3, none⟩ = some v3 := (blk_cell BK.out 3).trans rfl)
    | ((with_reducible refine gate_callee (f := 30) rfl ?_)
       refine goesL_ (some 12) rfl rfl Try.func30 (by kernel_rfl) rfl #[v3, .int .i64 (a + (x.f2.length : Nat))] rfl (by (try simp only [List.map_toArray, List.map_cons, List.map_nil]); first | done | rfl) ?_
       (with_reducible refine (MarksValueS.go HL3.out (a + (x.f2.length : Nat)) v3 o3 w0 _ (by have := HA.out; omega) (by have := HA.out; omega) HB.out H3.out).mono ?_)
       rintro e w3 ⟨rfl, hr, hb, hk⟩
       refine ⟨_, rfl, ?_⟩
       have n0 := blk_kept BK.out hk (fun h1 => HG.out _ (HU3.out _ h1) rfl)
       have n1 := Kd.R_kept H2.out hk (fun k hk h1 => HD.out k hk h1)
       have n2 := hr
       have n3 := hb
       have n4 := HK.out.then_ hk (fun k h1 => .inl (Or.inr h1))
       clear BK H2 H3 HB HK
       (try clear hx)
       have BK := Aside0.mk n0; have H2 := Aside0.mk n1; have H3 := Aside0.mk n2; have HB := Aside0.mk n3; have HK := Aside0.mk n4
       clear n0 n1 n2 n3 n4
       clear hr hb hk))
  go_ret
  exact ⟨rfl, H2.out, H3.out, HB.out, HK.out⟩

end Go.Proofs.Ytonimhfahjediaa.Pk
end
section
namespace Go.Proofs.Ytonimhfahjediaa.Pk
open Go.RowKit Go.Proofs.YtonimhfahjediaaW.PrintWords Go.Proofs.YtonimhfahjediaaW.PrintLast Go.Proofs.Ytonimhfahjediaa.Pl Go.Proofs.Ytonimhfahjediaa.Ext
set_option linter.unusedVariables false
set_option linter.unusedSimpArgs false
theorem cnS_perm {xs ys : List S30} (h : List.Perm xs ys) : cnValueS xs = cnValueS ys := by
  induction h with
  | nil => rfl
  | cons x _ ih => simp only [cnValueS, ih]
  | swap x y l => simp only [cnValueS]; omega
  | trans _ _ h1 h2 => exact h1.trans h2
theorem cnS_can : ∀ xs : List S30, (∀ y ∈ xs, cnValue (canT y) = cnValue y) → cnValueS (xs.map canT) = cnValueS xs
  | [], _ => rfl
  | x :: r, h => by
    rw [List.map_cons, cnValueS, cnValueS, h x List.mem_cons_self, cnS_can r (fun y hy => h y (List.mem_cons_of_mem _ hy))]
theorem cn_canT : ∀ x : S30, cnValue (canT x) = cnValue x := by
  refine indValueI fun x ih => ?_
  have hm := cnS_can x.f3 ih
  rw [canT_eq, cnValue_eq, cnValue_eq x]
  dsimp only
  by_cases h : x.f0 = 4
  · rw [if_pos h, cnS_perm (St.stable_ok ltT z30 ltT_ord (x.f3.map canT)).1, hm]
  · rw [if_neg h, hm]

end Go.Proofs.Ytonimhfahjediaa.Pk
end
section
namespace Go.Proofs.Ytonimhfahjediaa.Pk
open Go.RowKit Go.Proofs.YtonimhfahjediaaW.PrintWords Go.Proofs.YtonimhfahjediaaW.PrintLast Go.Proofs.Ytonimhfahjediaa.Pl Go.Proofs.Ytonimhfahjediaa.Ext
set_option linter.unusedVariables false
set_option linter.unusedSimpArgs false
theorem cmpL_ev (xs ys : List ByteArray) (hx : xs.length ≤ 1048576) (hy : ys.length ≤ 1048576) : Ev (fun k => slices_Compare_string_string.f k xs ys) (lexL cmpS xs ys) := by
  have lp : ∀ d i : Nat, d = xs.length - i → i ≤ xs.length → i ≤ ys.length → Ev (fun k => slices_Compare_string_string.l0 k xs ys xs (xs.length : Int) (i : Int)) (lexL cmpS (xs.drop i) (ys.drop i)) := by
    intro d
    induction d with
    | zero =>
      intro i hd hi hj
      refine Ev.up ?_
      simp only [slices_Compare_string_string.l0]
      refine Ev.neg (by omega) ?_
      rw [List.drop_of_length_le (by omega : xs.length ≤ i)]
      by_cases h : xs.length < ys.length
      · refine Ev.pos (by omega) (Ev.const ?_)
        rw [List.drop_eq_getElem_cons (by omega : i < ys.length)]
        rfl
      · refine Ev.neg (by omega) (Ev.const ?_)
        rw [List.drop_of_length_le (by omega : ys.length ≤ i)]
        rfl
    | succ d ih =>
      intro i hd hi hj
      have hlt : i < xs.length := by omega
      have e1 : xs.drop i = xs.getD i ByteArray.empty :: xs.drop (i + 1) := by
        rw [List.drop_eq_getElem_cons hlt]
        congr 1
        simp [List.getD_eq_getElem?_getD, hlt]
      refine Ev.up ?_
      simp only [slices_Compare_string_string.l0, cmp_Compare_string_eq, Option.bind_some, w1' hlt hx]
      refine Ev.pos (by omega) (Ev.pos (by omega) (Ev.pos (by omega) ?_))
      by_cases h : i < ys.length
      · have e2 : ys.drop i = ys.getD i ByteArray.empty :: ys.drop (i + 1) := by
          rw [List.drop_eq_getElem_cons h]
          congr 1
          simp [List.getD_eq_getElem?_getD, h]
        refine Ev.neg (by omega) (Ev.pos (by omega) ?_)
        rw [e1, e2, lexL]
        rw [show rdOf ByteArray.empty xs (i : Int) = xs.getD i ByteArray.empty from rfl, show rdOf ByteArray.empty ys (i : Int) = ys.getD i ByteArray.empty from rfl]
        by_cases hc : cmpS (xs.getD i ByteArray.empty) (ys.getD i ByteArray.empty) = 0
        · rw [if_pos hc]
          exact Ev.pos hc (ih (i + 1) (by omega) (by omega) (by omega))
        · rw [if_neg hc]
          exact Ev.neg hc (Ev.now _)
      · refine Ev.pos (by omega) (Ev.const ?_)
        rw [e1, List.drop_of_length_le (by omega : ys.length ≤ i)]
        rfl
  simp only [slices_Compare_string_string.f]
  have := lp (xs.length - 0) 0 rfl (by omega) (by omega)
  simpa using this
theorem CompareValues_ev : ∀ x : S30, ∀ y : S30, SmValue x → SmValue y → Ev (fun k => impl_CompareValues.f k x.f0 x.f1 x.f2 x.f3 y.f0 y.f1 y.f2 y.f3) (cmT x y) := by
  refine indValueI fun x ih y hs ht => ?_
  have out : ∀ n : Int, ¬ n = 0 → Ev (fun k => impl_CompareValues.l0 k n 0 x.f0 x.f1 x.f2 x.f3 y.f0 y.f1 y.f2 y.f3) n := by
    intro n hn
    refine Ev.up ?_
    simp only [impl_CompareValues.l0]
    exact Ev.neg hn (Ev.now _)
  have lp : x.f3.length = y.f3.length → ∀ d i : Nat, d = x.f3.length - i → i ≤ x.f3.length → ∀ s : Int, Ev (fun k => impl_CompareValues.l0 k s (i : Int) x.f0 x.f1 x.f2 x.f3 y.f0 y.f1 y.f2 y.f3) (if s = 0 then cmTS (x.f3.drop i) (y.f3.drop i) else s) := by
    intro hl d
    induction d with
    | zero =>
      intro i hd hi s
      refine Ev.up ?_
      simp only [impl_CompareValues.l0]
      by_cases h0 : s = 0
      · refine Ev.pos h0 (Ev.neg (by omega) (Ev.const ?_))
        rw [if_pos h0, List.drop_of_length_le (by omega : x.f3.length ≤ i), List.drop_of_length_le (by omega : y.f3.length ≤ i), cmTS]
        exact h0
      · rw [if_neg h0]
        exact Ev.neg h0 (Ev.now _)
    | succ d ihd =>
      intro i hd hi s
      have hlt : i < x.f3.length := by omega
      have e1 : x.f3.drop i = x.f3.getD i z30 :: x.f3.drop (i + 1) := by
        rw [List.drop_eq_getElem_cons hlt]
        congr 1
        simp [List.getD_eq_getElem?_getD, hlt]
      have e2 : y.f3.drop i = y.f3.getD i z30 :: y.f3.drop (i + 1) := by
        rw [List.drop_eq_getElem_cons (by omega : i < y.f3.length)]
        congr 1
        simp [List.getD_eq_getElem?_getD, show i < y.f3.length by omega]
      refine Ev.up ?_
      simp only [impl_CompareValues.l0, w1' hlt hs.p3.1]
      by_cases h0 : s = 0
      · refine Ev.pos h0 (Ev.pos (by omega) (Ev.pos (by omega) (Ev.pos (by omega) ?_)))
        refine Ev.bind (ih (x.f3.getD i z30) (mem_getD x.f3 z30 i hlt) (y.f3.getD i z30) (hs.p3.2 _ (mem_getD x.f3 z30 i hlt)) (ht.p3.2 _ (mem_getD y.f3 z30 i (by omega)))) ?_
        refine Ev.eq (ihd (i + 1) (by omega) (by omega) _) ?_
        rw [if_pos h0, e1, e2, cmTS]
      · rw [if_neg h0]
        exact Ev.neg h0 (Ev.now _)
  refine Ev.up ?_
  simp only [impl_CompareValues.f, cmp_Compare_int_eq, Option.bind_some]
  refine Ev.bind (cmpL_ev x.f2 y.f2 hs.p2.1 ht.p2.1) (Ev.bind (cmp_Or_int_ev _ _ _ _) ?_)
  have hq : cmT x y = if cmpI x.f0 y.f0 = 0 then (if cmpI x.f1 y.f1 = 0 then (if cmpI (x.f3.length : Int) (y.f3.length : Int) = 0 then (if lexL cmpS x.f2 y.f2 = 0 then cmTS x.f3 y.f3 else lexL cmpS x.f2 y.f2) else cmpI (x.f3.length : Int) (y.f3.length : Int)) else cmpI x.f1 y.f1) else cmpI x.f0 y.f0 := by
    obtain ⟨_, _, _, _⟩ := x
    rw [cmT]
  rw [hq]
  by_cases e0 : cmpI x.f0 y.f0 = 0
  · rw [if_pos e0, if_pos e0]
    by_cases e1 : cmpI x.f1 y.f1 = 0
    · rw [if_pos e1, if_pos e1]
      by_cases e2 : cmpI (x.f3.length : Int) (y.f3.length : Int) = 0
      · rw [if_pos e2, if_pos e2]
        have hl : x.f3.length = y.f3.length := by have := (cmpI_at _).1 _ e2; omega
        by_cases e3 : lexL cmpS x.f2 y.f2 = 0
        · rw [if_pos e3, e3]
          have := lp hl (x.f3.length - 0) 0 rfl (by omega) 0
          rw [if_pos rfl, List.drop_zero, List.drop_zero] at this
          exact this
        · rw [if_neg e3]
          exact out _ e3
      · rw [if_neg e2, if_neg e2]
        exact out _ e2
    · rw [if_neg e1, if_neg e1]
      exact out _ e1
  · rw [if_neg e0, if_neg e0]
    exact out _ e0

end Go.Proofs.Ytonimhfahjediaa.Pk
end
section
namespace Go.Proofs.Ytonimhfahjediaa.Pk
open Go.RowKit Go.Proofs.YtonimhfahjediaaW.PrintWords Go.Proofs.YtonimhfahjediaaW.PrintLast Go.Proofs.Ytonimhfahjediaa.Pl Go.Proofs.Ytonimhfahjediaa.Ext
set_option linter.unusedVariables false
set_option linter.unusedSimpArgs false
/-- Of the blocks that were there, only g has changed. -/
def Only (g : Nat) (w w' : World) : Prop := w.heap.size ≤ w'.heap.size ∧ ∀ k, k < w.heap.size → k ≠ g → w'.heap[k]? = w.heap[k]?
theorem Only.refl (g : Nat) (w : World) : Only g w w := ⟨Nat.le_refl _, fun _ _ _ => rfl⟩
theorem Only.trans {g : Nat} {w w1 w2 : World} (h : Only g w w1) (h2 : Only g w1 w2) : Only g w w2 := ⟨Nat.le_trans h.1 h2.1, fun k hk hg => (h2.2 k (Nat.lt_of_lt_of_le hk h.1) hg).trans (h.2 k hk hg)⟩
theorem Only.below {g : Nat} {w w1 : World} (h : Below w.heap.size w w1) : Only g w w1 := ⟨h.size, fun k hk _ => h.block k hk⟩
theorem Only.set {g : Nat} {w : World} {o : Nat} {u : Value} : Only g w (w.setCell ⟨g, o, none⟩ u) := ⟨by simp [World.setCell], fun k _ hg => Below.heap_setCell w ⟨g, o, none⟩ u k hg⟩
theorem Only.sets {g : Nat} : ∀ (cs : List Value) (o : Nat) (w : World), Only g w (w.setCells g o cs)
  | [], _, w => Only.refl g w
  | v :: r, o, w => (Only.set (g := g) (o := o) (u := v)).trans (Only.sets r (o + 1) _)
theorem below_sets {w0 : World} {g : Nat} (hg : w0.heap.size ≤ g) : ∀ (cs : List Value) (o : Nat) (w : World), Below w0.heap.size w0 w → Below w0.heap.size w0 (w.setCells g o cs)
  | [], _, _, h => h
  | v :: r, o, w, h => below_sets hg r (o + 1) _ (below_set h hg)
theorem M_only {α : Type} {d : Kd α} {base g : Nat} {ok : Nat → Prop} {w w1 : World} {x : α} {cs : List Value} (h : d.M w base ok x cs) (ho : Only g w w1) (hok : ∀ k, ok k → k ≠ g) : d.M w1 base ok x cs := Kd.M_step h (fun k hk hl => ho.2 k hl (hok k hk))
theorem R_swap {α : Type} {d : Kd α} {e : Nat} {w : World} {base : Nat} {ok : Nat → Prop} {g n cap : Nat} {xs : List α} (h : d.R e w base ok (.slice (some ⟨g, 0, none⟩) n cap) xs) (z : α) (i j : Nat) (hi : i < n) (hj : j < n) :
    ∃ ci cj : List Value, ci.length = d.sz ∧ cj.length = d.sz ∧ d.M w base (fun k => ok k ∧ k ≠ g) (xs.getD i z) ci ∧ d.M w base (fun k => ok k ∧ k ≠ g) (xs.getD j z) cj ∧
      (∀ k u, ci[k]? = some u → w.cell? ⟨g, i * d.sz + k, none⟩ = some u) ∧ (∀ k u, cj[k]? = some u → w.cell? ⟨g, j * d.sz + k, none⟩ = some u) ∧ (∀ k, w.frozen? ⟨g, i * d.sz + k, none⟩ = false) ∧ (∀ k, w.frozen? ⟨g, j * d.sz + k, none⟩ = false) ∧
      d.R e ((w.setCells g (i * d.sz) cj).setCells g (j * d.sz) ci) base ok (.slice (some ⟨g, 0, none⟩) n cap) (St.swp z xs i j) ∧ Only g w ((w.setCells g (i * d.sz) cj).setCells g (j * d.sz) ci) ∧ (∀ w0 : World, w0.heap.size ≤ g → Below w0.heap.size w0 w → Below w0.heap.size w0 ((w.setCells g (i * d.sz) cj).setCells g (j * d.sz) ci)) ∧
      (∀ k, k < d.sz → ∃ u, (w.setCells g (i * d.sz) cj).cell? ⟨g, j * d.sz + k, none⟩ = some u) ∧ (∀ k, (w.setCells g (i * d.sz) cj).frozen? ⟨g, j * d.sz + k, none⟩ = false) := by
  obtain ⟨ci, li, Mi, hci, fi⟩ := Kd.R_elem h z (i : Int) (by omega) (by omega)
  obtain ⟨cj, lj, Mj, hcj, fj⟩ := Kd.R_elem h z (j : Int) (by omega) (by omega)
  simp only [Int.toNat_natCast] at Mi hci fi Mj hcj fj
  have h1 := Kd.R_seg h (i : Int) (by omega) (by omega) (c := ci) (seg := cj) (j := 0) li (by simpa using hci) (by omega) (x' := xs.getD j z) (by rw [List.take_zero, List.nil_append, List.drop_of_length_le (by omega), List.append_nil]; exact Mj) (fun _ hk => hk)
  simp only [Int.toNat_natCast, Nat.add_zero] at h1
  have o1 : Only g w (w.setCells g (i * d.sz) cj) := Only.sets cj _ w
  have Mi1 := M_only Mi o1 (fun k hk => hk.2)
  obtain ⟨cj', lj', Mj', hcj', fj'⟩ := Kd.R_elem h1.1 z (j : Int) (by omega) (by omega)
  have h2 := Kd.R_seg h1.1 (j : Int) (by omega) (by omega) (c := cj') (seg := ci) (j := 0) lj' hcj' (by omega) (x' := xs.getD i z) (by rw [List.take_zero, List.nil_append, List.drop_of_length_le (by omega), List.append_nil]; exact Mi1) (fun _ hk => hk)
  simp only [Int.toNat_natCast, Nat.add_zero] at h2
  simp only [Int.toNat_natCast] at hcj' fj'
  exact ⟨ci, cj, li, lj, Mi, Mj, hci, hcj, fi, fj, h2.1, o1.trans (Only.sets ci _ _), fun w0 hg hb => below_sets hg ci _ _ (below_sets hg cj _ _ hb), fun k hk => ⟨cj'[k]'(by omega), hcj' k _ (List.getElem?_eq_getElem (by omega))⟩, fj'⟩

end Go.Proofs.Ytonimhfahjediaa.Pk
end
section
namespace Go.Proofs.Ytonimhfahjediaa.Pk
open Go.RowKit Go.Proofs.YtonimhfahjediaaW.PrintWords Go.Proofs.YtonimhfahjediaaW.PrintLast Go.Proofs.YtonimhfahjediaaW.PrintMore Go.Proofs.Ytonimhfahjediaa.Pl Go.Proofs.Ytonimhfahjediaa.Ext
set_option linter.unusedVariables false
set_option linter.unusedSimpArgs false
def SmL (xs : List (S30 × Nat)) : Prop := ∀ x ∈ xs, SmValue x.1
def ltP (p q : S30 × Nat) : Bool := ltT p.1 q.1
theorem ltP_ord : St.Ord ltP := ⟨fun x y h => ltT_ord.asymm x.1 y.1 h, fun x y w h1 h2 => ltT_ord.trans x.1 y.1 w.1 h1 h2⟩
theorem S_perm {fo : Nat → Nat} {w : World} {base : Nat} {ok : Nat → Prop} {v : Value} {xs : List S30} {ys : List (S30 × Nat)} (hp : List.Perm ys xs.zipIdx) (h : Kd.R (Kd.tag fo k30) 30 w base ok v ys) : Kd.S k30 30 w base ok v (ys.map Prod.fst) := by
  have hn : (ys.map Prod.snd).Nodup := (hp.map Prod.snd).nodup_iff.2 (by rw [List.zipIdx_map_snd]; exact List.nodup_range')
  obtain ⟨h0, inner, hown, hr⟩ := h
  have hl : (ys.map Prod.fst).zipIdx.length = ys.length := by rw [List.length_zipIdx, List.length_map]
  refine ⟨fun k => (ys.map Prod.snd).idxOf (fo k), h0, inner, by rw [hl]; exact hown, by rw [hl]; exact hr.1, fun j p hj => ?_⟩
  rw [List.getElem?_zipIdx, List.getElem?_map] at hj
  obtain ⟨q, hq, rfl⟩ := Option.map_eq_some_iff.1 hj
  obtain ⟨y, hy, rfl⟩ := Option.map_eq_some_iff.1 hq
  obtain ⟨hlt, hyj⟩ := List.getElem?_eq_some_iff.1 hy
  refine Kd.M_mono k30 (fun k hk => ⟨hk.1, ?_⟩) (hr.2 j y hy)
  show (ys.map Prod.snd).idxOf (fo k) = 0 + j
  have e : fo k = (ys.map Prod.snd)[j]'(by rw [List.length_map]; exact hlt) := by rw [List.getElem_map, hyj]; exact hk.2
  rw [e, hn.idxOf_getElem, Nat.zero_add]
theorem sorted_fst {xs : List S30} {ys : List (S30 × Nat)} (hp : List.Perm ys xs.zipIdx) (ha : St.Asc ltP ys) : ys.map Prod.fst = St.stable ltT z30 xs := by
  refine stable_one ?_ ?_
  · have := hp.map Prod.fst
    rwa [List.zipIdx_map_fst] at this
  · exact List.pairwise_map.2 ha
end Go.Proofs.Ytonimhfahjediaa.Pk
end
