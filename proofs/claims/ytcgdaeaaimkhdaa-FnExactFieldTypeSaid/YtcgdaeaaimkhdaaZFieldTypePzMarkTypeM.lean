/- Marks of Type: what markTypeS and markType do with rows that they are given to write. -/
import Derived.Test.YtcgdaeaaimkhdaaZFieldTypeWTabM
import Derived.Test.YtcgdaeaaimkhdaaZFieldTypePz15M
import Derived.Test.YtcgdaeaaimkhdaaZFieldTypeWLastM
import Derived.Test.YtcgdaeaaimkhdaaZFieldTypePz2M
import Derived.Test.YtcgdaeaaimkhdaaZFieldTypePz8M
import Derived.Test.YtcgdaeaaimkhdaaZFieldTypePz11
import Derived.Test.YtcgdaeaaimkhdaaZFieldTypePz10
import Derived.Test.YtcgdaeaaimkhdaaZFieldTypePz4M
import Derived.Test.YtcgdaeaaimkhdaaZFieldTypePz13
import Derived.Test.YtcgdaeaaimkhdaaZFieldTypePz7
section
namespace Go.Proofs.Ytcgdaeaaimkhdaa.Pz
open Go.RowKit Go.Proofs.YtcgdaeaaimkhdaaW.PrintWords Go.Proofs.YtcgdaeaaimkhdaaW.PrintLast Go.Proofs.Ytcgdaeaaimkhdaa.Pl Go.Proofs.Ytcgdaeaaimkhdaa.Ext
set_option linter.unusedVariables false
set_option linter.unusedSimpArgs false
mutual
def cnType : S29 → Nat
  | ⟨x0, x1, x2⟩ => 1 + x1.length + cnTypeS x2
def cnTypeS : List S29 → Nat
  | [] => 0
  | x :: r => cnType x + cnTypeS r
end
mutual
noncomputable def mkType : S29 → Int → S29
  | ⟨x0, x1, x2⟩, a => ⟨a, mtS (a + 1) x1.length, mkTypeS x2 (a + 1 + (x1.length : Nat))⟩
noncomputable def mkTypeS : List S29 → Int → List S29
  | [], _ => []
  | x :: r, a => mkType x a :: mkTypeS r (a + cnType x)
end
theorem cnType_eq (x : S29) : cnType x = 1 + x.f1.length + cnTypeS x.f2 := by cases x; simp only [cnType]
theorem mkType_eq (x : S29) (a : Int) : mkType x a = ⟨a, mtS (a + 1) x.f1.length, mkTypeS x.f2 (a + 1 + (x.f1.length : Nat))⟩ := by cases x; simp only [mkType]
theorem mkTypeS_length : ∀ (xs : List S29) (a : Int), (mkTypeS xs a).length = xs.length
  | [], _ => rfl
  | x :: r, a => by simp [mkTypeS, mkTypeS_length r]
theorem cnTypeS_append : ∀ xs ys : List S29, cnTypeS (xs ++ ys) = cnTypeS xs + cnTypeS ys
  | [], ys => by simp [cnTypeS]
  | x :: r, ys => by simp only [List.cons_append, cnTypeS, cnTypeS_append r ys]; omega
theorem mkTypeS_append : ∀ (xs ys : List S29) (a : Int), mkTypeS (xs ++ ys) a = mkTypeS xs a ++ mkTypeS ys (a + cnTypeS xs)
  | [], ys, a => by simp [mkTypeS, cnTypeS]
  | x :: r, ys, a => by
    simp only [List.cons_append, mkTypeS, mkTypeS_append r ys, cnTypeS]
    rw [show a + cnType x + (cnTypeS r : Int) = a + ((cnType x + cnTypeS r : Nat) : Int) by omega]
theorem cnTypeS_take (xs : List S29) (i : Nat) (h : i < xs.length) : cnTypeS (xs.take (i + 1)) = cnTypeS (xs.take i) + cnType (xs.getD i z29) := by
  rw [List.take_succ_eq_append_getElem h, cnTypeS_append]
  simp [cnTypeS, List.getD_eq_getElem?_getD, h]
theorem cnTypeS_take_le (xs : List S29) (i : Nat) : cnTypeS (xs.take i) ≤ cnTypeS xs := by
  have := cnTypeS_append (xs.take i) (xs.drop i)
  rw [List.take_append_drop] at this
  omega
theorem mkTypeS_step (xs : List S29) (i : Nat) (h : i < xs.length) (a : Int) : (mkTypeS (xs.take i) a ++ xs.drop i).set i (mkType (xs.getD i z29) (a + cnTypeS (xs.take i))) = mkTypeS (xs.take (i + 1)) a ++ xs.drop (i + 1) := by
  have hl : (mkTypeS (xs.take i) a).length = i := by rw [mkTypeS_length, List.length_take]; omega
  rw [List.set_append, if_neg (by omega), hl, Nat.sub_self, List.drop_eq_getElem_cons h, List.set_cons_zero, List.take_succ_eq_append_getElem h, mkTypeS_append]
  simp [mkTypeS, List.getD_eq_getElem?_getD, h]
theorem mkTypeS_at (xs : List S29) (i : Nat) (h : i < xs.length) (a : Int) : (mkTypeS (xs.take i) a ++ xs.drop i).getD i z29 = xs.getD i z29 := by
  have hl : (mkTypeS (xs.take i) a).length = i := by rw [mkTypeS_length, List.length_take]; omega
  rw [List.getD_eq_getElem?_getD, List.getElem?_append_right (by omega), hl, Nat.sub_self, List.getElem?_drop, Nat.add_zero, List.getD_eq_getElem?_getD]
theorem mkTypeS_len (xs : List S29) (i : Nat) (a : Int) : (mkTypeS (xs.take i) a ++ xs.drop i).length = xs.length := by
  rw [List.length_append, mkTypeS_length, List.length_take, List.length_drop]; omega
/-- What markTypeS does with the row xs. -/
def MarksTypeS (xs : List S29) : Prop :=
  ∀ (a : Int) (v : Value) (ok : Nat → Prop) (w0 w : World), 0 ≤ a → a + cnTypeS xs ≤ 4611686018427387000 → Below w0.heap.size w0 w → Kd.S k29 29 w w0.heap.size ok v xs →
    Calls Try.prog 70 #[v, .int .i64 a] w fun e w' => e = .returned (.int .i64 (a + cnTypeS xs)) ∧ Kd.S k29 29 w' w0.heap.size ok v (mkTypeS xs a) ∧ Below w0.heap.size w0 w' ∧ Kept w w' ok
theorem MarksTypeS.go {xs : List S29} (h : MarksTypeS xs) (a : Int) (v : Value) (ok : Nat → Prop) (w0 w : World) (h0 : 0 ≤ a) (hb : a + cnTypeS xs ≤ 4611686018427387000) (hB : Below w0.heap.size w0 w) (ho : Kd.S k29 29 w w0.heap.size ok v xs) :
    Calls Try.prog 70 #[v, .int .i64 a] w fun e w' => e = .returned (.int .i64 (a + cnTypeS xs)) ∧ Kd.S k29 29 w' w0.heap.size ok v (mkTypeS xs a) ∧ Below w0.heap.size w0 w' ∧ Kept w w' ok := h a v ok w0 w h0 hb hB ho
set_option maxHeartbeats 8000000 in
set_option maxRecDepth 100000 in
theorem marksTypeS_step (xs : List S29) (hn : xs.length ≤ 1048576) (hx : ∀ y ∈ xs, y.f1.length ≤ 1048576 ∧ MarksTypeS y.f2) : MarksTypeS xs := by
  intro a v ok w0 w h0 hb hB ho
  have HO := Aside0.mk ho
  have HB := Aside0.mk hB
  have HK := Aside0.mk (Kept.refl w ok)
  have HX := Aside0.mk hx
  have HA := Aside0.mk (And.intro h0 (And.intro hb hn))
  clear ho hB hx h0 hb hn
  go_enter Try.func70, Try.ntmps70
  go_wp2
  go_loopg [1, 5] xs.length (fun kq v1 v5 w' => ∃ (b i : Int) (L : List S29), v1 = .int .i64 b ∧ v5 = .int .i64 i ∧ Aside0 (0 ≤ i ∧ i + kq = xs.length ∧ b = a + cnTypeS (xs.take i.toNat)) ∧ Aside0 (L = mkTypeS (xs.take i.toNat) a ++ xs.drop i.toNat) ∧ Aside0 (Kd.S k29 29 w' w0.heap.size ok v L) ∧ Aside0 (Below w0.heap.size w0 w') ∧ Aside0 (Kept w w' ok))
  case atStart => exact ⟨a, 0, xs, rfl, rfl, ⟨by omega, by omega, by simp [cnTypeS]⟩, ⟨by simp [mkTypeS]⟩, HO, HB, HK⟩
  case round =>
    clear HO HB HK
    obtain ⟨b, i, L, rfl, rfl, HI, HLE, HO, HB, HK⟩ := hrel
    obtain ⟨Ao, co, eo⟩ := Kd.S_slice HO.out
    have hlen : L.length = xs.length := by rw [HLE.out]; exact mkTypeS_len xs i.toNat a
    rw [hlen] at eo
    have HL := Aside0.mk hlen
    clear hlen
    subst eo
    by_cases hlt : i < (xs.length : Int)
    · have hd : decide (i < (xs.length : Int)) = true := decide_eq_true hlt
      have hi0 : (0 ≤ i) = True := eq_true HI.out.1
      have hi1 : (i < (xs.length : Int)) = True := eq_true hlt
      have HLT := Aside0.mk (show i.toNat < xs.length by have := HI.out.1; omega)
      obtain ⟨g, cap, eg, gb, gl, HG⟩ := Kd.S_form HO.out (by rw [HL.out]; have := HLT.out; omega)
      rw [HL.out] at eg
      injection eg with ea _ ec
      subst ea ec
      have GB := Aside0.mk gb
      clear gb gl HG
      obtain ⟨oki, c, hcl, hM, hcc, hfr, hoki, hH⟩ := Kd.S_elem HO.out z29 i HI.out.1 (by exact hlt)
      rw [HLE.out, mkTypeS_at xs i.toNat HLT.out a] at hM
      generalize hxe : xs.getD i.toNat z29 = x at hM
      have HXE := Aside0.mk hxe
      have hxm : x ∈ xs := by rw [← hxe]; exact mem_getD xs z29 _ HLT.out
      have HXL := Aside0.mk (HX.out x hxm)
      clear hxe hxm
      obtain ⟨v1, v2, o1, o2, rfl, s1, s2, d12, g1, g2⟩ := k29_openA hM
      have HH := Aside0.mk hH
      have H1 := Aside0.mk g1
      have HS1 := Aside0.mk s1
      have H2 := Aside0.mk g2
      have HS2 := Aside0.mk s2
      have HD := Aside0.mk d12
      have HOK := Aside0.mk (show ok g from (Kd.S_R HO.out).1 g rfl)
      have HOI := Aside0.mk hoki
      have HLT2 := Aside0.mk hlt
      have HE := Aside0.mk (show b + cnType x ≤ a + cnTypeS xs ∧ b = a + cnTypeS (xs.take i.toNat) ∧ 0 ≤ b ∧ 0 ≤ a ∧ a + cnTypeS xs ≤ 4611686018427387000 by
        have e1 := cnTypeS_take xs i.toNat HLT.out
        have e2 := cnTypeS_take_le xs (i.toNat + 1)
        rw [HXE.out] at e1
        have := HI.out; have := HA.out
        refine ⟨by omega, by omega, by omega, by omega, by omega⟩)
      have HW1 := Aside0.mk (show wrap64 (b + 1) = b + 1 by have := HE.out; have := cnType_eq x; unfold wrap64; omega)
      clear hcl hM hcc hfr hoki hH hlt HO s1 g1 s2 g2 d12
      have hx : wr.cell? ⟨g, i.toNat * 3, none⟩ = some (.int .i64 x.f0) := (Ow.H_cells HH.out HI.out.1 HLT2.out).1 0 _ rfl
      have hf : wr.frozen? ⟨g, i.toNat * 3, none⟩ = false := (Ow.H_cells HH.out HI.out.1 HLT2.out).2 0
      go_wp2_with (first
        | ((with_reducible refine gate_store (t := 3) (p := 16) rfl ?_)
           refine store_event (t := 3) (p := 16) (v := ?vo_w3) (w1 := (wr.setCell ⟨g, i.toNat * 3, none⟩ (.int .i64 b))) ?hg ?ho ?hn ?hr ?_; (case ho => rfl); (case hg => rfl); (case hn => rfl); (case hr => first | (go_simp; done) | (go_simp; rfl)); intro w3 hw
           have hseg := Kd.H_seg HH.out HI.out.1 HLT2.out (seg := [.int .i64 b]) (j := 0) (show 0 + 1 ≤ 3 by decide) (fun q hq => by rw [List.mem_singleton.1 hq]; rfl)
           have hg : wr.grownBy w3 (some g) := by rw [hw]; exact hseg.2
           have n0 := (show Kd.H k29 29 w3 w0.heap.size ok (.slice (some ⟨g, 0, none⟩) xs.length co) L i oki [.int .i64 b, v1, v2] by rw [hw]; exact hseg.1)
           have n1 := Kd.R_grown H1.out hg (fun k hk e => (HOI.out k (HS1.out k hk)).2 (by injection e))
           have n2 := Kd.S_grown H2.out hg (fun k hk e => (HOI.out k (HS2.out k hk)).2 (by injection e))
           have n3 := (show Below w0.heap.size w0 w3 by rw [hw]; exact below_set HB.out GB.out)
           have n4 := Kept.of_grown hg HK.out (fun k e => .inl (by injection e with e; exact e ▸ HOK.out))
           clear HH H1 H2 HB HK
           (try clear hx)
           (try clear hf)
           have HH := Aside0.mk n0; have H1 := Aside0.mk n1; have H2 := Aside0.mk n2; have HB := Aside0.mk n3; have HK := Aside0.mk n4
           clear n0 n1 n2 n3 n4
           clear hw hg hseg
           have hx : w3.cell? ⟨g, i.toNat * 3 + 1, none⟩ = some (v1) := (Ow.H_cells HH.out HI.out.1 HLT2.out).1 1 _ rfl)
        | ((with_reducible refine gate_callee (f := 55) rfl ?_)
           refine goesL_ (some 25) rfl rfl Try.func55 (by kernel_rfl) rfl #[v1, .int .i64 (wrap64 (b + 1))] rfl (by (try simp only [List.map_toArray, List.map_cons, List.map_nil]); first | done | rfl) ?_
           (with_reducible refine (markStringS_own x.f1 HXL.out.1 (wrap64 (b + 1)) (by rw [HW1.out]; have := HE.out; omega) (by rw [HW1.out]; have := HE.out; have := cnType_eq x; omega) v1 o1 w0 _ HB.out H1.out).mono ?_)
           rintro e w4 ⟨rfl, hr, hb, hk⟩
           refine ⟨_, rfl, ?_⟩
           have n0 := Kd.H_kept HH.out hk (fun k hk hn h1 => hn (HS1.out k h1))
           have n1 := hr
           have n2 := Kd.S_kept H2.out hk (fun k hk h1 => HD.out k h1 hk)
           have n3 := hb
           have n4 := HK.out.then_ hk (fun k h1 => .inl (HOI.out k (HS1.out k h1)).1)
           clear HH H1 H2 HB HK
           (try clear hx)
           (try clear hf)
           have HH := Aside0.mk n0; have H1 := Aside0.mk n1; have H2 := Aside0.mk n2; have HB := Aside0.mk n3; have HK := Aside0.mk n4
           clear n0 n1 n2 n3 n4
           clear hr hb hk
           have hx : w4.cell? ⟨g, i.toNat * 3 + 2, none⟩ = some (v2) := (Ow.H_cells HH.out HI.out.1 HLT2.out).1 2 _ rfl)
        | ((with_reducible refine gate_callee (f := 70) rfl ?_)
           refine goesL_ (some 32) rfl rfl Try.func70 (by kernel_rfl) rfl #[v2, .int .i64 (wrap64 (b + 1) + (x.f1.length : Nat))] rfl (by (try simp only [List.map_toArray, List.map_cons, List.map_nil]); first | done | rfl) ?_
           (with_reducible refine (MarksTypeS.go HXL.out.2 (wrap64 (b + 1) + (x.f1.length : Nat)) v2 o2 w0 _ (by rw [HW1.out]; have := HE.out; omega) (by rw [HW1.out]; have := HE.out; have := cnType_eq x; omega) HB.out H2.out).mono ?_)
           rintro e w5 ⟨rfl, hr, hb, hk⟩
           refine ⟨_, rfl, ?_⟩
           have n0 := Kd.H_kept HH.out hk (fun k hk hn h1 => hn (HS2.out k h1))
           have n1 := Kd.R_kept H1.out hk (fun k hk h1 => HD.out k hk h1)
           have n2 := hr
           have n3 := hb
           have n4 := HK.out.then_ hk (fun k h1 => .inl (HOI.out k (HS2.out k h1)).1)
           clear HH H1 H2 HB HK
           (try clear hx)
           (try clear hf)
           have HH := Aside0.mk n0; have H1 := Aside0.mk n1; have H2 := Aside0.mk n2; have HB := Aside0.mk n3; have HK := Aside0.mk n4
           clear n0 n1 n2 n3 n4
           clear hr hb hk))
      obtain ⟨k1, rfl⟩ : ∃ m, gk = m + 1 := ⟨gk - 1, by have := HI.out; have := HLT2.out; omega⟩
      go_roundg k1
      case measure => omega
      case rel =>
        have hM2 := k29_mkA _ w0.heap.size oki (⟨b, mtS (wrap64 (b + 1)) x.f1.length, mkTypeS x.f2 (wrap64 (b + 1) + (x.f1.length : Nat))⟩ : S29) (Kd.R_mono H1.out HS1.out) (Kd.S_mono H2.out (fun k hk => ⟨HS2.out k hk, fun e => HD.out k (H1.out.1 k e.symm) hk⟩))
        have hS := Kd.H_back HH.out hM2 (fun _ hk => hk)
        have hz : i.toNat + 1 = (wrap64 (i + 1)).toNat := by have := HI.out; have := HLT2.out; have := HA.out; unfold wrap64; omega
        have hw1 : wrap64 (i + 1) = i + 1 := by have := HI.out; have := HLT2.out; have := HA.out; unfold wrap64; omega
        refine ⟨wrap64 (b + 1) + (x.f1.length : Nat) + (cnTypeS x.f2 : Nat), wrap64 (i + 1), _, rfl, rfl, ⟨by omega, ?_, ?_⟩, ⟨?_⟩, ⟨hS⟩, HB, HK⟩
        · have := HI.out; have := HLT2.out; omega
        · rw [← hz, cnTypeS_take xs i.toNat HLT.out, HXE.out, cnType_eq]; (try simp only [HW1.out]); have := HE.out; omega
        · rw [← hz, ← mkTypeS_step xs i.toNat HLT.out a, HXE.out, mkType_eq, ← HE.out.2.1, HLE.out]; (try simp only [HW1.out])
    · have hd : decide (i < (xs.length : Int)) = false := decide_eq_false hlt
      have HT := Aside0.mk (show i.toNat = xs.length by have := HI.out; omega)
      clear hlt
      go_wp2
      go_ret
      refine ⟨?_, ?_, HB.out, HK.out⟩
      · rw [HI.out.2.2, HT.out, List.take_of_length_le (Nat.le_refl _)]
        rfl
      · have := HO.out
        rw [HLE.out, HT.out, List.take_of_length_le (Nat.le_refl _), List.drop_of_length_le (Nat.le_refl _), List.append_nil] at this
        exact this
/-- All rows inside are short. -/
inductive LnType : S29 → Prop
  | mk {x : S29} : x.f1.length ≤ 1048576 → x.f2.length ≤ 1048576 → (∀ y ∈ x.f2, LnType y) → LnType x
theorem LnType.all {x : S29} (h : LnType x) : x.f1.length ≤ 1048576 ∧ x.f2.length ≤ 1048576 ∧ ∀ y ∈ x.f2, LnType y := by cases h; exact ⟨by assumption, by assumption, by assumption⟩
theorem marksType_in : ∀ x : S29, LnType x → MarksTypeS x.f2 := by
  refine indTypeI fun x ih hx => ?_
  exact marksTypeS_step x.f2 hx.all.2.1 (fun y hy => ⟨(hx.all.2.2 y hy).all.1, ih y hy (hx.all.2.2 y hy)⟩)
theorem marksTypeS (xs : List S29) (hn : xs.length ≤ 1048576) (hx : ∀ y ∈ xs, LnType y) : MarksTypeS xs := marksTypeS_step xs hn (fun y hy => ⟨(hx y hy).all.1, marksType_in y (hx y hy)⟩)
theorem lnType_of : ∀ x : S29, SmType x → LnType x := by
  refine indTypeI fun x ih hx => ?_
  exact LnType.mk hx.p1.1 hx.p2.1 (fun y hy => ih y hy (hx.p2.2 y hy))
theorem cnType_cv : ∀ x : S25, cnType (cvType x) ≤ 1 * (wtType x + 1) := by
  refine indTypeL fun x ih => ?_
  rw [cnType_eq, cvType_eq, wtType_eq]
  have hL : ∀ l : List S25, (∀ y ∈ l, cnType (cvType y) ≤ 1 * (wtType y + 1)) → cnTypeS (l.map cvType) ≤ 1 * (l.length + (l.map wtType).sum) := by
    intro l
    induction l with
    | nil => intro _; simp [cnTypeS]
    | cons y r ih2 =>
      intro h
      have h1 := h y (List.mem_cons_self ..)
      have h2 := ih2 (fun z hz => h z (List.mem_cons_of_mem _ hz))
      simp only [List.map_cons, cnTypeS, List.sum_cons, List.length_cons] at h2 ⊢
      omega
  have := hL x.f2 ih
  (try dsimp only)
  rw [cvTypeS_map, wtTypeS_sum]
  unfold wts
  omega
theorem cnType_mem {y : S29} {xs : List S29} (h : y ∈ xs) : cnType y ≤ cnTypeS xs := by
  induction xs with
  | nil => cases h
  | cons z r ih =>
    rcases List.mem_cons.1 h with rfl | h
    · simp only [cnTypeS]; omega
    · have := ih h; simp only [cnTypeS]; omega
theorem mkTypeS_getD : ∀ (xs : List S29) (i : Nat) (a : Int), i < xs.length → (mkTypeS xs a).getD i z29 = mkType (xs.getD i z29) (a + cnTypeS (xs.take i))
  | [], i, _, h => absurd h (by simp)
  | x :: r, 0, a, _ => by simp [mkTypeS, cnTypeS]
  | x :: r, i + 1, a, h => by
    have := mkTypeS_getD r i (a + cnType x) (by simpa using h)
    simp only [mkTypeS, List.getD_cons_succ, List.take_succ_cons, cnTypeS, this]
    congr 1
    omega
theorem heldTypeS_step (xs : List S29) (hn : xs.length ≤ 1048576) (hx : ∀ y ∈ xs, y.f1.length ≤ 1048576 ∧ (∀ a : Int, 0 ≤ a → a + cnTypeS y.f2 ≤ 4611686018427387000 → Ev (fun k => laws_heldTypeS.f k (mkTypeS y.f2 a) a) (a + cnTypeS y.f2))) (a : Int) (h0 : 0 ≤ a) (hb : a + cnTypeS xs ≤ 4611686018427387000) : Ev (fun k => laws_heldTypeS.f k (mkTypeS xs a) a) (a + cnTypeS xs) := by
  suffices h : ∀ m i, i + m = xs.length → Ev (fun k => laws_heldTypeS.l0 k (mkTypeS xs a) (a + cnTypeS (xs.take i)) (i : Int)) (a + cnTypeS xs) by
    have := h xs.length 0 (by omega)
    first
    | (refine Ev.up ?_; simp only [laws_heldTypeS.f]; simpa [cnTypeS] using this)
    | (simp only [laws_heldTypeS.f]; simpa [cnTypeS] using this)
  intro m
  induction m with
  | zero =>
    intro i hi
    refine Ev.up ?_
    simp only [laws_heldTypeS.l0, mkTypeS_length]
    refine Ev.neg (by omega) (Ev.const ?_)
    rw [List.take_of_length_le (by omega)]
  | succ m ih =>
    intro i hi
    have hlt : i < xs.length := by omega
    have e1 := cnTypeS_take xs i hlt
    have e2 := cnTypeS_take_le xs (i + 1)
    have hg : rd_T29 (mkTypeS xs a) (i : Int) = mkType (xs.getD i z29) (a + cnTypeS (xs.take i)) := mkTypeS_getD xs i a hlt
    have hh := hx _ (mem_getD xs z29 i hlt)
    have ih2 := ih (i + 1) (by omega)
    rw [e1] at ih2
    generalize xs.getD i z29 = y at hg hh e1 ih2
    have e3 := cnType_eq y
    generalize hbb : a + (cnTypeS (xs.take i) : Int) = b at hg
    have hbe : b + cnType y ≤ a + cnTypeS xs ∧ 0 ≤ b := ⟨by omega, by omega⟩
    refine Ev.up ?_
    simp only [laws_heldTypeS.l0, mkTypeS_length, hg, mkType_eq]
    refine Ev.pos (by omega) (Ev.pos (by omega) ?_)
    have v1 : wrap64 (b + 1) = b + 1 := w64 (by omega) (by omega)
    simp only [v1]
    refine Ev.pos (by first | exact trivial | rfl) ?_
    refine Ev.bind (heldStringS_ev y.f1.length hh.1 (b + 1) (by omega) (by omega)) (Ev.neg (by omega) ?_)
    refine Ev.bind (hh.2 ((b + 1) + (y.f1.length : Nat)) (by omega) (by omega)) (Ev.neg (by omega) ?_)
    rw [w1' hlt hn]
    rw [show b + 1 + (y.f1.length : Nat) + (cnTypeS y.f2 : Nat) = a + ((cnTypeS (xs.take i) + cnType y : Nat) : Int) by omega]
    exact ih2
theorem heldType_in : ∀ x : S29, LnType x → ∀ a : Int, 0 ≤ a → a + cnTypeS x.f2 ≤ 4611686018427387000 → Ev (fun k => laws_heldTypeS.f k (mkTypeS x.f2 a) a) (a + cnTypeS x.f2) := by
  refine indTypeI fun x ih hx => ?_
  exact heldTypeS_step x.f2 hx.all.2.1 (fun y hy => ⟨(hx.all.2.2 y hy).all.1, ih y hy (hx.all.2.2 y hy)⟩)
theorem heldTypeS_ev (xs : List S29) (hn : xs.length ≤ 1048576) (hx : ∀ y ∈ xs, LnType y) (a : Int) (h0 : 0 ≤ a) (hb : a + cnTypeS xs ≤ 4611686018427387000) : Ev (fun k => laws_heldTypeS.f k (mkTypeS xs a) a) (a + cnTypeS xs) := heldTypeS_step xs hn (fun y hy => ⟨(hx y hy).all.1, heldType_in y (hx y hy)⟩) a h0 hb
set_option maxHeartbeats 8000000 in
set_option maxRecDepth 100000 in
theorem markType_own (x : S29) (hl1 : x.f1.length ≤ 1048576) (hm2 : MarksTypeS x.f2) (a : Int) (h0 : 0 ≤ a) (hb : a + (x.f1.length : Nat) + (cnTypeS x.f2 : Nat) ≤ 4611686018427387000) (v1 v2 : Value) (o1 o2 : Nat → Prop) (w0 w : World) (hB : Below w0.heap.size w0 w) (g1 : Kd.R Kd.string 9 w w0.heap.size o1 v1 x.f1) (g2 : Kd.S k29 29 w w0.heap.size o2 v2 x.f2) (u1 : ∀ k, o1 k → k < w.heap.size) (u2 : ∀ k, o2 k → k < w.heap.size) (d : ∀ k, o1 k → ¬ o2 k) :
    Calls Try.prog 17 #[.agg #[.int .i64 x.f0, v1, v2], .int .i64 a] w fun e w' => e = .returned (.int .i64 (a + (x.f1.length : Nat) + (cnTypeS x.f2 : Nat))) ∧ Kd.R Kd.string 9 w' w0.heap.size o1 v1 (mtS (a) x.f1.length) ∧ Kd.S k29 29 w' w0.heap.size o2 v2 (mkTypeS x.f2 (a + (x.f1.length : Nat))) ∧ Below w0.heap.size w0 w' ∧ Kept w w' (fun k => o1 k ∨ o2 k) := by
  have HB := Aside0.mk hB; have HK := Aside0.mk (Kept.refl w (fun k => o1 k ∨ o2 k)); have HA := Aside0.mk (And.intro h0 hb)
  have H1 := Aside0.mk g1; have HU1 := Aside0.mk u1
  have H2 := Aside0.mk g2; have HU2 := Aside0.mk u2
  have HL1 := Aside0.mk hl1
  have HL2 := Aside0.mk hm2
  have HD := Aside0.mk d
  clear hB h0 hb g1 u1 hl1 g2 u2 hm2 d
  go_enter Try.func17, Try.ntmps17
  go_wp2_with (first
    | ((with_reducible refine gate_dst (N := 2) rfl ?_)
       refine box_event ?hg (N := 2) ?hd (cs := #[.int .i64 x.f0, v1, v2]) (t := 29) ?hr ?_; (case hd => rfl); (case hg => rfl); (case hr => first | (go_simp; done) | (go_simp; rfl))
       intro gb hg w1 hbox hb
       have HG := Aside0.mk (show ∀ k, k < w.heap.size → k ≠ gb from fun k h e => by omega)
       have HG2 := Aside0.mk (show w0.heap.size ≤ gb by rw [hg]; exact HB.out.size)
       have n0 := hbox
       have n1 := Kd.R_below H1.out hb
       have n2 := Kd.S_below H2.out hb
       have n3 := below_step HB.out hb
       have n4 := Kept.below HK.out hb
       clear H1 H2 HB HK
       (try clear hx)
       have BK := Aside0.mk n0; have H1 := Aside0.mk n1; have H2 := Aside0.mk n2; have HB := Aside0.mk n3; have HK := Aside0.mk n4
       clear n0 n1 n2 n3 n4
       clear hbox hb hg
       have hx : w1.cell? ⟨gb, 1, none⟩ = some v1 := (blk_cell BK.out 1).trans rfl)
    | ((with_reducible refine gate_callee (f := 55) rfl ?_)
       refine goesL_ (some 8) rfl rfl Try.func55 (by kernel_rfl) rfl #[v1, .int .i64 a] rfl (by (try simp only [List.map_toArray, List.map_cons, List.map_nil]); first | done | rfl) ?_
       (with_reducible refine (markStringS_own x.f1 HL1.out (a) (by have := HA.out; omega) (by have := HA.out; omega) v1 o1 w0 _ HB.out H1.out).mono ?_)
       rintro e w2 ⟨rfl, hr, hb, hk⟩
       refine ⟨_, rfl, ?_⟩
       have n0 := blk_kept BK.out hk (fun h1 => HG.out _ (HU1.out _ h1) rfl)
       have n1 := hr
       have n2 := Kd.S_kept H2.out hk (fun k hk h1 => HD.out k h1 hk)
       have n3 := hb
       have n4 := HK.out.then_ hk (fun k h1 => .inl (Or.inl h1))
       clear BK H1 H2 HB HK
       (try clear hx)
       have BK := Aside0.mk n0; have H1 := Aside0.mk n1; have H2 := Aside0.mk n2; have HB := Aside0.mk n3; have HK := Aside0.mk n4
       clear n0 n1 n2 n3 n4
       clear hr hb hk
       have hx : w2.cell? ⟨gb, 2, none⟩ = some v2 := (blk_cell BK.out 2).trans rfl)
    | ((with_reducible refine gate_callee (f := 70) rfl ?_)
       refine goesL_ (some 12) rfl rfl Try.func70 (by kernel_rfl) rfl #[v2, .int .i64 (a + (x.f1.length : Nat))] rfl (by (try simp only [List.map_toArray, List.map_cons, List.map_nil]); first | done | rfl) ?_
       (with_reducible refine (MarksTypeS.go HL2.out (a + (x.f1.length : Nat)) v2 o2 w0 _ (by have := HA.out; omega) (by have := HA.out; omega) HB.out H2.out).mono ?_)
       rintro e w3 ⟨rfl, hr, hb, hk⟩
       refine ⟨_, rfl, ?_⟩
       have n0 := blk_kept BK.out hk (fun h1 => HG.out _ (HU2.out _ h1) rfl)
       have n1 := Kd.R_kept H1.out hk (fun k hk h1 => HD.out k hk h1)
       have n2 := hr
       have n3 := hb
       have n4 := HK.out.then_ hk (fun k h1 => .inl (Or.inr h1))
       clear BK H1 H2 HB HK
       (try clear hx)
       have BK := Aside0.mk n0; have H1 := Aside0.mk n1; have H2 := Aside0.mk n2; have HB := Aside0.mk n3; have HK := Aside0.mk n4
       clear n0 n1 n2 n3 n4
       clear hr hb hk))
  go_ret
  exact ⟨rfl, H1.out, H2.out, HB.out, HK.out⟩

end Go.Proofs.Ytcgdaeaaimkhdaa.Pz
end
section
namespace Go.Proofs.Ytcgdaeaaimkhdaa.Pz
open Go.RowKit Go.Proofs.YtcgdaeaaimkhdaaW.PrintWords Go.Proofs.YtcgdaeaaimkhdaaW.PrintLast Go.Proofs.Ytcgdaeaaimkhdaa.Pl Go.Proofs.Ytcgdaeaaimkhdaa.Ext
set_option linter.unusedVariables false
set_option linter.unusedSimpArgs false
def small (c : Int) : Bool := decide (97 ≤ c) && decide (c ≤ 122)
def dig (c : Int) : Bool := decide (48 ≤ c) && decide (c ≤ 57)
def chkS (s : ByteArray) : Nat → Nat → Bool
  | _, 0 => true
  | i, m + 1 => (small (bt s i) || (i != 0 && dig (bt s i))) && chkS s (i + 1) m
def chkI (s : ByteArray) : Nat → Nat → Bool
  | _, 0 => true
  | i, m + 1 => (small (bt s i) || dig (bt s i)) && chkI s (i + 1) m
def isName (s : ByteArray) : Bool := chkS s 0 s.size && (decide (1 ≤ s.size ∧ s.size ≤ 4) && (s.toList != ([105, 102] : List UInt8) && s.toList != ([102, 111, 114] : List UInt8)))
theorem chk_later (s : ByteArray) : ∀ m i, i ≠ 0 → chkI s i m = chkS s i m := by
  intro m
  induction m with
  | zero => intro i h; rfl
  | succ m ih =>
    intro i h
    simp only [chkI, chkS]
    rw [ih (i + 1) (by omega)]
    have : (i != 0) = true := by simpa using h
    rw [this, Bool.true_and]
theorem isSmall_eq (c : Int) : impl_isSmall.f c = some (small c) := by
  unfold impl_isSmall.f small
  split
  · rename_i h; simp [show (97 : Int) ≤ c from h]
  · rename_i h; simp [show ¬ (97 : Int) ≤ c from h]
theorem isDigit_eq (c : Int) : impl_isDigit.f c = some (dig c) := by
  unfold impl_isDigit.f dig
  split
  · rename_i h; simp [show (48 : Int) ≤ c from h]
  · rename_i h; simp [show ¬ (48 : Int) ≤ c from h]
theorem small_pos {c : Int} (h : 97 ≤ c) (h2 : c ≤ 122) : small c = true := by simp [small, h, h2]
theorem small_neg {c : Int} (h : ¬ (97 ≤ c ∧ c ≤ 122)) : small c = false := by
  unfold small
  by_cases h1 : 97 ≤ c
  · by_cases h2 : c ≤ 122
    · exact absurd ⟨h1, h2⟩ h
    · simp [h2]
  · simp [h1]
theorem dig_pos {c : Int} (h : 48 ≤ c) (h2 : c ≤ 57) : dig c = true := by simp [dig, h, h2]
theorem dig_neg {c : Int} (h : ¬ (48 ≤ c ∧ c ≤ 57)) : dig c = false := by
  unfold dig
  by_cases h1 : 48 ≤ c
  · by_cases h2 : c ≤ 57
    · exact absurd ⟨h1, h2⟩ h
    · simp [h2]
  · simp [h1]
theorem spec_IsName_ev (s : ByteArray) (hs : s.size ≤ 1048576) : Ev (fun k => spec_IsName.f k s) (isName s) := by
  have hend : Ev (fun (k : Nat) => ((spec_l1In.f (s.size : Int) 1 4).bind fun t => (if t = true then (if s.toList = ([105, 102] : List UInt8) then (some false) else (some (s.toList != ([102, 111, 114] : List UInt8)))) else (some false)))) (decide (1 ≤ s.size ∧ s.size ≤ 4) && (s.toList != ([105, 102] : List UInt8) && s.toList != ([102, 111, 114] : List UInt8))) := by
    refine ⟨0, fun k _ => ?_⟩
    unfold spec_l1In.f
    by_cases h1 : 1 ≤ s.size
    · by_cases h2 : s.size ≤ 4
      · rw [if_pos (by omega), Option.bind_some, if_pos (by simpa using (by omega : (s.size : Int) ≤ 4))]
        by_cases h3 : s.toList = ([105, 102] : List UInt8)
        · rw [if_pos h3]; simp [h3]
        · rw [if_neg h3]
          have : (s.toList != ([105, 102] : List UInt8)) = true := by simpa using h3
          rw [this]; simp [h1, h2]
      · rw [if_pos (by omega), Option.bind_some, if_neg (by simpa using (by omega : (4 : Int) < s.size))]
        simp [h2]
    · rw [if_neg (by omega), Option.bind_some, if_neg (by simp)]
      simp [h1]
  suffices h : ∀ m i, i + m = s.size → Ev (fun k => spec_IsName.l0 k s (i : Int)) (chkS s i m && (decide (1 ≤ s.size ∧ s.size ≤ 4) && (s.toList != ([105, 102] : List UInt8) && s.toList != ([102, 111, 114] : List UInt8)))) from h s.size 0 (by omega)
  intro m
  induction m with
  | zero =>
    intro i hi
    refine Ev.up ?_
    simp only [spec_IsName.l0]
    exact Ev.neg (by omega) (Ev.eq hend (by simp [chkS]))
  | succ m ih =>
    intro i hi
    refine Ev.up ?_
    simp only [spec_IsName.l0, chkS]
    rw [w1' (n := s.size) (by omega) hs]
    have hr := ih (i + 1) (by omega)
    have hdig : ∀ (hsm : small (bt s (i : Int)) = false), Ev (fun k => if (i : Int) = 0 then some false else if bt s (i : Int) < 48 then some false else if bt s (i : Int) > 57 then some false else spec_IsName.l0 k s ((i + 1 : Nat) : Int)) ((small (bt s (i : Int)) || (i != 0 && dig (bt s (i : Int)))) && chkS s (i + 1) m && (decide (1 ≤ s.size ∧ s.size ≤ 4) && (s.toList != ([105, 102] : List UInt8) && s.toList != ([102, 111, 114] : List UInt8)))) := by
      intro hsm
      rw [hsm, Bool.false_or]
      refine Ev.cases (fun h0 => ?_) (fun h0 => Ev.cases (fun h1 => ?_) (fun h1 => Ev.cases (fun h2 => ?_) (fun h2 => ?_)))
      · obtain rfl : i = 0 := by omega
        exact Ev.const (by simp)
      · rw [dig_neg (by omega)]; exact Ev.const (by simp)
      · rw [dig_neg (by omega)]; exact Ev.const (by simp)
      · rw [dig_pos (by omega) (by omega)]
        have hi0 : (i != 0) = true := by simpa using (show i ≠ 0 by omega)
        exact Ev.eq hr (by rw [hi0, Bool.true_and, Bool.true_and])
    refine Ev.pos (by omega) (Ev.pos (by omega) (Ev.cases (fun h1 => Ev.cases (fun h2 => ?_) (fun h2 => hdig (small_neg (by omega)))) (fun h1 => hdig (small_neg (by omega)))))
    rw [small_pos (by omega) h2, Bool.true_or, Bool.true_and]
    exact hr
theorem impl_IsName_ev (s : ByteArray) (hs : s.size ≤ 1048576) : Ev (fun k => impl_IsName.f k s) (isName s) := by
  have hl : ∀ m i, i + m = s.size → Ev (fun k => impl_IsName.l0 k s (s.size : Int) (i : Int)) (chkI s i m) := by
    intro m
    induction m with
    | zero =>
      intro i hi
      refine Ev.up ?_
      simp only [impl_IsName.l0]
      exact Ev.neg (by omega) (Ev.now _)
    | succ m ih =>
      intro i hi
      refine Ev.up ?_
      simp only [impl_IsName.l0, chkI]
      rw [w1' (n := s.size) (by omega) hs]
      refine Ev.pos (by omega) (Ev.pos (by omega) (Ev.pos (by omega) (Ev.fix (isSmall_eq _) ?_)))
      refine Ev.cases (fun h1 => ?_) (fun h1 => Ev.fix (isDigit_eq _) (Ev.cases (fun h2 => ?_) (fun h2 => ?_)))
      · rw [h1, Bool.true_or, Bool.true_and]; exact ih (i + 1) (by omega)
      · rw [h2, Bool.or_true, Bool.true_and]; exact ih (i + 1) (by omega)
      · rw [Bool.eq_false_iff.2 h1, Bool.eq_false_iff.2 h2]; exact Ev.const (by simp)
  have hj : ∀ b, Ev (fun k => impl_IsName.j0 k s b) (!b && chkI s 0 s.size) := by
    intro b
    refine Ev.up ?_
    simp only [impl_IsName.j0]
    refine Ev.cases (fun h => ?_) (fun h => ?_)
    · rw [h]; exact Ev.const (by simp)
    · rw [Bool.eq_false_iff.2 h]; exact Ev.eq (hl s.size 0 (by omega)) (by simp)
  have hjt : Ev (fun k => impl_IsName.j0 k s true) false := Ev.eq (hj true) (by simp)
  have hfail : ¬ (1 ≤ s.size ∧ s.size ≤ 4) → isName s = false := by intro h; simp only [isName]; rw [decide_eq_false h]; simp
  simp only [impl_IsName.f]
  refine Ev.cases (fun h1 => ?_) (fun h1 => Ev.cases (fun h2 => ?_) (fun h2 => Ev.pos (by omega) (Ev.fix (isSmall_eq _) ?_)))
  · rw [hfail (by omega)]; exact hjt
  · rw [hfail (by omega)]; exact hjt
  · obtain ⟨n, hn⟩ : ∃ n, s.size = n + 1 := ⟨s.size - 1, by omega⟩
    have hc : isName s = ((small (bt s 0) && chkS s 1 n) && (s.toList != ([105, 102] : List UInt8) && s.toList != ([102, 111, 114] : List UInt8))) := by
      simp only [isName]
      rw [decide_eq_true (show 1 ≤ s.size ∧ s.size ≤ 4 by omega), Bool.true_and, hn]
      simp [chkS]
    rw [hc]
    refine Ev.cases (fun h3 => ?_) (fun h3 => ?_)
    · have hk : chkI s 0 s.size = chkS s 1 n := by
        rw [hn]
        simp only [chkI]
        rw [chk_later s n (0 + 1) (by omega)]
        rw [show small (bt s ((0 : Nat) : Int)) = true from h3, Bool.true_or, Bool.true_and]
      rw [h3, Bool.true_and]
      refine Ev.cases (fun h4 => ?_) (fun h4 => ?_)
      · rw [h4]; exact Ev.eq hjt (by simp)
      · have h4' : (s.toList != ([105, 102] : List UInt8)) = true := by simpa using h4
        refine Ev.eq (hj _) ?_
        rw [hk, h4', Bool.true_and, Bool.and_comm]
        rfl
    · rw [Bool.eq_false_iff.2 h3]; exact Ev.eq hjt (by simp)
end Go.Proofs.Ytcgdaeaaimkhdaa.Pz
end
section
namespace Go.Proofs.Ytcgdaeaaimkhdaa.Pz
open Go.RowKit Go.Proofs.YtcgdaeaaimkhdaaW.PrintWords Go.Proofs.YtcgdaeaaimkhdaaW.PrintLast Go.Proofs.Ytcgdaeaaimkhdaa.Pl Go.Proofs.Ytcgdaeaaimkhdaa.Ext
set_option linter.unusedVariables false
set_option linter.unusedSimpArgs false
/-- Are the names ascending, from an index on? -/
def asc (xs : List ByteArray) : Nat → Nat → Bool
  | _, 0 => true
  | i, m + 1 => Op.bytesLess (xs.getD (i - 1) ByteArray.empty).toList (xs.getD i ByteArray.empty).toList && asc xs (i + 1) m
theorem rdm (xs : List ByteArray) (i : Nat) (h : 1 ≤ i) (hi : i ≤ 1048576) : wrap64 ((i : Int) - 1) = ((i - 1 : Nat) : Int) := by unfold wrap64; omega
theorem spec_AreAscending_ev (xs : List ByteArray) (hx : xs.length ≤ 1048576) : Ev (fun k => spec_AreAscending.f k xs) (asc xs 1 (xs.length - 1)) := by
  suffices h : ∀ m i, 1 ≤ i → (i + m = xs.length ∨ m = 0 ∧ xs.length ≤ i) → i ≤ 1048576 → Ev (fun k => spec_AreAscending.l0 k xs (i : Int)) (asc xs i m) by
    exact h (xs.length - 1) 1 (by omega) (by omega) (by omega)
  intro m
  induction m with
  | zero =>
    intro i h1 hi hl
    refine Ev.up ?_
    simp only [spec_AreAscending.l0]
    exact Ev.neg (by omega) (Ev.now _)
  | succ m ih =>
    intro i h1 hi hl
    refine Ev.up ?_
    simp only [spec_AreAscending.l0]
    rw [rdm xs i h1 hl]
    refine Ev.pos (by omega) (Ev.pos (by omega) (Ev.pos (by omega) (Ev.pos (by omega) ?_)))
    simp only [rdOf_str, asc]
    by_cases hc : Op.bytesLess (xs.getD (i - 1) ByteArray.empty).toList (xs.getD i ByteArray.empty).toList = true
    · refine Ev.pos hc ?_
      rw [w1' (n := xs.length) (by omega) hx, hc, Bool.true_and]
      exact ih (i + 1) (by omega) (by omega) (by omega)
    · refine Ev.neg hc ?_
      rw [Bool.eq_false_iff.2 hc, Bool.false_and]
      exact Ev.now _
theorem impl_AreAscending_ev (xs : List ByteArray) (hx : xs.length ≤ 1048576) : Ev (fun k => impl_AreAscending.f k xs) (asc xs 1 (xs.length - 1)) := by
  suffices h : ∀ m i, 1 ≤ i → (i + m = xs.length ∨ m = 0 ∧ xs.length ≤ i) → i ≤ 1048576 → Ev (fun k => impl_AreAscending.l0 k xs (i : Int)) (asc xs i m) by
    exact h (xs.length - 1) 1 (by omega) (by omega) (by omega)
  intro m
  induction m with
  | zero =>
    intro i h1 hi hl
    refine Ev.up ?_
    simp only [impl_AreAscending.l0]
    exact Ev.neg (by omega) (Ev.now _)
  | succ m ih =>
    intro i h1 hi hl
    refine Ev.up ?_
    simp only [impl_AreAscending.l0]
    rw [rdm xs i h1 hl]
    refine Ev.pos (by omega) (Ev.pos (by omega) (Ev.pos (by omega) (Ev.pos (by omega) ?_)))
    simp only [rdOf_str, asc]
    by_cases hc : Op.bytesLess (xs.getD (i - 1) ByteArray.empty).toList (xs.getD i ByteArray.empty).toList = true
    · refine Ev.pos hc ?_
      rw [w1' (n := xs.length) (by omega) hx, hc, Bool.true_and]
      exact ih (i + 1) (by omega) (by omega) (by omega)
    · refine Ev.neg hc ?_
      rw [Bool.eq_false_iff.2 hc, Bool.false_and]
      exact Ev.now _
end Go.Proofs.Ytcgdaeaaimkhdaa.Pz
end
section
namespace Go.Proofs.Ytcgdaeaaimkhdaa.Pz
open Go.RowKit Go.Proofs.YtcgdaeaaimkhdaaW.PrintWords Go.Proofs.YtcgdaeaaimkhdaaW.PrintLast Go.Proofs.Ytcgdaeaaimkhdaa.Pl Go.Proofs.Ytcgdaeaaimkhdaa.Ext
set_option linter.unusedVariables false
set_option linter.unusedSimpArgs false
/-- Can a list be that of a record's labels? -/
def labB (xs : List ByteArray) : Bool := xs.all isName && (decide (1 ≤ xs.length ∧ xs.length ≤ 4) && asc xs 1 (xs.length - 1))
theorem spec_l1In_eq (a b c : Int) : spec_l1In.f a b c = some (decide (b ≤ a ∧ a ≤ c)) := by
  unfold spec_l1In.f
  by_cases h : a ≥ b
  · rw [if_pos h]
    have h' : b ≤ a := h
    simp [h']
  · rw [if_neg h]
    have h' : ¬ b ≤ a := h
    simp [h']
theorem spec_l3Labels_ev (xs : List ByteArray) (hx : xs.length ≤ 1048576) (hy : ∀ y ∈ xs, y.size ≤ 1048576) : Ev (fun k => spec_l3Labels.f k xs) (labB xs) := by
  simp only [spec_l3Labels.f, labB]
  refine all_ev xs ByteArray.empty isName _ (fun k i => spec_l3Labels.l0 k xs (i : Int)) (fun k i => spec_IsName.f k (rdOf ByteArray.empty xs (i : Int))) (fun k i hi => ?_) ?_ (fun i hi => ?_)
  · simp only [spec_l3Labels.l0]
    rw [if_pos (by omega), if_pos (by omega), w1' hi hx]
  · refine Ev.up ?_
    simp only [spec_l3Labels.l0, spec_l1In_eq, Option.bind_some]
    refine Ev.neg (by omega) ?_
    refine Ev.cases (fun h => ?_) (fun h => ?_)
    · have h2 : (1 ≤ xs.length ∧ xs.length ≤ 4) := by simp at h; omega
      rw [decide_eq_true h2, Bool.true_and]
      exact Ev.bind (spec_AreAscending_ev xs hx) (Ev.now _)
    · have h2 : ¬ (1 ≤ xs.length ∧ xs.length ≤ 4) := by intro h3; apply h; simp; omega
      rw [decide_eq_false h2, Bool.false_and]
      exact Ev.now _
  · rw [rdOf_str]
    exact spec_IsName_ev _ (hy _ (mem_getD xs _ i hi))
theorem IndexFunc_labels (xs : List ByteArray) (hx : xs.length ≤ 1048576) (hy : ∀ y ∈ xs, y.size ≤ 1048576) : ∃ r : Int, Ev (fun k => slices_IndexFunc_string_of_labelsOk_1.l0 k xs (xs.length : Int) 0) r ∧ decide (r ≥ 0) = !(xs.all isName) := by
  suffices h : ∀ m i, i + m = xs.length → ∃ r : Int, Ev (fun k => slices_IndexFunc_string_of_labelsOk_1.l0 k xs (xs.length : Int) (i : Int)) r ∧ decide (r ≥ 0) = !((xs.drop i).all isName) from by simpa using h xs.length 0 (by omega)
  intro m
  induction m with
  | zero =>
    intro i hi
    refine ⟨-1, Ev.up ?_, by rw [List.drop_of_length_le (by omega)]; rfl⟩
    simp only [slices_IndexFunc_string_of_labelsOk_1.l0]
    exact Ev.neg (by omega) (Ev.now _)
  | succ m ih =>
    intro i hi
    have hlt : i < xs.length := by omega
    have e : xs.getD i ByteArray.empty = xs[i] := by simp [List.getD_eq_getElem?_getD, hlt]
    have hn : Ev (fun k => impl_labelsOk_1.f k (rdOf ByteArray.empty xs (i : Int))) (!(isName xs[i])) := by
      simp only [impl_labelsOk_1.f]
      rw [rdOf_str, e]
      exact Ev.bind (impl_IsName_ev _ (by rw [← e]; exact hy _ (mem_getD xs _ i hlt))) (Ev.now _)
    rw [List.drop_eq_getElem_cons hlt, List.all_cons]
    cases hp : isName xs[i]
    · refine ⟨(i : Int), Ev.up ?_, by simp⟩
      simp only [slices_IndexFunc_string_of_labelsOk_1.l0]
      rw [hp] at hn
      exact Ev.pos (by omega) (Ev.pos (by omega) (Ev.pos (by omega) (Ev.bind hn (Ev.pos (by simp) (Ev.now _)))))
    · obtain ⟨r, h1, h2⟩ := ih (i + 1) (by omega)
      refine ⟨r, Ev.up ?_, by rw [h2]; simp⟩
      simp only [slices_IndexFunc_string_of_labelsOk_1.l0, w1' hlt hx]
      rw [hp] at hn
      exact Ev.pos (by omega) (Ev.pos (by omega) (Ev.pos (by omega) (Ev.bind hn (Ev.neg (by simp) h1))))
theorem impl_labelsOk_ev (xs : List ByteArray) (hx : xs.length ≤ 1048576) (hy : ∀ y ∈ xs, y.size ≤ 1048576) : Ev (fun k => impl_labelsOk.f k xs) (labB xs) := by
  simp only [impl_labelsOk.f, labB, slices_ContainsFunc_string_of_labelsOk_1.f, slices_IndexFunc_string_of_labelsOk_1.f]
  by_cases h1 : xs.length < 1
  · refine Ev.pos (by omega) (Ev.const ?_)
    rw [decide_eq_false (by omega)]; simp
  refine Ev.neg (by omega) ?_
  by_cases h2 : xs.length > 4
  · refine Ev.pos (by omega) (Ev.const ?_)
    rw [decide_eq_false (by omega)]; simp
  refine Ev.neg (by omega) ?_
  rw [decide_eq_true (by omega), Bool.true_and]
  refine Ev.bind (impl_AreAscending_ev xs hx) ?_
  refine Ev.cases (fun h => ?_) (fun h => ?_)
  · obtain ⟨r, g1, g2⟩ := IndexFunc_labels xs hx hy
    refine Ev.bind (Ev.bind g1 (Ev.now _)) (Ev.const ?_)
    rw [g2, h]; simp
  · rw [Bool.eq_false_iff.2 h]
    exact Ev.const (by simp)

end Go.Proofs.Ytcgdaeaaimkhdaa.Pz
end
section
namespace Go.Proofs.Ytcgdaeaaimkhdaa.Pz
open Go.RowKit Go.Proofs.YtcgdaeaaimkhdaaW.PrintWords Go.Proofs.YtcgdaeaaimkhdaaW.PrintLast Go.Proofs.Ytcgdaeaaimkhdaa.Pl Go.Proofs.Ytcgdaeaaimkhdaa.Ext
set_option linter.unusedVariables false
set_option linter.unusedSimpArgs false
mutual
/-- Does a kind stand in a type? -/
def hasT (n : Int) : S29 → Bool
  | ⟨a, _, xs⟩ => hasTS n xs || a == n
def hasTS (n : Int) : List S29 → Bool
  | [] => false
  | x :: r => hasT n x || hasTS n r
end
mutual
/-- How deep is a type? -/
def depT : S29 → Nat
  | ⟨_, _, xs⟩ => depTS xs + 1
def depTS : List S29 → Nat
  | [] => 0
  | x :: r => max (depT x) (depTS r)
end
/-- How many arguments has a kind? -/
def wantT (a : Int) : Int := if a = 1 ∨ a = 2 then 0 else if a = 4 then 1 else if a = 5 then 2 else -1
/-- One node of a right type. -/
def topT (a : Int) (l : List ByteArray) (xs : List S29) : Bool :=
  if a = 3 then decide ((xs.length : Int) = l.length) && (labB l && !(hasTS 5 xs))
  else if a = 4 ∧ xs.length = 1 ∧ hasTS 5 xs = true then false
  else decide ((l.length : Int) = 0) && decide ((xs.length : Int) = wantT a)
mutual
def formT : S29 → Bool
  | ⟨a, l, xs⟩ => formTS xs && topT a l xs
def formTS : List S29 → Bool
  | [] => true
  | x :: r => formT x && formTS r
end
/-- One node, as_ the program looks at it. -/
def topI (plain : Bool) (deep : Int) (a : Int) (l : List ByteArray) (n : Nat) : Bool :=
  (decide (1 ≤ a ∧ a ≤ 5 ∧ deep ≤ 7) && decide ((n : Int) = imPut (imPut (imPut im0 4 1) 5 2) 3 (l.length : Int) a)) && (!(decide (a = 5) && plain) && (!(decide (a = 3) && !(labB l)) && (decide (a = 3) || decide (l.length = 0))))
mutual
def tfT (plain : Bool) (deep : Int) : S29 → Bool
  | ⟨a, l, xs⟩ => topI plain deep a l xs.length && tfTS (plain || (decide (a = 3) || decide (a = 4))) (deep + 1) xs
def tfTS (plain : Bool) (deep : Int) : List S29 → Bool
  | [] => true
  | x :: r => tfT plain deep x && tfTS plain deep r
end
theorem hasT_eq (n : Int) (x : S29) : hasT n x = (hasTS n x.f2 || x.f0 == n) := by cases x; simp only [hasT]
theorem depT_eq (x : S29) : depT x = depTS x.f2 + 1 := by cases x; simp only [depT]
theorem formT_eq (x : S29) : formT x = (formTS x.f2 && topT x.f0 x.f1 x.f2) := by cases x; simp only [formT]
theorem tfT_eq (p : Bool) (d : Int) (x : S29) : tfT p d x = (topI p d x.f0 x.f1 x.f2.length && tfTS (p || (decide (x.f0 = 3) || decide (x.f0 = 4))) (d + 1) x.f2) := by cases x; simp only [tfT]
theorem hasTS_any (n : Int) (xs : List S29) : hasTS n xs = xs.any (hasT n) := by
  induction xs with
  | nil => rfl
  | cons x r ih => simp [hasTS, ih]
theorem formTS_all (xs : List S29) : formTS xs = xs.all formT := by
  induction xs with
  | nil => rfl
  | cons x r ih => simp [formTS, ih]
theorem tfTS_all (p : Bool) (d : Int) (xs : List S29) : tfTS p d xs = xs.all (tfT p d) := by
  induction xs with
  | nil => rfl
  | cons x r ih => simp [tfTS, ih]
theorem depT_le (xs : List S29) (n : Nat) : depTS xs ≤ n ↔ ∀ y ∈ xs, depT y ≤ n := by
  induction xs with
  | nil => simp [depTS]
  | cons x r ih => simp [depTS, Nat.max_le, ih]
theorem depT_nd : ∀ x : S29, depT x ≤ ndType x := by
  refine indTypeI fun x ih => ?_
  rw [depT_eq, ndType_eq]
  have : depTS x.f2 ≤ (x.f2.map ndType).sum := (depT_le _ _).2 fun y hy => Nat.le_trans (ih y hy) (sum_le_of_mem ndType hy)
  omega
theorem many_eq (a : Int) (n : Nat) : imPut (imPut (imPut im0 4 1) 5 2) 3 (n : Int) a = if a = 3 then (n : Int) else if a = 5 then 2 else if a = 4 then 1 else 0 := by
  simp only [imPut, im0]
theorem tfT_iff : ∀ x : S29, ∀ p d, tfT p d x = true ↔ formT x = true ∧ (p = true → hasT 5 x = false) ∧ d + (depT x : Int) ≤ 8 := by
  refine indTypeI fun x ih p d => ?_
  rw [tfT_eq, formT_eq, hasT_eq, depT_eq]
  have hS : ∀ q, tfTS q (d + 1) x.f2 = true ↔ formTS x.f2 = true ∧ (q = true → hasTS 5 x.f2 = false) ∧ (x.f2 = [] ∨ d + (depTS x.f2 : Int) ≤ 7) := by
    intro q
    rw [tfTS_all, formTS_all, hasTS_any, List.all_eq_true, List.all_eq_true]
    constructor
    · intro h
      refine ⟨fun y hy => ((ih y hy q (d + 1)).1 (h y hy)).1, fun hq => ?_, ?_⟩
      · rw [Bool.eq_false_iff]
        intro hc
        obtain ⟨y, hy, h5⟩ := List.any_eq_true.1 hc
        rw [((ih y hy q (d + 1)).1 (h y hy)).2.1 hq] at h5
        exact absurd h5 (by decide)
      · by_cases he : x.f2 = []
        · exact Or.inl he
        refine Or.inr ?_
        have hb : ∀ y ∈ x.f2, (depT y : Int) ≤ 7 - d := fun y hy => by have := ((ih y hy q (d + 1)).1 (h y hy)).2.2; omega
        obtain ⟨y0, hy0⟩ := List.exists_mem_of_ne_nil _ he
        have h0 := hb y0 hy0
        have : depTS x.f2 ≤ (7 - d).toNat := (depT_le _ _).2 fun y hy => by have := hb y hy; omega
        omega
    · intro h y hy
      refine (ih y hy q (d + 1)).2 ⟨h.1 y hy, fun hq => ?_, ?_⟩
      · rw [Bool.eq_false_iff]
        intro hc
        have := h.2.1 hq
        rw [Bool.eq_false_iff] at this
        exact this (List.any_eq_true.2 ⟨y, hy, hc⟩)
      · rcases h.2.2 with he | hd
        · rw [he] at hy; cases hy
        have := (depT_le x.f2 (depTS x.f2)).1 (Nat.le_refl _) y hy
        omega
  rw [Bool.and_eq_true, hS]
  have hlen : x.f2 = [] ↔ x.f2.length = 0 := by cases x.f2 <;> simp
  have hdep : x.f2 = [] → depTS x.f2 = 0 := fun h => by rw [h]; rfl
  have hno : x.f2 = [] → hasTS 5 x.f2 = false := fun h => by rw [h]; rfl
  generalize x.f2 = xs at *
  generalize x.f0 = a at *
  generalize x.f1 = l at *
  simp only [topI, topT, many_eq, wantT]
  by_cases h3 : a = 3
  · subst h3
    simp only [if_true, Bool.and_eq_true, decide_eq_true_eq, Bool.or_eq_true, Bool.not_eq_true', Bool.and_eq_false_iff, decide_eq_false_iff_not, Bool.not_eq_false', Bool.or_eq_false_iff, beq_eq_false_iff_ne, true_or, or_true, true_implies, true_and, and_true, not_true_eq_false, false_or, or_false]
    constructor
    · rintro ⟨⟨⟨⟨_, _, h7⟩, hn⟩, _, hl⟩, hf, hh, hd⟩
      refine ⟨⟨hf, hn, hl, hh⟩, fun _ => ⟨hh, by decide⟩, ?_⟩
      rcases hd with he | hd
      · rw [hdep he]; omega
      · omega
    · rintro ⟨⟨hf, hn, hl, hh⟩, _, hd⟩
      refine ⟨⟨⟨⟨by decide, by decide, by omega⟩, hn⟩, Or.inl (by decide), hl⟩, hf, hh, Or.inr (by omega)⟩
  · by_cases h4 : a = 4
    · subst h4
      simp only [show ¬ ((4 : Int) = 3) by decide, show ¬ ((4 : Int) = 5) by decide, show ¬ ((4 : Int) = 1 ∨ (4 : Int) = 2) by decide, if_false, if_true, Bool.and_eq_true, decide_eq_true_eq, Bool.or_eq_true, Bool.not_eq_true', Bool.and_eq_false_iff, decide_eq_false_iff_not, Bool.not_eq_false', Bool.or_eq_false_iff, beq_eq_false_iff_ne, true_and, false_or, or_true, true_or, not_false_eq_true, and_true, true_implies]
      constructor
      · rintro ⟨⟨⟨⟨_, _, h7⟩, hn⟩, hl⟩, hf, hh, hd⟩
        have h1 : xs.length = 1 := by omega
        have hd' : d + (depTS xs : Int) ≤ 7 := by
          rcases hd with he | hd
          · rw [hlen] at he; omega
          · exact hd
        rw [if_neg (by rintro ⟨_, h⟩; rw [hh] at h; cases h)]
        simp [hf, hl, h1, hh]
        omega
      · rintro ⟨⟨hf, ht⟩, hp, hd⟩
        by_cases hc : xs.length = 1 ∧ hasTS 5 xs = true
        · rw [if_pos hc] at ht; cases ht
        rw [if_neg hc] at ht
        simp at ht
        have h1 : xs.length = 1 := by omega
        have hh : hasTS 5 xs = false := by
          rw [Bool.eq_false_iff]; exact fun h => hc ⟨h1, h⟩
        exact ⟨⟨⟨⟨by decide, by decide, by omega⟩, by omega⟩, by simp [ht.1]⟩, hf, hh, Or.inr (by omega)⟩
    · have e34 : (decide (a = 3) || decide (a = 4)) = false := by simp [h3, h4]
      simp only [h3, h4, if_false, false_and, Bool.and_eq_true, decide_eq_true_eq, Bool.or_eq_true, Bool.not_eq_true', Bool.and_eq_false_iff, decide_eq_false_iff_not, Bool.not_eq_false', Bool.or_eq_false_iff, beq_eq_false_iff_ne, true_or, false_or, true_and, or_false, not_false_eq_true]
      constructor
      · rintro ⟨⟨⟨⟨h1, h5, h7⟩, hn⟩, hp5, hl⟩, hf, hh, hd⟩
        have hl0 : l = [] := by simpa using hl
        have hd' : d + (depTS xs : Int) ≤ 7 := by
          rcases hd with he | hd
          · rw [hdep he]; omega
          · exact hd
        refine ⟨⟨hf, ?_⟩, fun hp => ⟨hh hp, ?_⟩, by omega⟩
        · rw [hl0]
          simp
          split <;> (split at hn <;> omega)
        · intro h
          rcases hp5 with h' | h'
          · exact h' h
          · rw [h'] at hp; cases hp
      · rintro ⟨⟨hf, ht⟩, hp, hd⟩
        simp at ht
        have hl0 : l = [] := ht.1
        have hw := ht.2
        refine ⟨⟨⟨⟨?_, ?_, by omega⟩, ?_⟩, ?_, by simp [hl0]⟩, hf, fun h => (hp h).1, Or.inr (by omega)⟩
        · split at hw <;> (try split at hw) <;> omega
        · split at hw <;> (try split at hw) <;> omega
        · split at hw <;> (try split at hw) <;> (try split) <;> omega
        · by_cases h5 : a = 5
          · refine Or.inr ?_
            rw [Bool.eq_false_iff]
            exact fun h => (hp h).2 h5
          · exact Or.inl h5
theorem spec_l3Has_ev (n : Int) : ∀ x : S29, SmType x → Ev (fun k => spec_l3Has.f k x.f0 x.f1 x.f2 n) (hasT n x) := by
  refine indTypeI fun x ih hs => ?_
  rw [hasT_eq, hasTS_any]
  refine Ev.up ?_
  simp only [spec_l3Has.f]
  refine any_ev x.f2 z29 (hasT n) _ (fun k i => spec_l3Has.l0 k n (i : Int) x.f0 x.f1 x.f2) (fun k i => spec_l3Has.f k (rd_T29 x.f2 (i : Int)).f0 (rd_T29 x.f2 (i : Int)).f1 (rd_T29 x.f2 (i : Int)).f2 n) (fun k i hi => ?_) ?_ (fun i hi => ih (x.f2.getD i z29) (mem_getD x.f2 z29 i hi) (hs.p2.2 _ (mem_getD x.f2 z29 i hi)))
  · simp only [spec_l3Has.l0]
    rw [if_pos (by omega), if_pos (by omega), w1' hi hs.p2.1]
  · refine Ev.up ?_
    simp only [spec_l3Has.l0]
    exact Ev.neg (by omega) (Ev.now _)

end Go.Proofs.Ytcgdaeaaimkhdaa.Pz
end
section
namespace Go.Proofs.Ytcgdaeaaimkhdaa.Pz
open Go.RowKit Go.Proofs.YtcgdaeaaimkhdaaW.PrintWords Go.Proofs.YtcgdaeaaimkhdaaW.PrintLast Go.Proofs.Ytcgdaeaaimkhdaa.Pl Go.Proofs.Ytcgdaeaaimkhdaa.Ext
set_option linter.unusedVariables false
set_option linter.unusedSimpArgs false
theorem spec_l1Max_eq (a b : Int) : spec_l1Max.f a b = some (mx a b) := by
  rw [mx_eq]; unfold spec_l1Max.f; split <;> rfl

end Go.Proofs.Ytcgdaeaaimkhdaa.Pz
end
section
namespace Go.Proofs.Ytcgdaeaaimkhdaa.Pz
open Go.RowKit Go.Proofs.YtcgdaeaaimkhdaaW.PrintWords Go.Proofs.YtcgdaeaaimkhdaaW.PrintLast Go.Proofs.Ytcgdaeaaimkhdaa.Pl Go.Proofs.Ytcgdaeaaimkhdaa.Ext
set_option linter.unusedVariables false
set_option linter.unusedSimpArgs false
theorem impl_SizeOfType_ev : ∀ x : S29, SmType x → ndType x ≤ 1048577 → Ev (fun k => impl_SizeOfType.f k x.f0 x.f1 x.f2) (ndType x : Int) := by
  refine indTypeI fun x ih hs hn => ?_
  refine Ev.up ?_
  simp only [impl_SizeOfType.f]
  rw [ndType_eq] at hn ⊢
  refine Ev.eq (fold_loop x.f2.length (fun k i => impl_SizeOfType.f k (rd_T29 x.f2 (i : Int)).f0 (rd_T29 x.f2 (i : Int)).f1 (rd_T29 x.f2 (i : Int)).f2) (fun k s i => impl_SizeOfType.l0 k s x.f2 (x.f2.length : Int) (i : Int)) (fun s t => wrap64 (s + t)) (fun i => (ndType (x.f2.getD i z29) : Int)) id
    (fun k s i hi => by simp only [impl_SizeOfType.l0]; rw [if_pos (by omega), if_pos (by omega), if_pos (by omega), w1' hi hs.p2.1])
    (fun k s => by simp only [impl_SizeOfType.l0]; rw [if_neg (by omega)]; rfl)
    (fun i hi => ih (x.f2.getD i z29) (mem_getD x.f2 z29 i hi) (hs.p2.2 _ (mem_getD x.f2 z29 i hi)) (by have := sum_le_of_mem ndType (mem_getD x.f2 z29 i hi); omega)) x.f2.length 0 1 (by omega)) ?_
  rw [foldl_range (fun (s : Int) y => wrap64 (s + (ndType y : Int))) z29 x.f2 1]
  exact fold_wrap ndType x.f2 1 (by omega)

end Go.Proofs.Ytcgdaeaaimkhdaa.Pz
end
section
namespace Go.Proofs.Ytcgdaeaaimkhdaa.Pz
open Go.RowKit Go.Proofs.YtcgdaeaaimkhdaaW.PrintWords Go.Proofs.YtcgdaeaaimkhdaaW.PrintLast Go.Proofs.Ytcgdaeaaimkhdaa.Pl Go.Proofs.Ytcgdaeaaimkhdaa.Ext
set_option linter.unusedVariables false
set_option linter.unusedSimpArgs false
theorem spec_l3Form_ev : ∀ x : S29, SmType x → Ev (fun k => spec_l3Form.f k x.f0 x.f1 x.f2) (formT x) := by
  refine indTypeI fun x ih hs => ?_
  have j2 : ∀ b : Bool, (b = true ↔ (x.f0 = 1 ∨ x.f0 = 2)) → Ev (fun k => spec_l3Form.j2 k (-1) x.f0 b x.f0 x.f1 x.f2) (decide ((x.f1.length : Int) = 0) && decide ((x.f2.length : Int) = wantT x.f0)) := by
    intro b hb
    refine Ev.up ?_
    simp only [spec_l3Form.j2]
    unfold wantT
    refine Ev.cases (fun h => ?_) (fun h => ?_)
    · rw [if_pos (hb.1 h)]
      exact Ev.cases (fun g => Ev.const (by rw [decide_eq_true g, Bool.true_and]; rfl)) (fun g => Ev.const (by rw [decide_eq_false g]; rfl))
    · rw [if_neg (fun g => h (hb.2 g))]
      refine Ev.cases (fun g4 => ?_) (fun g4 => ?_)
      · rw [if_pos g4]; exact Ev.cases (fun g => Ev.const (by rw [decide_eq_true g, Bool.true_and]; rfl)) (fun g => Ev.const (by rw [decide_eq_false g]; rfl))
      rw [if_neg g4]
      refine Ev.cases (fun g5 => ?_) (fun g5 => ?_)
      · rw [if_pos g5]; exact Ev.cases (fun g => Ev.const (by rw [decide_eq_true g, Bool.true_and]; rfl)) (fun g => Ev.const (by rw [decide_eq_false g]; rfl))
      · rw [if_neg g5]; exact Ev.cases (fun g => Ev.const (by rw [decide_eq_true g, Bool.true_and]; rfl)) (fun g => Ev.const (by rw [decide_eq_false g]; rfl))
  have j1 : ∀ b : Bool, Ev (fun k => spec_l3Form.j1 k b x.f0 x.f1 x.f2) (!b && (decide ((x.f1.length : Int) = 0) && decide ((x.f2.length : Int) = wantT x.f0))) := by
    intro b
    refine Ev.up ?_
    simp only [spec_l3Form.j1]
    refine Ev.cases (fun h => Ev.const (by simp [h])) (fun h => ?_)
    rw [Bool.eq_false_iff.2 h, Bool.not_false, Bool.true_and]
    refine Ev.cases (fun h1 => j2 _ (by simp [h1])) (fun h1 => j2 _ (by simp [h1]))
  rw [formT_eq, formTS_all]
  refine Ev.up ?_
  simp only [spec_l3Form.f]
  refine all_ev x.f2 z29 formT _ (fun k i => spec_l3Form.l0 k (i : Int) x.f0 x.f1 x.f2) (fun k i => spec_l3Form.f k (rd_T29 x.f2 (i : Int)).f0 (rd_T29 x.f2 (i : Int)).f1 (rd_T29 x.f2 (i : Int)).f2) (fun k i hi => ?_) ?_ (fun i hi => ih (x.f2.getD i z29) (mem_getD x.f2 z29 i hi) (hs.p2.2 _ (mem_getD x.f2 z29 i hi)))
  · simp only [spec_l3Form.l0]
    rw [if_pos (by omega), if_pos (by omega), w1' hi hs.p2.1]
  · refine Ev.up ?_
    simp only [spec_l3Form.l0]
    refine Ev.neg (by omega) ?_
    unfold topT
    refine Ev.cases (fun h3 => ?_) (fun h3 => ?_)
    · rw [if_pos h3]
      refine Ev.cases (fun hl => ?_) (fun hl => ?_)
      · rw [decide_eq_true hl, Bool.true_and]
        refine Ev.bind (spec_l3Labels_ev x.f1 hs.p1.1 hs.p1.2) ?_
        refine Ev.cases (fun hb => ?_) (fun hb => ?_)
        · rw [hb, Bool.true_and]
          refine Ev.bind (spec_l3Has_ev 5 x hs) (Ev.const ?_)
          rw [hasT_eq, h3]; simp
        · rw [Bool.eq_false_iff.2 hb]; exact Ev.now _
      · rw [decide_eq_false hl]; exact Ev.now _
    · rw [if_neg h3]
      refine Ev.cases (fun h4 => ?_) (fun h4 => ?_)
      · refine Ev.cases (fun h1 => Ev.pos (by omega) ?_) (fun h1 => ?_)
        · have hl1 : x.f2.length = 1 := by omega
          have hh := spec_l3Has_ev 5 (x.f2.getD 0 z29) (hs.p2.2 _ (mem_getD x.f2 z29 0 (by omega)))
          refine Ev.bind hh ?_
          have e : hasT 5 (x.f2.getD 0 z29) = hasTS 5 x.f2 := by
            obtain ⟨y, hy⟩ := List.length_eq_one_iff.1 hl1
            rw [hy]; simp [hasTS]
          rw [e]
          refine Ev.eq (j1 _) ?_
          cases hc : hasTS 5 x.f2
          · rw [if_neg (by simp)]; rfl
          · rw [if_pos ⟨h4, hl1, rfl⟩]; rfl
        · rw [if_neg (by omega)]
          exact j1 false
      · rw [if_neg (fun h => h4 h.1)]
        exact j1 false
theorem impl_typeForm_ev : ∀ x : S29, SmType x → ∀ p d, 0 ≤ d → d ≤ 8 → Ev (fun k => impl_typeForm.f k x.f0 x.f1 x.f2 p d) (tfT p d x) := by
  refine indTypeI fun x ih hs p d hd0 hd1 => ?_
  have wx := wf64 hs.p0
  have hl1 := hs.p1.1
  have j4 : d ≤ 7 → ∀ q, Ev (fun k => impl_typeForm.j4 k d q x.f2) (tfTS q (d + 1) x.f2) := by
    intro hd7 q
    refine Ev.up ?_
    simp only [impl_typeForm.j4]
    refine Ev.eq (all_ev x.f2 z29 (tfT q (d + 1)) true (fun k i => impl_typeForm.l0 k d q (x.f2.length : Int) (i : Int) x.f2) (fun k i => impl_typeForm.f k (rd_T29 x.f2 (i : Int)).f0 (rd_T29 x.f2 (i : Int)).f1 (rd_T29 x.f2 (i : Int)).f2 q (d + 1)) (fun k i hi => ?_) ?_ (fun i hi => ?_)) (by rw [tfTS_all, Bool.and_true])
    · simp only [impl_typeForm.l0]
      rw [if_pos (by omega), if_pos (by omega), if_pos (by omega), w1' hi hs.p2.1, w64 (a := d + 1) (by omega) (by omega)]
    · refine Ev.up ?_
      simp only [impl_typeForm.l0]
      exact Ev.neg (by omega) (Ev.now _)
    · exact ih (x.f2.getD i z29) (mem_getD x.f2 z29 i hi) (hs.p2.2 _ (mem_getD x.f2 z29 i hi)) q (d + 1) (by omega) (by omega)
  have j3 : d ≤ 7 → Ev (fun k => impl_typeForm.j3 k p d x.f0 x.f2) (tfTS (p || (decide (x.f0 = 3) || decide (x.f0 = 4))) (d + 1) x.f2) := by
    intro hd7
    refine Ev.up ?_
    simp only [impl_typeForm.j3]
    refine Ev.cases (fun h => ?_) (fun h => ?_)
    · rw [h, Bool.true_or]; exact j4 hd7 true
    · rw [Bool.eq_false_iff.2 h, Bool.false_or]
      refine Ev.cases (fun h3 => ?_) (fun h3 => ?_)
      · rw [decide_eq_true h3, Bool.true_or]; exact j4 hd7 true
      · rw [decide_eq_false h3, Bool.false_or]; exact j4 hd7 _
  have j2 : d ≤ 7 → ∀ b : Bool, Ev (fun k => impl_typeForm.j2 k p d b x.f0 x.f1 x.f2) (!b && ((decide (x.f0 = 3) || decide (x.f1.length = 0)) && tfTS (p || (decide (x.f0 = 3) || decide (x.f0 = 4))) (d + 1) x.f2)) := by
    intro hd7 b
    refine Ev.up ?_
    simp only [impl_typeForm.j2]
    refine Ev.cases (fun h => Ev.const (by rw [h]; rfl)) (fun h => ?_)
    rw [Bool.eq_false_iff.2 h, Bool.not_false, Bool.true_and]
    refine Ev.cases (fun h3 => ?_) (fun h3 => ?_)
    · have := j3 hd7
      rw [decide_eq_true h3] at this ⊢
      exact this
    · rw [decide_eq_false h3, Bool.false_or]
      refine Ev.cases (fun hl => Ev.const ?_) (fun hl => ?_)
      · rw [decide_eq_false (by omega)]; rfl
      · rw [decide_eq_true (by omega), Bool.true_and]
        have := j3 hd7
        rw [decide_eq_false h3] at this
        exact this
  have j1 : d ≤ 7 → ∀ b : Bool, Ev (fun k => impl_typeForm.j1 k p d b x.f0 x.f1 x.f2) (!b && (!(decide (x.f0 = 3) && !(labB x.f1)) && ((decide (x.f0 = 3) || decide (x.f1.length = 0)) && tfTS (p || (decide (x.f0 = 3) || decide (x.f0 = 4))) (d + 1) x.f2))) := by
    intro hd7 b
    refine Ev.up ?_
    simp only [impl_typeForm.j1]
    refine Ev.cases (fun h => Ev.const (by rw [h]; rfl)) (fun h => ?_)
    rw [Bool.eq_false_iff.2 h, Bool.not_false, Bool.true_and]
    refine Ev.cases (fun h3 => ?_) (fun h3 => ?_)
    · refine Ev.bind (impl_labelsOk_ev x.f1 hs.p1.1 hs.p1.2) ?_
      have := j2 hd7 (!(labB x.f1))
      rw [decide_eq_true h3] at this ⊢
      rw [Bool.true_and]
      exact this
    · have := j2 hd7 false
      rw [decide_eq_false h3] at this ⊢
      rw [Bool.false_and]
      exact this
  have j0 : ∀ b : Bool, (b = false → d ≤ 7) → Ev (fun k => impl_typeForm.j0 k p d b x.f0 x.f1 x.f2) (!b && (!(decide (x.f0 = 5) && p) && (!(decide (x.f0 = 3) && !(labB x.f1)) && ((decide (x.f0 = 3) || decide (x.f1.length = 0)) && tfTS (p || (decide (x.f0 = 3) || decide (x.f0 = 4))) (d + 1) x.f2)))) := by
    intro b hb
    refine Ev.up ?_
    simp only [impl_typeForm.j0]
    refine Ev.cases (fun h => Ev.const (by rw [h]; rfl)) (fun h => ?_)
    have hd7 := hb (Bool.eq_false_iff.2 h)
    rw [Bool.eq_false_iff.2 h, Bool.not_false, Bool.true_and]
    refine Ev.cases (fun h5 => ?_) (fun h5 => ?_)
    · rw [decide_eq_true h5, Bool.true_and]; exact j1 hd7 p
    · rw [decide_eq_false h5, Bool.false_and]; exact j1 hd7 false
  rw [tfT_eq]
  unfold topI
  refine Ev.up ?_
  simp only [impl_typeForm.f]
  refine Ev.pos (by omega) (Ev.pos (by omega) (Ev.pos (by omega) (Ev.pos (by omega) ?_)))
  have no : ¬ (1 ≤ x.f0 ∧ x.f0 ≤ 5 ∧ d ≤ 7) → ∀ A B C : Bool, Ev (fun k => impl_typeForm.j0 k p d true x.f0 x.f1 x.f2) (((decide (1 ≤ x.f0 ∧ x.f0 ≤ 5 ∧ d ≤ 7) && A) && B) && C) := by
    intro h A B C
    rw [decide_eq_false h]
    exact j0 true (fun h => by cases h)
  refine Ev.cases (fun h1 => no (by omega) _ _ _) (fun h1 => ?_)
  refine Ev.cases (fun h2 => no (by omega) _ _ _) (fun h2 => ?_)
  refine Ev.cases (fun h3 => no (by omega) _ _ _) (fun h3 => ?_)
  rw [decide_eq_true (by omega : 1 ≤ x.f0 ∧ x.f0 ≤ 5 ∧ d ≤ 7), Bool.true_and]
  refine Ev.eq (j0 _ (fun _ => by omega)) ?_
  have e : ((x.f2.length : Int) != imPut (imPut (imPut im0 4 1) 5 2) 3 (x.f1.length : Int) x.f0) = !(decide ((x.f2.length : Int) = imPut (imPut (imPut im0 4 1) 5 2) 3 (x.f1.length : Int) x.f0)) := rfl
  rw [e, Bool.not_not]
  simp only [Bool.and_assoc]
theorem spec_l3Left_ev : ∀ x : S29, SmType x → ∀ n : Int, 0 ≤ n → n ≤ 1048577 → ∃ r, Ev (fun k => spec_l3Left.f k x.f0 x.f1 x.f2 n) r ∧ ((ndType x : Int) ≤ n → r = n - ndType x) ∧ (n < ndType x → r < 0) ∧ r ≤ 1048577 := by
  refine indTypeI fun x ih hs n hn hn2 => ?_
  rw [ndType_eq]
  have loop : ∀ m i s, i + m = x.f2.length → s ≤ 1048577 → ∃ r, Ev (fun k => spec_l3Left.l0 k s (i : Int) x.f0 x.f1 x.f2) r ∧ (0 ≤ s → (((((x.f2.drop i).map ndType).sum : Nat) : Int) ≤ s → r = s - (((x.f2.drop i).map ndType).sum : Nat)) ∧ (s < (((x.f2.drop i).map ndType).sum : Nat) → r < 0)) ∧ (s < 0 → r < 0) ∧ r ≤ 1048577 := by
    intro m
    induction m with
    | zero =>
      intro i s hi hs1
      refine ⟨s, Ev.up ?_, fun h => ?_, id, hs1⟩
      · simp only [spec_l3Left.l0]; exact Ev.neg (by omega) (Ev.now _)
      · rw [List.drop_of_length_le (by omega)]; simp <;> omega
    | succ m ihm =>
      intro i s hi hs1
      have hlt : i < x.f2.length := by omega
      have e : x.f2.getD i z29 = x.f2[i] := by simp [List.getD_eq_getElem?_getD, hlt]
      by_cases h0 : 0 ≤ s
      · obtain ⟨r, h1, h2, h3, h4⟩ := ih (x.f2.getD i z29) (mem_getD x.f2 z29 i hlt) (hs.p2.2 _ (mem_getD x.f2 z29 i hlt)) s h0 hs1
        obtain ⟨u, g1, g2, g3, g4⟩ := ihm (i + 1) r (by omega) h4
        refine ⟨u, Ev.up ?_, fun _ => ?_, fun h => by omega, g4⟩
        · simp only [spec_l3Left.l0, w1' hlt hs.p2.1]
          exact Ev.pos (by omega) (Ev.pos h0 (Ev.pos (by omega) (Ev.bind h1 g1)))
        · rw [List.drop_eq_getElem_cons hlt, List.map_cons, List.sum_cons, ← e]
          by_cases hc : (ndType (x.f2.getD i z29) : Int) ≤ s
          · have := h2 hc
            have := g2 (by omega)
            omega
          · have := h3 (by omega)
            have := g3 (by omega)
            omega
      · refine ⟨s, Ev.up ?_, fun h => absurd h h0, id, hs1⟩
        simp only [spec_l3Left.l0]
        exact Ev.pos (by omega) (Ev.neg (by omega) (Ev.now _))
  obtain ⟨r, h1, h2, h3, h4⟩ := loop x.f2.length 0 (n - 1) (by omega) (by omega)
  refine ⟨r, Ev.up ?_, ?_, ?_, h4⟩
  · simp only [spec_l3Left.f]
    rw [w64 (a := n - 1) (by omega) (by omega)]
    exact h1
  · intro h; have := h2 (by omega); simp at this; omega
  · intro h
    by_cases h0 : 0 ≤ n - 1
    · have := h2 h0; simp at this; omega
    · exact h3 (by omega)

end Go.Proofs.Ytcgdaeaaimkhdaa.Pz
end
section
namespace Go.Proofs.Ytcgdaeaaimkhdaa.Pz
open Go.RowKit Go.Proofs.YtcgdaeaaimkhdaaW.PrintWords Go.Proofs.YtcgdaeaaimkhdaaW.PrintLast Go.Proofs.Ytcgdaeaaimkhdaa.Pl Go.Proofs.Ytcgdaeaaimkhdaa.Ext
set_option linter.unusedVariables false
set_option linter.unusedSimpArgs false
theorem mx_nat (a b : Nat) : mx (a : Int) (b : Int) = ((max a b : Nat) : Int) := by rw [mx_eq]; split <;> omega
theorem fold_mx : ∀ (xs : List S29) (s : Nat), xs.foldl (fun (s : Int) y => mx s (depT y : Int)) (s : Int) = ((max s (depTS xs) : Nat) : Int)
  | [], s => by simp [depTS]
  | x :: r, s => by
    rw [List.foldl_cons, mx_nat, fold_mx r]
    simp only [depTS]
    congr 1
    omega
theorem spec_DepthOfType_ev : ∀ x : S29, SmType x → ndType x ≤ 1048577 → Ev (fun k => spec_DepthOfType.f k x.f0 x.f1 x.f2) (depT x : Int) := by
  refine indTypeI fun x ih hs hn => ?_
  have hd := depT_nd x
  rw [ndType_eq] at hn
  refine Ev.up ?_
  simp only [spec_DepthOfType.f]
  refine Ev.eq (fold_loop x.f2.length (fun k i => spec_DepthOfType.f k (rd_T29 x.f2 (i : Int)).f0 (rd_T29 x.f2 (i : Int)).f1 (rd_T29 x.f2 (i : Int)).f2) (fun k s i => spec_DepthOfType.l0 k s (i : Int) x.f0 x.f1 x.f2) mx (fun i => (depT (x.f2.getD i z29) : Int)) (fun s => wrap64 (s + 1))
    (fun k s i hi => by simp only [spec_DepthOfType.l0, spec_l1Max_eq, Option.bind_some]; rw [if_pos (by omega), if_pos (by omega), w1' hi hs.p2.1])
    (fun k s => by simp only [spec_DepthOfType.l0]; rw [if_neg (by omega)])
    (fun i hi => ih (x.f2.getD i z29) (mem_getD x.f2 z29 i hi) (hs.p2.2 _ (mem_getD x.f2 z29 i hi)) (by have := sum_le_of_mem ndType (mem_getD x.f2 z29 i hi); omega)) x.f2.length 0 0 (by omega)) ?_
  rw [foldl_range (fun (s : Int) y => mx s (depT y : Int)) z29 x.f2 0]
  have e := fold_mx x.f2 0
  rw [depT_eq] at hd ⊢
  rw [ndType_eq] at hd
  rw [show (0 : Int) = ((0 : Nat) : Int) from rfl, e, w64 (by omega) (by omega)]
  omega
/-- Is a type valid? -/
def vT (x : S29) : Bool := decide (ndType x ≤ 24) && (decide (depT x ≤ 7) && formT x)
theorem spec_IsValidType_ev (x : S29) (hs : SmType x) (hn : ndType x ≤ 1048577) : Ev (fun k => spec_IsValidType.f k x.f0 x.f1 x.f2) (vT x) := by
  obtain ⟨r, h1, h2, h3, _⟩ := spec_l3Left_ev x hs 24 (by decide) (by decide)
  simp only [spec_IsValidType.f, vT]
  refine Ev.bind h1 ?_
  by_cases hc : ndType x ≤ 24
  · have := h2 (by omega)
    rw [decide_eq_true hc, Bool.true_and]
    refine Ev.pos (by omega) (Ev.bind (spec_DepthOfType_ev x hs hn) ?_)
    refine Ev.cases (fun hd => ?_) (fun hd => ?_)
    · rw [decide_eq_true (by omega), Bool.true_and]
      exact Ev.bind (spec_l3Form_ev x hs) (Ev.now _)
    · rw [decide_eq_false (by omega)]; exact Ev.now _
  · have := h3 (by omega)
    rw [decide_eq_false hc]
    exact Ev.neg (by omega) (Ev.now _)
theorem impl_IsValidType_ev (x : S29) (hs : SmType x) (hn : ndType x ≤ 1048577) : Ev (fun k => impl_IsValidType.f k x.f0 x.f1 x.f2) (vT x) := by
  simp only [impl_IsValidType.f, vT]
  refine Ev.bind (impl_typeForm_ev x hs false 1 (by decide) (by decide)) ?_
  have e := tfT_iff x false 1
  refine Ev.cases (fun h => ?_) (fun h => ?_)
  · obtain ⟨h1, _, h2⟩ := e.1 h
    refine Ev.bind (impl_SizeOfType_ev x hs hn) (Ev.const ?_)
    rw [h1, decide_eq_true (by omega : depT x ≤ 7)]
    simp
    omega
  · refine Ev.const ?_
    cases hf : formT x
    · simp
    · have : ¬ depT x ≤ 7 := fun hd => h (e.2 ⟨hf, fun hp => absurd hp (by decide), by omega⟩)
      rw [decide_eq_false this]; simp
end Go.Proofs.Ytcgdaeaaimkhdaa.Pz
end
section
namespace Go.Proofs.Ytcgdaeaaimkhdaa.Pz
open Go.RowKit Go.Proofs.YtcgdaeaaimkhdaaW.PrintWords Go.Proofs.YtcgdaeaaimkhdaaW.PrintLast Go.Proofs.Ytcgdaeaaimkhdaa.Pl Go.Proofs.Ytcgdaeaaimkhdaa.Ext
set_option linter.unusedVariables false
set_option linter.unusedSimpArgs false
theorem Index_at (xs : List ByteArray) (hx : xs.length ≤ 1048576) (s : ByteArray) : ∃ r : Int, Ev (fun k => spec_IndexOf.f k xs s) r ∧ Ev (fun k => slices_Index_string_string.f k xs s) r ∧ (r = -1 ∨ (0 ≤ r ∧ r < xs.length)) := by
  suffices h : ∀ m i, i + m = xs.length → ∃ r : Int, Ev (fun k => spec_IndexOf.l0 k xs s (i : Int)) r ∧ Ev (fun k => slices_Index_string_string.l0 k xs s (xs.length : Int) (i : Int)) r ∧ (r = -1 ∨ (0 ≤ r ∧ r < xs.length)) from h xs.length 0 (by omega)
  intro m
  induction m with
  | zero =>
    intro i hi
    refine ⟨-1, Ev.up ?_, Ev.up ?_, .inl rfl⟩
    · simp only [spec_IndexOf.l0]; exact Ev.neg (by omega) (Ev.now _)
    · simp only [slices_Index_string_string.l0]; exact Ev.neg (by omega) (Ev.now _)
  | succ m ih =>
    intro i hi
    obtain ⟨r, h1, h2, h3⟩ := ih (i + 1) (by omega)
    by_cases hc : (rdOf ByteArray.empty xs (i : Int)).toList = s.toList
    · refine ⟨(i : Int), Ev.up ?_, Ev.up ?_, .inr ⟨by omega, by omega⟩⟩
      · simp only [spec_IndexOf.l0]; exact Ev.pos (by omega) (Ev.pos (by omega) (Ev.pos hc (Ev.now _)))
      · simp only [slices_Index_string_string.l0]; exact Ev.pos (by omega) (Ev.pos (by omega) (Ev.pos (by omega) (Ev.pos hc.symm (Ev.now _))))
    · refine ⟨r, Ev.up ?_, Ev.up ?_, h3⟩
      · simp only [spec_IndexOf.l0]
        refine Ev.pos (by omega) (Ev.pos (by omega) (Ev.neg hc ?_))
        rw [w1' (n := xs.length) (by omega) hx]; exact h1
      · simp only [slices_Index_string_string.l0]
        refine Ev.pos (by omega) (Ev.pos (by omega) (Ev.pos (by omega) (Ev.neg (fun h => hc h.symm) ?_)))
        rw [w1' (n := xs.length) (by omega) hx]; exact h2
theorem vT_len (x : S29) (h : vT x = true) (h3 : x.f0 = 3) : x.f2.length = x.f1.length := by
  unfold vT at h
  simp only [Bool.and_eq_true] at h
  have hf := h.2
  (try replace hf := hf.2)
  rw [formT_eq] at hf
  simp only [Bool.and_eq_true] at hf
  have ht := hf.2
  unfold topT at ht
  rw [if_pos h3] at ht
  simp only [Bool.and_eq_true, decide_eq_true_eq] at ht
  omega
theorem cnT_elem (x : S29) (y : S29) (h : y ∈ x.f2) : cnType y ≤ cnType x := by
  have := cnType_mem h
  rw [cnType_eq x]
  omega
theorem FieldType_same (x : S29) (hs : SmType x) (hn : ndType x ≤ 1048577) (s : ByteArray) : ∃ (r : S29) (b : Bool), Ev (fun k => spec_FieldType.f k x.f0 x.f1 x.f2 s) (r.f0, r.f1, r.f2, b) ∧ Ev (fun k => impl_FieldType.f k x.f0 x.f1 x.f2 s) (r.f0, r.f1, r.f2, b) ∧ SmType r ∧ cnType r ≤ cnType x + 1 := by
  obtain ⟨t, h1, h2, h3⟩ := Index_at x.f1 hs.p1.1 s
  have v1 := spec_IsValidType_ev x hs hn
  have v2 := impl_IsValidType_ev x hs hn
  have hz : SmType (⟨0, [], []⟩ : S29) := SmType.mk (by decide) ⟨by simp, by simp⟩ (by simp) (by simp)
  have hno : ∀ b : Bool, (cnType (⟨0, [], []⟩ : S29) ≤ cnType x + 1) := fun _ => by simp [cnType, cnTypeS]
  by_cases hv : vT x = true
  · by_cases hk : x.f0 = 3
    · by_cases ht : t < 0
      · refine ⟨⟨0, [], []⟩, false, ?_, ?_, hz, hno true⟩
        · simp only [spec_FieldType.f]
          exact Ev.bind h1 (Ev.bind v1 (Ev.pos hv (Ev.pos hk (Ev.pos ht (Ev.now _)))))
        · simp only [impl_FieldType.f]
          exact Ev.bind h2 (Ev.bind v2 (Ev.pos hv (Ev.pos hk (Ev.pos ht (Ev.now _)))))
      · obtain ⟨n, rfl⟩ : ∃ n : Nat, t = (n : Int) := ⟨t.toNat, by omega⟩
        have hl := vT_len x hv hk
        have hlt : n < x.f2.length := by omega
        have hm := mem_getD x.f2 z29 n hlt
        have hsy := hs.p2.2 _ hm
        refine ⟨x.f2.getD n z29, true, ?_, ?_, hsy, by have := cnT_elem x _ hm; omega⟩
        · simp only [spec_FieldType.f]
          exact Ev.bind h1 (Ev.bind v1 (Ev.pos hv (Ev.pos hk (Ev.neg ht (Ev.pos (by omega) (Ev.pos (by omega) (Ev.bind (spec_l3Copy_ev _ hsy) (Ev.now _))))))))
        · simp only [impl_FieldType.f]
          exact Ev.bind h2 (Ev.bind v2 (Ev.pos hv (Ev.pos hk (Ev.neg ht (Ev.pos (by omega) (Ev.pos (by omega) (Ev.bind (impl_cloneType_ev _ hsy) (Ev.now _))))))))
    · refine ⟨⟨0, [], []⟩, false, ?_, ?_, hz, hno true⟩
      · simp only [spec_FieldType.f]
        exact Ev.bind h1 (Ev.bind v1 (Ev.pos hv (Ev.neg hk (Ev.now _))))
      · simp only [impl_FieldType.f]
        exact Ev.bind h2 (Ev.bind v2 (Ev.pos hv (Ev.neg hk (Ev.now _))))
  · refine ⟨⟨0, [], []⟩, false, ?_, ?_, hz, hno true⟩
    · simp only [spec_FieldType.f]
      exact Ev.bind h1 (Ev.bind v1 (Ev.neg hv (Ev.now _)))
    · simp only [impl_FieldType.f]
      exact Ev.bind h2 (Ev.bind v2 (Ev.neg hv (Ev.now _)))

end Go.Proofs.Ytcgdaeaaimkhdaa.Pz
end
