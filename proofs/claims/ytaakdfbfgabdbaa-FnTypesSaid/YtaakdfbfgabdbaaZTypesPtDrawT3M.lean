/- What the reference draws for FnTypes: small types. No condition beyond the sizes named. -/
import Derived.Test.YtaakdfbfgabdbaaZTypesSh
import Derived.Test.YtaakdfbfgabdbaaZTypesExtM
import Derived.Test.YtaakdfbfgabdbaaZTypesPt13
import Derived.Test.YtaakdfbfgabdbaaZTypesPt16
import Derived.Test.YtaakdfbfgabdbaaZTypesPt6M
import Derived.Test.YtaakdfbfgabdbaaZTypesPt14M
section
namespace Go.Proofs.Ytaakdfbfgabdbaa.Pt
open Go.RowKit Go.Proofs.YtaakdfbfgabdbaaW.PrintWords Go.Proofs.YtaakdfbfgabdbaaW.PrintLast Go.Proofs.Ytaakdfbfgabdbaa.Pl Go.Proofs.Ytaakdfbfgabdbaa.Ext
set_option linter.unusedVariables false
set_option linter.unusedSimpArgs false
/-- A type of at most 40 parts. -/
def T40 (t : S27) : Prop := SmType t ∧ ndType t ≤ 40
theorem DrawIsValidType_ev (l : List Int) (hl : l.length ≤ 1048576) : ∃ t : S27, Ev (fun k => spec_DrawIsValidType.f k l) (t.f0, t.f1, t.f2) ∧ T40 t := by
 obtain ⟨h, e⟩ := l1New_ev l hl
 obtain ⟨t, i1, h2, e1, ht, hn, _, _⟩ := l3Bent_ev l hl 0 h (by decide) (by omega)
 refine ⟨t, ?_, ht, hn⟩
 simp only [spec_DrawIsValidType.f]
 exact Ev.bind e (Ev.bind e1 (Ev.now _))
theorem DrawFieldType_ev (l : List Int) (hl : l.length ≤ 1048576) : ∃ (t : S27) (s : ByteArray), Ev (fun k => spec_DrawFieldType.f k l) (t.f0, t.f1, t.f2, s) ∧ T40 t := by
 obtain ⟨h, e⟩ := l1New_ev l hl
 obtain ⟨t, i1, h2, e1, ht, hn, c1, d1⟩ := l3Bent_ev l hl 0 h (by decide) (by omega)
 obtain ⟨s, i3, h4, e3, hs, c3, d3⟩ := l1Pick_ev l hl i1 h2 [(⟨#[97]⟩ : ByteArray), (⟨#[98]⟩ : ByteArray), (⟨#[113]⟩ : ByteArray)] c1 d1 (by simp) (by simp)
 refine ⟨t, s, ?_, ht, hn⟩
 simp only [spec_DrawFieldType.f]
 exact Ev.bind e (Ev.bind e1 (Ev.fix e3 (Ev.now _)))
theorem DrawEqualType_ev (l : List Int) (hl : l.length ≤ 1048576) : ∃ t u : S27, Ev (fun k => spec_DrawEqualType.f k l) (t.f0, t.f1, t.f2, u.f0, u.f1, u.f2) ∧ T40 t ∧ T40 u := by
 obtain ⟨h, e⟩ := l1New_ev l hl
 obtain ⟨t, i1, h2, e1, ht, hn, c1, d1⟩ := l3Bent_ev l hl 0 h (by decide) (by omega)
 obtain ⟨b, i2, h3, e2, c2, d2⟩ := l1Once_ev l hl i1 h2 2 c1 d1 (by decide) (by decide)
 cases b with
 | true =>
  refine ⟨t, t, ?_, ⟨ht, hn⟩, ht, hn⟩
  simp only [spec_DrawEqualType.f]
  exact Ev.bind e (Ev.bind e1 (Ev.fix e2 (Ev.pos rfl (Ev.bind (spec_l3Copy_ev t ht) (Ev.now _)))))
 | false =>
  obtain ⟨u, i3, h4, e3, hu, hm, _, _⟩ := l3Bent_ev l hl i2 h3 c2 d2
  refine ⟨t, u, ?_, ⟨ht, hn⟩, hu, hm⟩
  simp only [spec_DrawEqualType.f]
  exact Ev.bind e (Ev.bind e1 (Ev.fix e2 (Ev.neg (by simp) (Ev.bind e3 (Ev.now _)))))
theorem DrawIsRow_ev (l : List Int) (hl : l.length ≤ 1048576) : ∃ t : S27, Ev (fun k => spec_DrawIsRow.f k l) (t.f0, t.f1, t.f2) ∧ T40 t := by
 obtain ⟨h, e⟩ := l1New_ev l hl
 obtain ⟨b, i2, h3, e2, c2, d2⟩ := l1Once_ev l hl 0 h 2 (by decide) (by omega) (by decide) (by decide)
 cases b with
 | true =>
  obtain ⟨t, i3, h4, e3, ht', c3, d3⟩ := l3Draw_ev l hl 0 (by decide) 1 i2 h3 (by decide) (by decide) c2 d2
  obtain ⟨u, i4, h5, e4, hu', c4, d4⟩ := l3Draw_ev l hl 1 (by decide) 2 i3 h4 (by decide) (by decide) c3 d3
  have ht : Bt 1 t := ht'
  have hu : Bt 3 u := hu'
  have hx : ∀ y ∈ [t, u], SmType y := by
   intro y hy
   rcases List.mem_cons.1 hy with rfl | hy
   ·exact ht.1
   ·rw [List.mem_singleton.1 hy]; exact hu.1
  have hb : Bt 5 (⟨3, [(⟨#[97]⟩ : ByteArray), (⟨#[98]⟩ : ByteArray)], [t, u]⟩ : S27) := by
   refine Bt_mk 3 (by decide) (by decide) _ ⟨by simp, fun y hy => ?_⟩ [t, u] (by simp) _ hx ?_
   ·rcases List.mem_cons.1 hy with rfl | hy
    ·exact Nat.le_trans (one_small _) (by decide)
    ·rw [List.mem_singleton.1 hy]; exact Nat.le_trans (one_small _) (by decide)
   ·have h1 := ht.2.1
    have h2 := hu.2.1
    rw [List.map_cons, List.map_cons, List.map_nil, List.sum_cons, List.sum_cons, List.sum_nil]
    omega
  refine ⟨⟨3, [(⟨#[97]⟩ : ByteArray), (⟨#[98]⟩ : ByteArray)], [t, u]⟩, ?_, hb.1, Nat.le_trans hb.2.1 (by decide)⟩
  simp only [spec_DrawIsRow.f]
  refine Ev.bind e (Ev.fix e2 (Ev.pos rfl (Ev.bind e3 (Ev.bind e4 ?_))))
  simp only [etaType]
  exact Ev.bind (l3Rec_ev [(⟨#[97]⟩ : ByteArray), (⟨#[98]⟩ : ByteArray)] (by simp) [t, u] (by simp) hx) (Ev.now _)
 | false =>
  obtain ⟨t, i3, h4, e3, ht, hn, _, _⟩ := l3Bent_ev l hl i2 h3 c2 d2
  refine ⟨t, ?_, ht, hn⟩
  simp only [spec_DrawIsRow.f]
  exact Ev.bind e (Ev.fix e2 (Ev.neg (by simp) (Ev.bind e3 (Ev.now _))))

end Go.Proofs.Ytaakdfbfgabdbaa.Pt
end
section
namespace Go.Proofs.Ytaakdfbfgabdbaa.Pt
set_option maxHeartbeats 8000000
set_option maxRecDepth 100000
open Go.RowKit Go.Proofs.Ytaakdfbfgabdbaa.Ext Go.Proofs.YtaakdfbfgabdbaaW.PrintWords Go.Proofs.YtaakdfbfgabdbaaW.PrintLast Go.Proofs.YtaakdfbfgabdbaaW.PrintMore
attribute [local go_sem] max2_int min2_int max_two min_two max_three min_three max_four min_four   -- for this text's walks alone
set_option linter.unusedVariables false
set_option linter.unusedSimpArgs false

/-! ### spec_l3Base: function 40 -/
def spec_l3Base.f (a0_0 : Int) (l0_1 : List ByteArray) (l0_2 : List (S27)) : Option (Bool) := if a0_0 = 1 then (some true) else (some (a0_0 == 2))
theorem spec_l3Base.calls (a0_0 : Int) (A0_1 : Option Addr) (c0_1 : Nat) (l0_1 : List ByteArray) (A0_2 : Option Addr) (c0_2 : Nat) (l0_2 : List (S27)) (r : Bool) (w : World) (hr0_1 : Kd.C Kd.string w A0_1 l0_1.length l0_1) (hc0_1 : l0_1.length ≤ c0_1) (hr0_2 : Kd.C k27 w A0_2 l0_2.length l0_2) (hc0_2 : l0_2.length ≤ c0_2) (h : spec_l3Base.f a0_0 l0_1 l0_2 = some r) :
  Calls Try.prog 40 #[.agg #[.int .i64 a0_0, .slice A0_1 l0_1.length c0_1, .slice A0_2 l0_2.length c0_2]] w fun e w' => e = .returned (.bool r) ∧ Below w.heap.size w w' := by
 have hu27 := Try.underlying27
 have HR0_1 := Aside0.mk hr0_1
 have HC0_1 := Aside0.mk hc0_1
 clear hr0_1 hc0_1
 have HR0_2 := Aside0.mk hr0_2
 have HC0_2 := Aside0.mk hc0_2
 clear hr0_2 hc0_2
 have HB := Aside0.mk (Below.refl w.heap.size w)
 have H : (if a0_0 = 1 then (some true) else (some (a0_0 == 2))) = some r := h
 clear h
 by_cases c2 : a0_0 = 1
 case neg =>
  rw [if_neg c2] at H
  have c2b0 : (a0_0 == 1) = false := beq_eq_false_iff_ne.mpr c2
  have c2b1 : (a0_0 != 1) = true := bne_iff_ne.mpr c2
  obtain rfl := Option.some.inj H
  go_enter Try.func40, Try.ntmps40
  go_wp2_with (first | ((with_reducible refine gate_dst (N := 1) rfl ?_); refine box_event ?hg (N := 1) ?hd (cs := #[.int .i64 a0_0, .slice A0_1 l0_1.length c0_1, .slice A0_2 l0_2.length c0_2]) (t := 27) ?hr ?_; (case hd => rfl); (case hg => rfl); (case hr => exact hrw); intro gb565 hg w5 hbox hb; have n0_ := Aside0.mk (below_step blw hb); have n1_ := Aside0.mk (hbox); have n2_ := Aside0.mk ((by rw [hg]; exact (below_size blw) : w.heap.size ≤ gb565)); have n3_ := n2_; clear HB; revert n0_ n1_ n2_ n3_; intro HB BK565 GW565 GE565; clear hb hbox hg; obtain ⟨hcz6_0, hcz6_1, hcz6_2⟩ := cls3 BK565.out; obtain ⟨hfz6_0, hfz6_1, hfz6_2⟩ := frz3 BK565.out))
  go_ret
  exact ⟨rfw, blw⟩
 rw [if_pos c2] at H
 have c2b0 : (a0_0 == 1) = true := beq_iff_eq.mpr c2
 have c2b1 : (a0_0 != 1) = false := bne_eq_false_iff_eq.mpr c2
 clear c2
 obtain rfl := Option.some.inj H
 go_enter Try.func40, Try.ntmps40
 go_wp2_with (first | ((with_reducible refine gate_dst (N := 1) rfl ?_); refine box_event ?hg (N := 1) ?hd (cs := #[.int .i64 a0_0, .slice A0_1 l0_1.length c0_1, .slice A0_2 l0_2.length c0_2]) (t := 27) ?hr ?_; (case hd => rfl); (case hg => rfl); (case hr => exact hrw); intro gb565 hg w3 hbox hb; have n0_ := Aside0.mk (below_step blw hb); have n1_ := Aside0.mk (hbox); have n2_ := Aside0.mk ((by rw [hg]; exact (below_size blw) : w.heap.size ≤ gb565)); have n3_ := n2_; clear HB; revert n0_ n1_ n2_ n3_; intro HB BK565 GW565 GE565; clear hb hbox hg; obtain ⟨hcz4_0, hcz4_1, hcz4_2⟩ := cls3 BK565.out; obtain ⟨hfz4_0, hfz4_1, hfz4_2⟩ := frz3 BK565.out))
 go_ret
 exact ⟨rfw, blw⟩

/-! ### spec_IsRow: function 19 -/
mutual
def spec_IsRow.j0 : Nat → Bool → Int → List ByteArray → List (S27) → Option (Bool)
 | 0, _, _, _, _ => none
 | k + 1, x11, x567000, x567001, x567002 => if x11 = true then (some false) else (spec_IsRow.l0 k 0 x567000 x567001 x567002)
def spec_IsRow.l0 : Nat → Int → Int → List ByteArray → List (S27) → Option (Bool)
 | 0, _, _, _, _ => none
 | k + 1, x3, x567000, x567001, x567002 => if x3 < (x567002.length : Int) then (if 0 ≤ x3 then ((spec_l3Base.f ((rd_T27 x567002 x3).f0) ((rd_T27 x567002 x3).f1) ((rd_T27 x567002 x3).f2)).bind fun t569 => (if t569 = true then (spec_IsRow.l0 k (wrap64 (x3 + 1)) x567000 x567001 x567002) else (some false))) else (none)) else (some true)
end
def spec_IsRow.f (k : Nat) (a0_0 : Int) (l0_1 : List ByteArray) (l0_2 : List (S27)) : Option (Bool) := (spec_IsValidType.f k a0_0 l0_1 l0_2).bind fun t567 => (if t567 = true then (spec_IsRow.j0 k (a0_0 != 3) a0_0 l0_1 l0_2) else (spec_IsRow.j0 k true a0_0 l0_1 l0_2))
theorem spec_IsRow.calls (k : Nat) (a0_0 : Int) (A0_1 : Option Addr) (c0_1 : Nat) (l0_1 : List ByteArray) (A0_2 : Option Addr) (c0_2 : Nat) (l0_2 : List (S27)) (r : Bool) (w : World) (hr0_1 : Kd.C Kd.string w A0_1 l0_1.length l0_1) (hc0_1 : l0_1.length ≤ c0_1) (hr0_2 : Kd.C k27 w A0_2 l0_2.length l0_2) (hc0_2 : l0_2.length ≤ c0_2) (h : spec_IsRow.f k a0_0 l0_1 l0_2 = some r) :
  Calls Try.prog 19 #[.agg #[.int .i64 a0_0, .slice A0_1 l0_1.length c0_1, .slice A0_2 l0_2.length c0_2]] w fun e w' => e = .returned (.bool r) ∧ Below w.heap.size w w' := by
 have hu27 := Try.underlying27
 have HR0_1 := Aside0.mk hr0_1
 have HC0_1 := Aside0.mk hc0_1
 clear hr0_1 hc0_1
 have HR0_2 := Aside0.mk hr0_2
 have HC0_2 := Aside0.mk hc0_2
 clear hr0_2 hc0_2
 have HB := Aside0.mk (Below.refl w.heap.size w)
 have H : ((spec_IsValidType.f k a0_0 l0_1 l0_2).bind fun t567 => (if t567 = true then (spec_IsRow.j0 k (a0_0 != 3) a0_0 l0_1 l0_2) else (spec_IsRow.j0 k true a0_0 l0_1 l0_2))) = some r := h
 clear h
 have HC2 := Aside0.mk H
 clear H
 go_enter Try.func19, Try.ntmps19
 go_upto_region 1 with (first | ((with_reducible refine gate_dst (N := 1) rfl ?_); refine box_event ?hg (N := 1) ?hd (cs := #[.int .i64 a0_0, .slice A0_1 l0_1.length c0_1, .slice A0_2 l0_2.length c0_2]) (t := 27) ?hr ?_; (case hd => rfl); (case hg => rfl); (case hr => exact hrw); intro gb566 hg w3 hbox hb; have n0_ := Aside0.mk (below_step blw hb); have n1_ := Aside0.mk (hbox); have n2_ := Aside0.mk ((by rw [hg]; exact (below_size blw) : w.heap.size ≤ gb566)); have n3_ := n2_; clear HB; revert n0_ n1_ n2_ n3_; intro HB BK566 GW566 GE566; clear hb hbox hg))
 (try simp only [Act.put, List.setIfInBounds_toArray, List.set_cons_zero, List.set_cons_succ])
 go_cut [11] (fun v11 wc => ∃ (kq : Nat) (x11_1 : Bool), v11 = .bool x11_1 ∧ Aside0 (spec_IsRow.j0 kq x11_1 a0_0 l0_1 l0_2 = some r) ∧ Aside0 (kq ≤ k) ∧ Aside0 (wc.heap[gb566]? = some (.cells #[.int .i64 a0_0, (.slice A0_1 l0_1.length c0_1), (.slice A0_2 l0_2.length c0_2)] 27 (0, 0))) ∧ Aside0 (Below w.heap.size w wc))
 case first =>
  have H := HC2.out
  clear HC2
  replace H := Option.bind_eq_some_iff.mp H
  obtain ⟨t567, A40, H⟩ := H
  replace H : (if t567 = true then (spec_IsRow.j0 k (a0_0 != 3) a0_0 l0_1 l0_2) else (spec_IsRow.j0 k true a0_0 l0_1 l0_2)) = some r := H
  have A4 := Aside0.mk A40
  clear A40
  by_cases c5 : t567 = true
  case neg =>
   replace c5 := Bool.eq_false_iff.mpr c5
   subst c5
   have H1 : (spec_IsRow.j0 k true a0_0 l0_1 l0_2) = some r := by rw [if_neg (show ¬ (false = true) by decide)] at H; exact H
   clear H
   have H := H1
   clear H1
   have H' := Aside0.mk H
   clear H
   obtain ⟨hcz9_0, hcz9_1, hcz9_2⟩ := cls3 BK566.out
   obtain ⟨hfz9_0, hfz9_1, hfz9_2⟩ := frz3 BK566.out
   go_wp2_with (first | ((with_reducible refine gate_callee (f := 10) rfl ?_); refine goesL_ (some 5) rfl rfl Try.func10 kr rfl #[.agg #[.int .i64 a0_0, .slice A0_1 l0_1.length c0_1, .slice A0_2 l0_2.length c0_2]] rfl mpw ?_; (with_reducible refine (spec_IsValidType.calls k a0_0 _ _ l0_1 _ _ l0_2 false _ ?side1 ?side2 ?side3 ?side4 A4.out).mono ?_); (case side1 => have X_ := HR0_1; exact cbl); (case side2 => exact HC0_1.out); (case side3 => have X_ := HR0_2; exact cbl); (case side4 => exact HC0_2.out); rintro e w10 ⟨rfl, hb⟩; refine ⟨_, rfl, ?_⟩; have n0_ := Aside0.mk (blk_below (g := gb566) (o := .cells #[.int .i64 a0_0, .slice A0_1 l0_1.length c0_1, .slice A0_2 l0_2.length c0_2] 27 (0, 0)) bkw hb); have n1_ := Aside0.mk (below_step blw hb); clear BK566; clear HB; revert n0_ n1_; intro BK566 HB; (try clear hb); (try clear hb2); (try clear hk); (try clear hi)))
   go_meet
   case rel => exact ⟨_, (true), rfs, H', ⟨by first | omega | exact Nat.le_refl _⟩, ⟨bkw⟩, ⟨blw⟩⟩
  subst c5
  have H1 : (spec_IsRow.j0 k (a0_0 != 3) a0_0 l0_1 l0_2) = some r := by rw [if_pos rfl] at H; exact H
  clear H
  have H := H1
  clear H1
  have H' := Aside0.mk H
  clear H
  obtain ⟨hcz6_0, hcz6_1, hcz6_2⟩ := cls3 BK566.out
  obtain ⟨hfz6_0, hfz6_1, hfz6_2⟩ := frz3 BK566.out
  go_wp2_with (first | ((with_reducible refine gate_callee (f := 10) rfl ?_); refine goesL_ (some 5) rfl rfl Try.func10 kr rfl #[.agg #[.int .i64 a0_0, .slice A0_1 l0_1.length c0_1, .slice A0_2 l0_2.length c0_2]] rfl mpw ?_; (with_reducible refine (spec_IsValidType.calls k a0_0 _ _ l0_1 _ _ l0_2 true _ ?side1 ?side2 ?side3 ?side4 A4.out).mono ?_); (case side1 => have X_ := HR0_1; exact cbl); (case side2 => exact HC0_1.out); (case side3 => have X_ := HR0_2; exact cbl); (case side4 => exact HC0_2.out); rintro e w7 ⟨rfl, hb⟩; refine ⟨_, rfl, ?_⟩; have n0_ := Aside0.mk (blk_below (g := gb566) (o := .cells #[.int .i64 a0_0, .slice A0_1 l0_1.length c0_1, .slice A0_2 l0_2.length c0_2] 27 (0, 0)) bkw hb); have n1_ := Aside0.mk (below_step blw hb); clear BK566; clear HB; revert n0_ n1_; intro BK566 HB; (try clear hb); (try clear hb2); (try clear hk); (try clear hi); obtain ⟨hcz8_0, hcz8_1, hcz8_2⟩ := cls3 BK566.out; obtain ⟨hfz8_0, hfz8_1, hfz8_2⟩ := frz3 BK566.out))
  go_meet
  case rel => exact ⟨_, ((a0_0 != 3)), rfs, H', ⟨by first | omega | exact Nat.le_refl _⟩, ⟨bkw⟩, ⟨blw⟩⟩
 case rest =>
  clear HC2
  (try clear c1); (try clear p2); (try clear c5); (try clear c10); (try clear hcz6_0); (try clear hcz6_1); (try clear hcz6_2); (try clear hcz8_0); (try clear hcz8_1); (try clear hcz8_2); (try clear hcz9_0); (try clear hcz9_1); (try clear hcz9_2); (try clear hfz6_0); (try clear hfz6_1); (try clear hfz6_2); (try clear hfz8_0); (try clear hfz8_1); (try clear hfz8_2); (try clear hfz9_0); (try clear hfz9_1); (try clear hfz9_2)
  obtain ⟨kq, x11_1, rfl, HA, HJ1, BK566, HB⟩ := hcut
  cases kq with
  | zero => exact absurd HA.out (by simp [spec_IsRow.j0])
  | succ kj1 =>
   have H := HA.out
   clear HA
   simp only [spec_IsRow.j0] at H
   by_cases c11 : x11_1 = true
   ·subst c11
    have H1 : (some false) = some r := by rw [if_pos rfl] at H; exact H
    clear H
    have H := H1
    clear H1
    obtain rfl := Option.some.inj H
    go_wp2
    go_ret
    exact ⟨rfw, blw⟩
   replace c11 := Bool.eq_false_iff.mpr c11
   subst c11
   have H1 : (spec_IsRow.l0 kj1 0 a0_0 l0_1 l0_2) = some r := by rw [if_neg (show ¬ (false = true) by decide)] at H; exact H
   clear H
   have H := H1
   clear H1
   have H' := Aside0.mk H
   clear H
   go_wp2
   go_loopg [3] kj1 (fun kq v3 w' => ∃ (x3_2 : Int), v3 = .int .i64 x3_2 ∧ Aside0 (spec_IsRow.l0 kq x3_2 a0_0 l0_1 l0_2 = some r) ∧ Aside0 (kq ≤ kj1) ∧ Aside0 (w'.heap[gb566]? = some (.cells #[.int .i64 a0_0, (.slice A0_1 l0_1.length c0_1), (.slice A0_2 l0_2.length c0_2)] 27 (0, 0))) ∧ Aside0 (Below w.heap.size w w'))
   case atStart => exact ⟨(0), rfs, H', ⟨Nat.le_refl _⟩, ⟨bkw⟩, ⟨blw⟩⟩
   case round =>
    clear H'
    (try clear c1); (try clear p2); (try clear c5); (try clear c10); (try clear c11); (try clear hcz6_0); (try clear hcz6_1); (try clear hcz6_2); (try clear hcz8_0); (try clear hcz8_1); (try clear hcz8_2); (try clear hcz9_0); (try clear hcz9_1); (try clear hcz9_2); (try clear hfz6_0); (try clear hfz6_1); (try clear hfz6_2); (try clear hfz8_0); (try clear hfz8_1); (try clear hfz8_2); (try clear hfz9_0); (try clear hfz9_1); (try clear hfz9_2); (try clear p2)
    obtain ⟨x3_2, rfl, HA, HK2, BK566, HB⟩ := hrel
    cases gk with
    | zero => exact absurd HA.out (by simp [spec_IsRow.l0])
    | succ k2 =>
     have H := HA.out
     clear HA
     simp only [spec_IsRow.l0] at H
     by_cases c12 : x3_2 < (l0_2.length : Int)
     case neg =>
      rw [if_neg c12] at H
      have c12b0 : decide (x3_2 < (l0_2.length : Int)) = false := decide_eq_false c12
      clear c12
      obtain rfl := Option.some.inj H
      obtain ⟨hcz19_0, hcz19_1, hcz19_2⟩ := cls3 BK566.out
      obtain ⟨hfz19_0, hfz19_1, hfz19_2⟩ := frz3 BK566.out
      go_wp2
      go_ret
      exact ⟨rfw, blw⟩
     rw [if_pos c12] at H
     have c12b0 : decide (x3_2 < (l0_2.length : Int)) = true := decide_eq_true c12
     clear c12
     by_cases c13 : 0 ≤ x3_2
     case neg =>
      rw [if_neg c13] at H
      exact absurd H (by simp)
     rw [if_pos c13] at H
     have c13b0 : decide (0 ≤ x3_2) = true := decide_eq_true c13
     clear c13
     replace H := Option.bind_eq_some_iff.mp H
     obtain ⟨t569, A140, H⟩ := H
     replace H : (if t569 = true then (spec_IsRow.l0 k2 (wrap64 (x3_2 + 1)) a0_0 l0_1 l0_2) else (some false)) = some r := H
     have A14 := Aside0.mk A140
     clear A140
     have HC15 := Aside0.mk H
     clear H
     obtain ⟨hcz16_0, hcz16_1, hcz16_2⟩ := cls3 BK566.out
     obtain ⟨hfz16_0, hfz16_1, hfz16_2⟩ := frz3 BK566.out
     have p568 : 0 ≤ (x3_2 : Int) := of_decide_eq_true asw
     have q568 : x3_2 < (l0_2.length : Int) := of_decide_eq_true asw
     obtain ⟨ad568, A568_1, c568_1, A568_2, c568_2, e568, hx568_0, hx568_1, hx568_2, hl568_1, hi568_1, hl568_2, hi568_2⟩ := at_T27 HR0_2.out x3_2 p568 q568
     cases e568
     replace hx568_0 := upw HB.out hx568_0
     replace hx568_1 := upw HB.out hx568_1
     replace hx568_2 := upw HB.out hx568_2
     have HR568_1 := Aside0.mk hi568_1
     have HC568_1 := Aside0.mk hl568_1
     clear hi568_1 hl568_1
     have HR568_2 := Aside0.mk hi568_2
     have HC568_2 := Aside0.mk hl568_2
     clear hi568_2 hl568_2
     replace p568 := eq_true p568
     replace q568 := eq_true q568
     go_upto_if 25 with (first | ((with_reducible refine gate_callee (f := 40) rfl ?_); refine goesL_ (some 24) rfl rfl Try.func40 kr rfl #[.agg #[.int .i64 ((rd_T27 l0_2 x3_2).f0), .slice A568_1 ((rd_T27 l0_2 x3_2).f1).length c568_1, .slice A568_2 ((rd_T27 l0_2 x3_2).f2).length c568_2]] rfl mpw ?_; (with_reducible refine (spec_l3Base.calls ((rd_T27 l0_2 x3_2).f0) _ _ ((rd_T27 l0_2 x3_2).f1) _ _ ((rd_T27 l0_2 x3_2).f2) t569 _ ?side1 ?side2 ?side3 ?side4 A14.out).mono ?_); (case side1 => have X_ := HR568_1; exact cbl); (case side2 => exact HC568_1.out); (case side3 => have X_ := HR568_2; exact cbl); (case side4 => exact HC568_2.out); rintro e w17 ⟨rfl, hb⟩; refine ⟨_, rfl, ?_⟩; have n0_ := Aside0.mk (blk_below (g := gb566) (o := .cells #[.int .i64 a0_0, .slice A0_1 l0_1.length c0_1, .slice (some ad568) l0_2.length c0_2] 27 (0, 0)) bkw hb); have n1_ := Aside0.mk (below_step blw hb); clear BK566; clear HB; revert n0_ n1_; intro BK566 HB; (try clear hb); (try clear hb2); (try clear hk); (try clear hi)))
     have H := HC15.out
     clear HC15
     by_cases c18 : t569 = true
     case neg =>
      replace c18 := Bool.eq_false_iff.mpr c18
      subst c18
      have H1 : (some false) = some r := by rw [if_neg (show ¬ (false = true) by decide)] at H; exact H
      clear H
      have H := H1
      clear H1
      obtain rfl := Option.some.inj H
      go_wp2
      go_ret
      exact ⟨rfw, blw⟩
     subst c18
     have H1 : (spec_IsRow.l0 k2 (wrap64 (x3_2 + 1)) a0_0 l0_1 l0_2) = some r := by rw [if_pos rfl] at H; exact H
     clear H
     have H := H1
     clear H1
     have H' := Aside0.mk H
     clear H
     go_wp2
     go_roundg k2
     case measure => have := HJ1.out; have := HK2.out; omega
     case rel => exact ⟨(wrap64 (x3_2 + 1)), rfs, H', ⟨by have := HJ1.out; have := HK2.out; omega⟩, ⟨bkw⟩, ⟨blw⟩⟩

/-! ### slices_Equal_string_string: function 41 -/
def slices_Equal_string_string.l0 : Nat → List ByteArray → List ByteArray → Int → Int → Option (Bool)
 | 0, _, _, _, _ => none
 | k + 1, x0, x1, x12, x13 => if x13 < x12 then (if 0 ≤ x13 then (if x13 < (x0.length : Int) then (if x13 < (x1.length : Int) then (if (rdOf ByteArray.empty x0 x13).toList = (rdOf ByteArray.empty x1 x13).toList then (slices_Equal_string_string.l0 k x0 x1 x12 (wrap64 (x13 + 1))) else (some false)) else (none)) else (none)) else (none)) else (some true)
def slices_Equal_string_string.f (k : Nat) (l0 : List ByteArray) (l1 : List ByteArray) : Option (Bool) := if (l0.length : Int) = (l1.length : Int) then (slices_Equal_string_string.l0 k l0 l1 (l0.length : Int) 0) else (some false)
theorem slices_Equal_string_string.calls (k : Nat) (A0 : Option Addr) (c0 : Nat) (l0 : List ByteArray) (A1 : Option Addr) (c1 : Nat) (l1 : List ByteArray) (r : Bool) (w : World) (hr0 : Kd.C Kd.string w A0 l0.length l0) (hc0 : l0.length ≤ c0) (hr1 : Kd.C Kd.string w A1 l1.length l1) (hc1 : l1.length ≤ c1) (h : slices_Equal_string_string.f k l0 l1 = some r) :
  Calls Try.prog 41 #[.slice A0 l0.length c0, .slice A1 l1.length c1] w fun e w' => e = .returned (.bool r) ∧ Drawn0 w w' := by
 have HR0 := Aside0.mk hr0
 have HC0 := Aside0.mk hc0
 clear hr0 hc0
 have HR1 := Aside0.mk hr1
 have HC1 := Aside0.mk hc1
 clear hr1 hc1
 have H : (if (l0.length : Int) = (l1.length : Int) then (slices_Equal_string_string.l0 k l0 l1 (l0.length : Int) 0) else (some false)) = some r := h
 clear h
 by_cases c3 : (l0.length : Int) = (l1.length : Int)
 case neg =>
  rw [if_neg c3] at H
  have c3b0 : ((l0.length : Int) == (l1.length : Int)) = false := beq_eq_false_iff_ne.mpr c3
  have c3b1 : ((l0.length : Int) != (l1.length : Int)) = true := bne_iff_ne.mpr c3
  have c3b2 : (l0.length == l1.length) = false := by first | simpa using c3 | (simp at c3 ⊢; omega)
  obtain rfl := Option.some.inj H
  go_enter Try.func41, Try.ntmps41
  go_wp2
  repeat (go_quiet (fail); try go_wp2)
  go_ret
  exact ⟨rfs, by repeat (first | exact Drawn0.refl _ | apply Drawn0.step)⟩
 rw [if_pos c3] at H
 have c3b0 : ((l0.length : Int) == (l1.length : Int)) = true := beq_iff_eq.mpr c3
 have c3b1 : ((l0.length : Int) != (l1.length : Int)) = false := bne_eq_false_iff_eq.mpr c3
 have c3b2 : (l0.length == l1.length) = true := by first | simpa using c3 | (simp at c3 ⊢; omega)
 clear c3
 have H' := Aside0.mk H
 clear H
 go_enter Try.func41, Try.ntmps41
 go_wp2
 repeat (go_quiet (fail); try go_wp2)
 go_loopg [13] k (fun kq v13 w' => ∃ (x13_1 : Int), v13 = .int .i64 x13_1 ∧ Aside0 (slices_Equal_string_string.l0 kq l0 l1 (l0.length : Int) x13_1 = some r) ∧ Aside0 (kq ≤ k) ∧ Drawn0 w w')
 case atStart => exact ⟨(0), rfs, H', ⟨Nat.le_refl _⟩, by repeat (first | exact Drawn0.refl _ | apply Drawn0.step)⟩
 case round =>
  clear H'
  (try clear c1); (try clear p2); (try clear c3); (try clear c3b0); (try clear c3b1); (try clear c3b2)
  obtain ⟨x13_1, rfl, HA, HK1, ⟨m1, rfl⟩⟩ := hrel
  cases gk with
  | zero => exact absurd HA.out (by simp [slices_Equal_string_string.l0])
  | succ k1 =>
   have H := HA.out
   clear HA
   simp only [slices_Equal_string_string.l0] at H
   by_cases c4 : x13_1 < (l0.length : Int)
   case neg =>
    rw [if_neg c4] at H
    have c4b0 : decide (x13_1 < (l0.length : Int)) = false := decide_eq_false c4
    clear c4
    obtain rfl := Option.some.inj H
    go_wp2
    repeat (go_quiet (fail); try go_wp2)
    go_ret
    exact ⟨rfs, by repeat (first | exact Drawn0.refl _ | apply Drawn0.step)⟩
   rw [if_pos c4] at H
   have c4b0 : decide (x13_1 < (l0.length : Int)) = true := decide_eq_true c4
   clear c4
   by_cases c5 : 0 ≤ x13_1
   case neg =>
    rw [if_neg c5] at H
    exact absurd H (by simp)
   rw [if_pos c5] at H
   have c5b0 : decide (0 ≤ x13_1) = true := decide_eq_true c5
   clear c5
   by_cases c6 : x13_1 < (l0.length : Int)
   case neg =>
    rw [if_neg c6] at H
    exact absurd H (by simp)
   rw [if_pos c6] at H
   have c6b0 : decide (x13_1 < (l0.length : Int)) = true := decide_eq_true c6
   clear c6
   by_cases c7 : x13_1 < (l1.length : Int)
   case neg =>
    rw [if_neg c7] at H
    exact absurd H (by simp)
   rw [if_pos c7] at H
   have c7b0 : decide (x13_1 < (l1.length : Int)) = true := decide_eq_true c7
   clear c7
   by_cases c8 : (rdOf ByteArray.empty l0 x13_1).toList = (rdOf ByteArray.empty l1 x13_1).toList
   case neg =>
    rw [if_neg c8] at H
    have c8b0 : ((rdOf ByteArray.empty l0 x13_1).toList == (rdOf ByteArray.empty l1 x13_1).toList) = false := beq_eq_false_iff_ne.mpr c8
    have c8b1 : ((rdOf ByteArray.empty l0 x13_1).toList != (rdOf ByteArray.empty l1 x13_1).toList) = true := bne_iff_ne.mpr c8
    obtain rfl := Option.some.inj H
    have p570 : 0 ≤ (x13_1 : Int) := of_decide_eq_true asw
    have q570 : x13_1 < (l0.length : Int) := of_decide_eq_true asw
    obtain ⟨ad570, e570, hx570_0⟩ := Kd.at_string HR0.out x13_1 p570 q570
    cases e570
    replace p570 := eq_true p570
    replace q570 := eq_true q570
    have p571 : 0 ≤ (x13_1 : Int) := of_decide_eq_true asw
    have q571 : x13_1 < (l1.length : Int) := of_decide_eq_true asw
    obtain ⟨ad571, e571, hx571_0⟩ := Kd.at_string HR1.out x13_1 p571 q571
    cases e571
    replace p571 := eq_true p571
    replace q571 := eq_true q571
    go_wp2
    repeat (go_quiet (fail); try go_wp2)
    go_ret
    exact ⟨rfs, by repeat (first | exact Drawn0.refl _ | apply Drawn0.step)⟩
   rw [if_pos c8] at H
   have c8b0 : ((rdOf ByteArray.empty l0 x13_1).toList == (rdOf ByteArray.empty l1 x13_1).toList) = true := beq_iff_eq.mpr c8
   have c8b1 : ((rdOf ByteArray.empty l0 x13_1).toList != (rdOf ByteArray.empty l1 x13_1).toList) = false := bne_eq_false_iff_eq.mpr c8
   clear c8
   have H' := Aside0.mk H
   clear H
   have p570 : 0 ≤ (x13_1 : Int) := of_decide_eq_true asw
   have q570 : x13_1 < (l0.length : Int) := of_decide_eq_true asw
   obtain ⟨ad570, e570, hx570_0⟩ := Kd.at_string HR0.out x13_1 p570 q570
   cases e570
   replace p570 := eq_true p570
   replace q570 := eq_true q570
   have p571 : 0 ≤ (x13_1 : Int) := of_decide_eq_true asw
   have q571 : x13_1 < (l1.length : Int) := of_decide_eq_true asw
   obtain ⟨ad571, e571, hx571_0⟩ := Kd.at_string HR1.out x13_1 p571 q571
   cases e571
   replace p571 := eq_true p571
   replace q571 := eq_true q571
   go_wp2
   repeat (go_quiet (fail); try go_wp2)
   go_roundg k1
   case measure => have := HK1.out; omega
   case rel => exact ⟨(wrap64 (x13_1 + 1)), rfs, H', ⟨by have := HK1.out; omega⟩, by repeat (first | exact Drawn0.refl _ | apply Drawn0.step)⟩

-- NOT PRINTED: function 42 (impl_Type_42)

end Go.Proofs.Ytaakdfbfgabdbaa.Pt
end
section
namespace Go.Proofs.Ytaakdfbfgabdbaa.Pt
set_option maxHeartbeats 8000000
set_option maxRecDepth 100000
open Go.RowKit Go.Proofs.Ytaakdfbfgabdbaa.Ext Go.Proofs.YtaakdfbfgabdbaaW.PrintWords Go.Proofs.YtaakdfbfgabdbaaW.PrintLast Go.Proofs.YtaakdfbfgabdbaaW.PrintMore
attribute [local go_sem] max2_int min2_int max_two min_two max_three min_three max_four min_four   -- for this text's walks alone
set_option linter.unusedVariables false
set_option linter.unusedSimpArgs false

mutual
def impl_EqualType.f : Nat → Int → List ByteArray → List (S27) → Int → List ByteArray → List (S27) → Option (Bool)
 | 0, _, _, _, _, _, _ => none
 | k + 1, a0_0, l0_1, l0_2, a1_0, l1_1, l1_2 => if a0_0 = a1_0 then ((slices_Equal_string_string.f k l0_1 l1_1).bind fun t574 => (if t574 = true then ((slices_EqualFunc_Type_of_EqualType.f k l0_2 l1_2).bind fun t575 => (some t575)) else (some false))) else (some false)
def slices_EqualFunc_Type_of_EqualType.l0 : Nat → List (S27) → List (S27) → Int → Int → Option (Bool)
 | 0, _, _, _, _ => none
 | k + 1, x1, x15, x16, x17 => if x17 < x16 then (if 0 ≤ x17 then (if x17 < (x15.length : Int) then (if x17 < (x1.length : Int) then ((impl_EqualType.f k ((rd_T27 x15 x17).f0) ((rd_T27 x15 x17).f1) ((rd_T27 x15 x17).f2) ((rd_T27 x1 x17).f0) ((rd_T27 x1 x17).f1) ((rd_T27 x1 x17).f2)).bind fun t580 => (if t580 = true then (slices_EqualFunc_Type_of_EqualType.l0 k x1 x15 x16 (wrap64 (x17 + 1))) else (some false))) else (none)) else (none)) else (none)) else (some true)
def slices_EqualFunc_Type_of_EqualType.f : Nat → List (S27) → List (S27) → Option (Bool)
 | 0, _, _ => none
 | k + 1, l0, l1 => if (l0.length : Int) = (l1.length : Int) then (slices_EqualFunc_Type_of_EqualType.l0 k l1 l0 (l0.length : Int) 0) else (some false)
end
/-! ### impl_EqualType: function 20 -/
theorem impl_EqualType.step (k : Nat) (ih : ∀ m, m < k → ∀ (a0_0 : Int) (A0_1 : Option Addr) (c0_1 : Nat) (l0_1 : List ByteArray) (A0_2 : Option Addr) (c0_2 : Nat) (l0_2 : List (S27)) (a1_0 : Int) (A1_1 : Option Addr) (c1_1 : Nat) (l1_1 : List ByteArray) (A1_2 : Option Addr) (c1_2 : Nat) (l1_2 : List (S27)) (r : Bool) (w : World) (hr0_1 : Kd.C Kd.string w A0_1 l0_1.length l0_1) (hc0_1 : l0_1.length ≤ c0_1) (hr0_2 : Kd.C k27 w A0_2 l0_2.length l0_2) (hc0_2 : l0_2.length ≤ c0_2) (hr1_1 : Kd.C Kd.string w A1_1 l1_1.length l1_1) (hc1_1 : l1_1.length ≤ c1_1) (hr1_2 : Kd.C k27 w A1_2 l1_2.length l1_2) (hc1_2 : l1_2.length ≤ c1_2) (h : impl_EqualType.f m a0_0 l0_1 l0_2 a1_0 l1_1 l1_2 = some r),
  Calls Try.prog 20 #[.agg #[.int .i64 a0_0, .slice A0_1 l0_1.length c0_1, .slice A0_2 l0_2.length c0_2], .agg #[.int .i64 a1_0, .slice A1_1 l1_1.length c1_1, .slice A1_2 l1_2.length c1_2]] w fun e w' => e = .returned (.bool r) ∧ Below w.heap.size w w') (ih_81 : ∀ m, m < k → ∀ (A0 : Option Addr) (c0 : Nat) (l0 : List (S27)) (A1 : Option Addr) (c1 : Nat) (l1 : List (S27))  (r : Bool) (w : World) (hr0 : Kd.C k27 w A0 l0.length l0) (hc0 : l0.length ≤ c0) (hr1 : Kd.C k27 w A1 l1.length l1) (hc1 : l1.length ≤ c1) (h : slices_EqualFunc_Type_of_EqualType.f m l0 l1 = some r),
  Calls Try.prog 42 #[.slice A0 l0.length c0, .slice A1 l1.length c1, .func (.func 20) #[] #[]] w fun e w' => e = .returned (.bool r) ∧ Below w.heap.size w w') : ∀ (a0_0 : Int) (A0_1 : Option Addr) (c0_1 : Nat) (l0_1 : List ByteArray) (A0_2 : Option Addr) (c0_2 : Nat) (l0_2 : List (S27)) (a1_0 : Int) (A1_1 : Option Addr) (c1_1 : Nat) (l1_1 : List ByteArray) (A1_2 : Option Addr) (c1_2 : Nat) (l1_2 : List (S27)) (r : Bool) (w : World) (hr0_1 : Kd.C Kd.string w A0_1 l0_1.length l0_1) (hc0_1 : l0_1.length ≤ c0_1) (hr0_2 : Kd.C k27 w A0_2 l0_2.length l0_2) (hc0_2 : l0_2.length ≤ c0_2) (hr1_1 : Kd.C Kd.string w A1_1 l1_1.length l1_1) (hc1_1 : l1_1.length ≤ c1_1) (hr1_2 : Kd.C k27 w A1_2 l1_2.length l1_2) (hc1_2 : l1_2.length ≤ c1_2) (h : impl_EqualType.f k a0_0 l0_1 l0_2 a1_0 l1_1 l1_2 = some r),
  Calls Try.prog 20 #[.agg #[.int .i64 a0_0, .slice A0_1 l0_1.length c0_1, .slice A0_2 l0_2.length c0_2], .agg #[.int .i64 a1_0, .slice A1_1 l1_1.length c1_1, .slice A1_2 l1_2.length c1_2]] w fun e w' => e = .returned (.bool r) ∧ Below w.heap.size w w' := by
 intro a0_0 A0_1 c0_1 l0_1 A0_2 c0_2 l0_2 a1_0 A1_1 c1_1 l1_1 A1_2 c1_2 l1_2 r w hr0_1 hc0_1 hr0_2 hc0_2 hr1_1 hc1_1 hr1_2 hc1_2 h
 cases k with
 | zero => exact absurd h (by simp [impl_EqualType.f])
 | succ k =>
 simp only [impl_EqualType.f] at h
 have hu27 := Try.underlying27
 have HR0_1 := Aside0.mk hr0_1
 have HC0_1 := Aside0.mk hc0_1
 clear hr0_1 hc0_1
 have HR0_2 := Aside0.mk hr0_2
 have HC0_2 := Aside0.mk hc0_2
 clear hr0_2 hc0_2
 have HR1_1 := Aside0.mk hr1_1
 have HC1_1 := Aside0.mk hc1_1
 clear hr1_1 hc1_1
 have HR1_2 := Aside0.mk hr1_2
 have HC1_2 := Aside0.mk hc1_2
 clear hr1_2 hc1_2
 have HB := Aside0.mk (Below.refl w.heap.size w)
 have H : (if a0_0 = a1_0 then ((slices_Equal_string_string.f k l0_1 l1_1).bind fun t574 => (if t574 = true then ((slices_EqualFunc_Type_of_EqualType.f k l0_2 l1_2).bind fun t575 => (some t575)) else (some false))) else (some false)) = some r := h
 clear h
 by_cases c3 : a0_0 = a1_0
 case neg =>
  rw [if_neg c3] at H
  have c3b0 : (a0_0 == a1_0) = false := beq_eq_false_iff_ne.mpr c3
  have c3b1 : (a0_0 != a1_0) = true := bne_iff_ne.mpr c3
  obtain rfl := Option.some.inj H
  go_enter Try.func20, Try.ntmps20
  go_wp2_with (first | ((with_reducible refine gate_dst (N := 2) rfl ?_); refine box_event ?hg (N := 2) ?hd (cs := #[.int .i64 a0_0, .slice A0_1 l0_1.length c0_1, .slice A0_2 l0_2.length c0_2]) (t := 27) ?hr ?_; (case hd => rfl); (case hg => rfl); (case hr => exact hrw); intro gb572 hg w18 hbox hb; have n0_ := Aside0.mk (below_step blw hb); have n1_ := Aside0.mk (hbox); have n2_ := Aside0.mk ((by rw [hg]; exact (below_size blw) : w.heap.size ≤ gb572)); have n3_ := n2_; clear HB; revert n0_ n1_ n2_ n3_; intro HB BK572 GW572 GE572; clear hb hbox hg) | ((with_reducible refine gate_dst (N := 3) rfl ?_); refine box_event ?hg (N := 3) ?hd (cs := #[.int .i64 a1_0, .slice A1_1 l1_1.length c1_1, .slice A1_2 l1_2.length c1_2]) (t := 27) ?hr ?_; (case hd => rfl); (case hg => rfl); (case hr => exact hrw); intro gb573 hg w19 hbox hb; have n0_ := Aside0.mk (blk_below (g := gb572) (o := .cells #[.int .i64 a0_0, .slice A0_1 l0_1.length c0_1, .slice A0_2 l0_2.length c0_2] 27 (0, 0)) bkw hb); have n1_ := Aside0.mk (below_step blw hb); have n2_ := Aside0.mk (hbox); have n3_ := Aside0.mk ((by rw [hg]; exact (below_size blw) : w.heap.size ≤ gb573)); have n4_ := n3_; have n5_ := Aside0.mk ((by rw [hg]; exact Nat.ne_of_lt (blk_lt (g := gb572) (o := .cells #[.int .i64 a0_0, .slice A0_1 l0_1.length c0_1, .slice A0_2 l0_2.length c0_2] 27 (0, 0)) bkw) : gb572 ≠ gb573)); have n6_ := Aside0.mk ((by rw [hg]; exact Nat.ne_of_gt (blk_lt (g := gb572) (o := .cells #[.int .i64 a0_0, .slice A0_1 l0_1.length c0_1, .slice A0_2 l0_2.length c0_2] 27 (0, 0)) bkw) : gb573 ≠ gb572)); clear BK572; clear HB; revert n0_ n1_ n2_ n3_ n4_ n5_ n6_; intro BK572 HB BK573 GW573 GE573 NB572_573 NB573_572; clear hb hbox hg; have hnb20 := NB572_573.out; have hnc20 := NB573_572.out; obtain ⟨hcz21_0, hcz21_1, hcz21_2⟩ := cls3 BK572.out; obtain ⟨hfz21_0, hfz21_1, hfz21_2⟩ := frz3 BK572.out; obtain ⟨hcz22_0, hcz22_1, hcz22_2⟩ := cls3 BK573.out; obtain ⟨hfz22_0, hfz22_1, hfz22_2⟩ := frz3 BK573.out))
  go_ret
  exact ⟨rfw, blw⟩
 rw [if_pos c3] at H
 have c3b0 : (a0_0 == a1_0) = true := beq_iff_eq.mpr c3
 have c3b1 : (a0_0 != a1_0) = false := bne_eq_false_iff_eq.mpr c3
 clear c3
 replace H := Option.bind_eq_some_iff.mp H
 obtain ⟨t574, A40, H⟩ := H
 replace H : (if t574 = true then ((slices_EqualFunc_Type_of_EqualType.f k l0_2 l1_2).bind fun t575 => (some t575)) else (some false)) = some r := H
 have A4 := Aside0.mk A40
 clear A40
 by_cases c5 : t574 = true
 case neg =>
  replace c5 := Bool.eq_false_iff.mpr c5
  subst c5
  have H1 : (some false) = some r := by rw [if_neg (show ¬ (false = true) by decide)] at H; exact H
  clear H
  have H := H1
  clear H1
  obtain rfl := Option.some.inj H
  go_enter Try.func20, Try.ntmps20
  go_wp2_with (first | ((with_reducible refine gate_dst (N := 2) rfl ?_); refine box_event ?hg (N := 2) ?hd (cs := #[.int .i64 a0_0, .slice A0_1 l0_1.length c0_1, .slice A0_2 l0_2.length c0_2]) (t := 27) ?hr ?_; (case hd => rfl); (case hg => rfl); (case hr => exact hrw); intro gb572 hg w13 hbox hb; have n0_ := Aside0.mk (below_step blw hb); have n1_ := Aside0.mk (hbox); have n2_ := Aside0.mk ((by rw [hg]; exact (below_size blw) : w.heap.size ≤ gb572)); have n3_ := n2_; clear HB; revert n0_ n1_ n2_ n3_; intro HB BK572 GW572 GE572; clear hb hbox hg) | ((with_reducible refine gate_dst (N := 3) rfl ?_); refine box_event ?hg (N := 3) ?hd (cs := #[.int .i64 a1_0, .slice A1_1 l1_1.length c1_1, .slice A1_2 l1_2.length c1_2]) (t := 27) ?hr ?_; (case hd => rfl); (case hg => rfl); (case hr => exact hrw); intro gb573 hg w14 hbox hb; have n0_ := Aside0.mk (blk_below (g := gb572) (o := .cells #[.int .i64 a0_0, .slice A0_1 l0_1.length c0_1, .slice A0_2 l0_2.length c0_2] 27 (0, 0)) bkw hb); have n1_ := Aside0.mk (below_step blw hb); have n2_ := Aside0.mk (hbox); have n3_ := Aside0.mk ((by rw [hg]; exact (below_size blw) : w.heap.size ≤ gb573)); have n4_ := n3_; have n5_ := Aside0.mk ((by rw [hg]; exact Nat.ne_of_lt (blk_lt (g := gb572) (o := .cells #[.int .i64 a0_0, .slice A0_1 l0_1.length c0_1, .slice A0_2 l0_2.length c0_2] 27 (0, 0)) bkw) : gb572 ≠ gb573)); have n6_ := Aside0.mk ((by rw [hg]; exact Nat.ne_of_gt (blk_lt (g := gb572) (o := .cells #[.int .i64 a0_0, .slice A0_1 l0_1.length c0_1, .slice A0_2 l0_2.length c0_2] 27 (0, 0)) bkw) : gb573 ≠ gb572)); clear BK572; clear HB; revert n0_ n1_ n2_ n3_ n4_ n5_ n6_; intro BK572 HB BK573 GW573 GE573 NB572_573 NB573_572; clear hb hbox hg; have hnb15 := NB572_573.out; have hnc15 := NB573_572.out; obtain ⟨hcz16_0, hcz16_1, hcz16_2⟩ := cls3 BK572.out; obtain ⟨hfz16_0, hfz16_1, hfz16_2⟩ := frz3 BK572.out; obtain ⟨hcz17_0, hcz17_1, hcz17_2⟩ := cls3 BK573.out; obtain ⟨hfz17_0, hfz17_1, hfz17_2⟩ := frz3 BK573.out) | (go_at_call 41; (with_reducible refine (slices_Equal_string_string.calls k _ _ l0_1 _ _ l1_1 false _ ?side1 ?side2 ?side3 ?side4 A4.out).mono ?_); (case side1 => have X_ := HR0_1; exact cbl); (case side2 => exact HC0_1.out); (case side3 => have X_ := HR1_1; exact cbl); (case side4 => exact HC1_1.out); rintro e w' ⟨rfl, ⟨nd, rfl⟩⟩))
  go_ret
  exact ⟨rfw, blw⟩
 subst c5
 have H1 : ((slices_EqualFunc_Type_of_EqualType.f k l0_2 l1_2).bind fun t575 => (some t575)) = some r := by rw [if_pos rfl] at H; exact H
 clear H
 have H := H1
 clear H1
 replace H := Option.bind_eq_some_iff.mp H
 obtain ⟨t575, A60, H⟩ := H
 replace H : (some t575) = some r := H
 have A6 := Aside0.mk A60
 clear A60
 obtain rfl := Option.some.inj H
 go_enter Try.func20, Try.ntmps20
 go_wp2_with (first | ((with_reducible refine gate_dst (N := 2) rfl ?_); refine box_event ?hg (N := 2) ?hd (cs := #[.int .i64 a0_0, .slice A0_1 l0_1.length c0_1, .slice A0_2 l0_2.length c0_2]) (t := 27) ?hr ?_; (case hd => rfl); (case hg => rfl); (case hr => exact hrw); intro gb572 hg w7 hbox hb; have n0_ := Aside0.mk (below_step blw hb); have n1_ := Aside0.mk (hbox); have n2_ := Aside0.mk ((by rw [hg]; exact (below_size blw) : w.heap.size ≤ gb572)); have n3_ := n2_; clear HB; revert n0_ n1_ n2_ n3_; intro HB BK572 GW572 GE572; clear hb hbox hg) | ((with_reducible refine gate_dst (N := 3) rfl ?_); refine box_event ?hg (N := 3) ?hd (cs := #[.int .i64 a1_0, .slice A1_1 l1_1.length c1_1, .slice A1_2 l1_2.length c1_2]) (t := 27) ?hr ?_; (case hd => rfl); (case hg => rfl); (case hr => exact hrw); intro gb573 hg w8 hbox hb; have n0_ := Aside0.mk (blk_below (g := gb572) (o := .cells #[.int .i64 a0_0, .slice A0_1 l0_1.length c0_1, .slice A0_2 l0_2.length c0_2] 27 (0, 0)) bkw hb); have n1_ := Aside0.mk (below_step blw hb); have n2_ := Aside0.mk (hbox); have n3_ := Aside0.mk ((by rw [hg]; exact (below_size blw) : w.heap.size ≤ gb573)); have n4_ := n3_; have n5_ := Aside0.mk ((by rw [hg]; exact Nat.ne_of_lt (blk_lt (g := gb572) (o := .cells #[.int .i64 a0_0, .slice A0_1 l0_1.length c0_1, .slice A0_2 l0_2.length c0_2] 27 (0, 0)) bkw) : gb572 ≠ gb573)); have n6_ := Aside0.mk ((by rw [hg]; exact Nat.ne_of_gt (blk_lt (g := gb572) (o := .cells #[.int .i64 a0_0, .slice A0_1 l0_1.length c0_1, .slice A0_2 l0_2.length c0_2] 27 (0, 0)) bkw) : gb573 ≠ gb572)); clear BK572; clear HB; revert n0_ n1_ n2_ n3_ n4_ n5_ n6_; intro BK572 HB BK573 GW573 GE573 NB572_573 NB573_572; clear hb hbox hg; have hnb9 := NB572_573.out; have hnc9 := NB573_572.out; obtain ⟨hcz10_0, hcz10_1, hcz10_2⟩ := cls3 BK572.out; obtain ⟨hfz10_0, hfz10_1, hfz10_2⟩ := frz3 BK572.out; obtain ⟨hcz11_0, hcz11_1, hcz11_2⟩ := cls3 BK573.out; obtain ⟨hfz11_0, hfz11_1, hfz11_2⟩ := frz3 BK573.out) | (go_at_call 41; (with_reducible refine (slices_Equal_string_string.calls k _ _ l0_1 _ _ l1_1 true _ ?side1 ?side2 ?side3 ?side4 A4.out).mono ?_); (case side1 => have X_ := HR0_1; exact cbl); (case side2 => exact HC0_1.out); (case side3 => have X_ := HR1_1; exact cbl); (case side4 => exact HC1_1.out); rintro e w' ⟨rfl, ⟨nd, rfl⟩⟩) | (go_at_call 42; (with_reducible refine (ih_81 k (by omega) _ _ l0_2 _ _ l1_2  t575 _ ?side1 ?side2 ?side3 ?side4 A6.out).mono ?_); (case side1 => repeat (first | exact (Kd.C_below HR0_2.out blw) | (with_reducible refine Kd.C_alloc ?_ _) | (with_reducible refine Kd.C_drewN ?_ _) | (with_reducible refine Kd.C_drew ?_))); (case side2 => exact HC0_2.out); (case side3 => repeat (first | exact (Kd.C_below HR1_2.out blw) | (with_reducible refine Kd.C_alloc ?_ _) | (with_reducible refine Kd.C_drewN ?_ _) | (with_reducible refine Kd.C_drew ?_))); (case side4 => exact HC1_2.out); rintro e w12 ⟨rfl, hb⟩; have n0_ := Aside0.mk (blk_below (g := gb572) (o := .cells #[.int .i64 a0_0, .slice A0_1 l0_1.length c0_1, .slice A0_2 l0_2.length c0_2] 27 (0, 0)) bkw hb); have n1_ := Aside0.mk (blk_below (g := gb573) (o := .cells #[.int .i64 a1_0, .slice A1_1 l1_1.length c1_1, .slice A1_2 l1_2.length c1_2] 27 (0, 0)) bkw hb); have n2_ := Aside0.mk (below_step blw hb); clear BK572; clear BK573; clear HB; revert n0_ n1_ n2_; intro BK572 BK573 HB; (try clear hb); (try clear hb2); (try clear hk); (try clear hi)))
 go_ret
 exact ⟨rfw, blw⟩

/-! ### slices_EqualFunc_Type_of_EqualType: function 81 -/
theorem slices_EqualFunc_Type_of_EqualType.step (k : Nat) (ih : ∀ m, m < k → ∀ (A0 : Option Addr) (c0 : Nat) (l0 : List (S27)) (A1 : Option Addr) (c1 : Nat) (l1 : List (S27))  (r : Bool) (w : World) (hr0 : Kd.C k27 w A0 l0.length l0) (hc0 : l0.length ≤ c0) (hr1 : Kd.C k27 w A1 l1.length l1) (hc1 : l1.length ≤ c1) (h : slices_EqualFunc_Type_of_EqualType.f m l0 l1 = some r),
  Calls Try.prog 42 #[.slice A0 l0.length c0, .slice A1 l1.length c1, .func (.func 20) #[] #[]] w fun e w' => e = .returned (.bool r) ∧ Below w.heap.size w w') (ih_20 : ∀ m, m < k → ∀ (a0_0 : Int) (A0_1 : Option Addr) (c0_1 : Nat) (l0_1 : List ByteArray) (A0_2 : Option Addr) (c0_2 : Nat) (l0_2 : List (S27)) (a1_0 : Int) (A1_1 : Option Addr) (c1_1 : Nat) (l1_1 : List ByteArray) (A1_2 : Option Addr) (c1_2 : Nat) (l1_2 : List (S27)) (r : Bool) (w : World) (hr0_1 : Kd.C Kd.string w A0_1 l0_1.length l0_1) (hc0_1 : l0_1.length ≤ c0_1) (hr0_2 : Kd.C k27 w A0_2 l0_2.length l0_2) (hc0_2 : l0_2.length ≤ c0_2) (hr1_1 : Kd.C Kd.string w A1_1 l1_1.length l1_1) (hc1_1 : l1_1.length ≤ c1_1) (hr1_2 : Kd.C k27 w A1_2 l1_2.length l1_2) (hc1_2 : l1_2.length ≤ c1_2) (h : impl_EqualType.f m a0_0 l0_1 l0_2 a1_0 l1_1 l1_2 = some r),
  Calls Try.prog 20 #[.agg #[.int .i64 a0_0, .slice A0_1 l0_1.length c0_1, .slice A0_2 l0_2.length c0_2], .agg #[.int .i64 a1_0, .slice A1_1 l1_1.length c1_1, .slice A1_2 l1_2.length c1_2]] w fun e w' => e = .returned (.bool r) ∧ Below w.heap.size w w') : ∀ (A0 : Option Addr) (c0 : Nat) (l0 : List (S27)) (A1 : Option Addr) (c1 : Nat) (l1 : List (S27))  (r : Bool) (w : World) (hr0 : Kd.C k27 w A0 l0.length l0) (hc0 : l0.length ≤ c0) (hr1 : Kd.C k27 w A1 l1.length l1) (hc1 : l1.length ≤ c1) (h : slices_EqualFunc_Type_of_EqualType.f k l0 l1 = some r),
  Calls Try.prog 42 #[.slice A0 l0.length c0, .slice A1 l1.length c1, .func (.func 20) #[] #[]] w fun e w' => e = .returned (.bool r) ∧ Below w.heap.size w w' := by
 intro A0 c0 l0 A1 c1 l1 r w hr0 hc0 hr1 hc1 h
 cases k with
 | zero => exact absurd h (by simp [slices_EqualFunc_Type_of_EqualType.f])
 | succ k =>
 simp only [slices_EqualFunc_Type_of_EqualType.f] at h
 have hu27 := Try.underlying27
 have HR0 := Aside0.mk hr0
 have HC0 := Aside0.mk hc0
 clear hr0 hc0
 have HR1 := Aside0.mk hr1
 have HC1 := Aside0.mk hc1
 clear hr1 hc1
 have HB := Aside0.mk (Below.refl w.heap.size w)
 have H : (if (l0.length : Int) = (l1.length : Int) then (slices_EqualFunc_Type_of_EqualType.l0 k l1 l0 (l0.length : Int) 0) else (some false)) = some r := h
 clear h
 by_cases c4 : (l0.length : Int) = (l1.length : Int)
 case neg =>
  rw [if_neg c4] at H
  have c4b0 : ((l0.length : Int) == (l1.length : Int)) = false := beq_eq_false_iff_ne.mpr c4
  have c4b1 : ((l0.length : Int) != (l1.length : Int)) = true := bne_iff_ne.mpr c4
  have c4b2 : (l0.length == l1.length) = false := by first | simpa using c4 | (simp at c4 ⊢; omega)
  obtain rfl := Option.some.inj H
  go_enter Try.func42, Try.ntmps42
  go_wp2
  go_ret
  exact ⟨rfw, blw⟩
 rw [if_pos c4] at H
 have c4b0 : ((l0.length : Int) == (l1.length : Int)) = true := beq_iff_eq.mpr c4
 have c4b1 : ((l0.length : Int) != (l1.length : Int)) = false := bne_eq_false_iff_eq.mpr c4
 have c4b2 : (l0.length == l1.length) = true := by first | simpa using c4 | (simp at c4 ⊢; omega)
 clear c4
 have H' := Aside0.mk H
 clear H
 go_enter Try.func42, Try.ntmps42
 go_wp2
 go_loopg [17] k (fun kq v17 w' => ∃ (x17_1 : Int), v17 = .int .i64 x17_1 ∧ Aside0 (slices_EqualFunc_Type_of_EqualType.l0 kq l1 l0 (l0.length : Int) x17_1 = some r) ∧ Aside0 (kq ≤ k) ∧ Aside0 (Below w.heap.size w w'))
 case atStart => exact ⟨(0), rfs, H', ⟨Nat.le_refl _⟩, ⟨blw⟩⟩
 case round =>
  clear H'
  (try clear c1); (try clear p2); (try clear c4); (try clear c4b0); (try clear c4b1); (try clear c4b2)
  obtain ⟨x17_1, rfl, HA, HK1, HB⟩ := hrel
  cases gk with
  | zero => exact absurd HA.out (by simp [slices_EqualFunc_Type_of_EqualType.l0])
  | succ k1 =>
   have H := HA.out
   clear HA
   simp only [slices_EqualFunc_Type_of_EqualType.l0] at H
   by_cases c5 : x17_1 < (l0.length : Int)
   case neg =>
    rw [if_neg c5] at H
    have c5b0 : decide (x17_1 < (l0.length : Int)) = false := decide_eq_false c5
    clear c5
    obtain rfl := Option.some.inj H
    go_wp2
    go_ret
    exact ⟨rfw, blw⟩
   rw [if_pos c5] at H
   have c5b0 : decide (x17_1 < (l0.length : Int)) = true := decide_eq_true c5
   clear c5
   by_cases c6 : 0 ≤ x17_1
   case neg =>
    rw [if_neg c6] at H
    exact absurd H (by simp)
   rw [if_pos c6] at H
   have c6b0 : decide (0 ≤ x17_1) = true := decide_eq_true c6
   clear c6
   by_cases c7 : x17_1 < (l0.length : Int)
   case neg =>
    rw [if_neg c7] at H
    exact absurd H (by simp)
   rw [if_pos c7] at H
   have c7b0 : decide (x17_1 < (l0.length : Int)) = true := decide_eq_true c7
   clear c7
   by_cases c8 : x17_1 < (l1.length : Int)
   case neg =>
    rw [if_neg c8] at H
    exact absurd H (by simp)
   rw [if_pos c8] at H
   have c8b0 : decide (x17_1 < (l1.length : Int)) = true := decide_eq_true c8
   clear c8
   replace H := Option.bind_eq_some_iff.mp H
   obtain ⟨t580, A90, H⟩ := H
   replace H : (if t580 = true then (slices_EqualFunc_Type_of_EqualType.l0 k1 l1 l0 (l0.length : Int) (wrap64 (x17_1 + 1))) else (some false)) = some r := H
   have A9 := Aside0.mk A90
   clear A90
   have HC10 := Aside0.mk H
   clear H
   have p576 : 0 ≤ (x17_1 : Int) := of_decide_eq_true asw
   have q576 : x17_1 < (l0.length : Int) := of_decide_eq_true asw
   obtain ⟨ad576, A576_1, c576_1, A576_2, c576_2, e576, hx576_0, hx576_1, hx576_2, hl576_1, hi576_1, hl576_2, hi576_2⟩ := at_T27 HR0.out x17_1 p576 q576
   cases e576
   replace hx576_0 := upw HB.out hx576_0
   replace hx576_1 := upw HB.out hx576_1
   replace hx576_2 := upw HB.out hx576_2
   have HR576_1 := Aside0.mk hi576_1
   have HC576_1 := Aside0.mk hl576_1
   clear hi576_1 hl576_1
   have HR576_2 := Aside0.mk hi576_2
   have HC576_2 := Aside0.mk hl576_2
   clear hi576_2 hl576_2
   replace p576 := eq_true p576
   replace q576 := eq_true q576
   go_upto_if 30 with (first | ((with_reducible refine gate_dst (N := 8) rfl ?_); refine box_event ?hg (N := 8) ?hd (cs := #[.int .i64 0, .slice none 0 0, .slice none 0 0]) (t := 27) ?hr ?_; (case hd => rfl); (case hg => rfl); (case hr => exact hrw); intro gb577 hg w11 hbox hb; have n0_ := Aside0.mk (below_step blw hb); have n1_ := Aside0.mk (hbox); have n2_ := Aside0.mk ((by rw [hg]; exact (below_size blw) : w.heap.size ≤ gb577)); have n3_ := n2_; clear HB; revert n0_ n1_ n2_ n3_; intro HB BK577 GW577 GE577; clear hb hbox hg; obtain ⟨hcz12_0, hcz12_1, hcz12_2⟩ := cls3 BK577.out; obtain ⟨hfz12_0, hfz12_1, hfz12_2⟩ := frz3 BK577.out; have p578 : 0 ≤ (x17_1 : Int) := of_decide_eq_true asw; have q578 : x17_1 < (l1.length : Int) := of_decide_eq_true asw; obtain ⟨ad578, A578_1, c578_1, A578_2, c578_2, e578, hx578_0, hx578_1, hx578_2, hl578_1, hi578_1, hl578_2, hi578_2⟩ := at_T27 HR1.out x17_1 p578 q578; cases e578; have hn578_0 : ad578.block ≠ gb577 := Nat.ne_of_lt (Nat.lt_of_lt_of_le (by have := World.block_lt_of_cell? _ _ hx578_0; first | rwa [add_block] at this | exact this) GW577.out); have hn578_1 : ad578.block ≠ gb577 := Nat.ne_of_lt (Nat.lt_of_lt_of_le (by have := World.block_lt_of_cell? _ _ hx578_0; first | rwa [add_block] at this | exact this) GW577.out); have hn578_2 : ad578.block ≠ gb577 := Nat.ne_of_lt (Nat.lt_of_lt_of_le (by have := World.block_lt_of_cell? _ _ hx578_0; first | rwa [add_block] at this | exact this) GW577.out); replace hx578_0 := upw HB.out hx578_0; replace hx578_1 := upw HB.out hx578_1; replace hx578_2 := upw HB.out hx578_2; have HR578_1 := Aside0.mk hi578_1; have HC578_1 := Aside0.mk hl578_1; clear hi578_1 hl578_1; have HR578_2 := Aside0.mk hi578_2; have HC578_2 := Aside0.mk hl578_2; clear hi578_2 hl578_2; replace hx578_0 := cfr hx578_0 ⟨gb577, 0, none⟩ (.int .i64 ((rd_T27 l0 x17_1).f0)) hn578_0; replace hx578_1 := cfr hx578_1 ⟨gb577, 0, none⟩ (.int .i64 ((rd_T27 l0 x17_1).f0)) hn578_0; replace hx578_2 := cfr hx578_2 ⟨gb577, 0, none⟩ (.int .i64 ((rd_T27 l0 x17_1).f0)) hn578_0; replace hx578_0 := cfr hx578_0 ⟨gb577, 1, none⟩ (.slice A576_1 ((rd_T27 l0 x17_1).f1).length c576_1) hn578_1; replace hx578_1 := cfr hx578_1 ⟨gb577, 1, none⟩ (.slice A576_1 ((rd_T27 l0 x17_1).f1).length c576_1) hn578_1; replace hx578_2 := cfr hx578_2 ⟨gb577, 1, none⟩ (.slice A576_1 ((rd_T27 l0 x17_1).f1).length c576_1) hn578_1; replace hx578_0 := cfr hx578_0 ⟨gb577, 2, none⟩ (.slice A576_2 ((rd_T27 l0 x17_1).f2).length c576_2) hn578_2; replace hx578_1 := cfr hx578_1 ⟨gb577, 2, none⟩ (.slice A576_2 ((rd_T27 l0 x17_1).f2).length c576_2) hn578_2; replace hx578_2 := cfr hx578_2 ⟨gb577, 2, none⟩ (.slice A576_2 ((rd_T27 l0 x17_1).f2).length c576_2) hn578_2; clear hn578_0; clear hn578_1; clear hn578_2; replace p578 := eq_true p578; replace q578 := eq_true q578) | ((with_reducible refine gate_dst (N := 9) rfl ?_); refine box_event ?hg (N := 9) ?hd (cs := #[.int .i64 0, .slice none 0 0, .slice none 0 0]) (t := 27) ?hr ?_; (case hd => rfl); (case hg => rfl); (case hr => exact hrw); intro gb579 hg w13 hbox hb; have n0_ := Aside0.mk (blk_below (g := gb577) (o := .cells #[.int .i64 ((rd_T27 l0 x17_1).f0), .slice A576_1 ((rd_T27 l0 x17_1).f1).length c576_1, .slice A576_2 ((rd_T27 l0 x17_1).f2).length c576_2] 27 (0, 0)) (by (with_reducible repeat (first | refine blk_drewN ?_ _ | refine blk_drew ?_ | refine blk_alloc ?_ _)); refine blk_put (cs := #[.int .i64 ((rd_T27 l0 x17_1).f0), .slice A576_1 ((rd_T27 l0 x17_1).f1).length c576_1, .slice none 0 0]) ?_ 2 _ rfl; (with_reducible repeat (first | refine blk_drewN ?_ _ | refine blk_drew ?_ | refine blk_alloc ?_ _)); refine blk_put (cs := #[.int .i64 ((rd_T27 l0 x17_1).f0), .slice none 0 0, .slice none 0 0]) ?_ 1 _ rfl; (with_reducible repeat (first | refine blk_drewN ?_ _ | refine blk_drew ?_ | refine blk_alloc ?_ _)); refine blk_put (cs := #[.int .i64 0, .slice none 0 0, .slice none 0 0]) ?_ 0 _ rfl; (with_reducible repeat (first | refine blk_drewN ?_ _ | refine blk_drew ?_ | refine blk_alloc ?_ _)); exact BK577.out) hb); have n1_ := Aside0.mk (below_step blw hb); have n2_ := Aside0.mk (hbox); have n3_ := Aside0.mk ((by rw [hg]; exact (below_size blw) : w.heap.size ≤ gb579)); have n4_ := n3_; have n5_ := Aside0.mk ((by rw [hg]; exact Nat.ne_of_lt (blk_lt (g := gb577) (o := .cells #[.int .i64 ((rd_T27 l0 x17_1).f0), .slice A576_1 ((rd_T27 l0 x17_1).f1).length c576_1, .slice A576_2 ((rd_T27 l0 x17_1).f2).length c576_2] 27 (0, 0)) (by (with_reducible repeat (first | refine blk_drewN ?_ _ | refine blk_drew ?_ | refine blk_alloc ?_ _)); refine blk_put (cs := #[.int .i64 ((rd_T27 l0 x17_1).f0), .slice A576_1 ((rd_T27 l0 x17_1).f1).length c576_1, .slice none 0 0]) ?_ 2 _ rfl; (with_reducible repeat (first | refine blk_drewN ?_ _ | refine blk_drew ?_ | refine blk_alloc ?_ _)); refine blk_put (cs := #[.int .i64 ((rd_T27 l0 x17_1).f0), .slice none 0 0, .slice none 0 0]) ?_ 1 _ rfl; (with_reducible repeat (first | refine blk_drewN ?_ _ | refine blk_drew ?_ | refine blk_alloc ?_ _)); refine blk_put (cs := #[.int .i64 0, .slice none 0 0, .slice none 0 0]) ?_ 0 _ rfl; (with_reducible repeat (first | refine blk_drewN ?_ _ | refine blk_drew ?_ | refine blk_alloc ?_ _)); exact BK577.out)) : gb577 ≠ gb579)); have n6_ := Aside0.mk ((by rw [hg]; exact Nat.ne_of_gt (blk_lt (g := gb577) (o := .cells #[.int .i64 ((rd_T27 l0 x17_1).f0), .slice A576_1 ((rd_T27 l0 x17_1).f1).length c576_1, .slice A576_2 ((rd_T27 l0 x17_1).f2).length c576_2] 27 (0, 0)) (by (with_reducible repeat (first | refine blk_drewN ?_ _ | refine blk_drew ?_ | refine blk_alloc ?_ _)); refine blk_put (cs := #[.int .i64 ((rd_T27 l0 x17_1).f0), .slice A576_1 ((rd_T27 l0 x17_1).f1).length c576_1, .slice none 0 0]) ?_ 2 _ rfl; (with_reducible repeat (first | refine blk_drewN ?_ _ | refine blk_drew ?_ | refine blk_alloc ?_ _)); refine blk_put (cs := #[.int .i64 ((rd_T27 l0 x17_1).f0), .slice none 0 0, .slice none 0 0]) ?_ 1 _ rfl; (with_reducible repeat (first | refine blk_drewN ?_ _ | refine blk_drew ?_ | refine blk_alloc ?_ _)); refine blk_put (cs := #[.int .i64 0, .slice none 0 0, .slice none 0 0]) ?_ 0 _ rfl; (with_reducible repeat (first | refine blk_drewN ?_ _ | refine blk_drew ?_ | refine blk_alloc ?_ _)); exact BK577.out)) : gb579 ≠ gb577)); clear BK577; clear HB; revert n0_ n1_ n2_ n3_ n4_ n5_ n6_; intro BK577 HB BK579 GW579 GE579 NB577_579 NB579_577; clear hb hbox hg; have hnb14 := NB579_577.out; have hnc14 := NB577_579.out; obtain ⟨hcz15_0, hcz15_1, hcz15_2⟩ := cls3 BK579.out; obtain ⟨hfz15_0, hfz15_1, hfz15_2⟩ := frz3 BK579.out; obtain ⟨hcz16_0, hcz16_1, hcz16_2⟩ := cls3 BK577.out; obtain ⟨hfz16_0, hfz16_1, hfz16_2⟩ := frz3 BK577.out) | ((with_reducible refine gate_calleev (t := 26) rfl ?_); refine goesV_ 26 (some 29) rfl rfl rfl Try.func20 kr rfl #[.agg #[.int .i64 ((rd_T27 l0 x17_1).f0), .slice A576_1 ((rd_T27 l0 x17_1).f1).length c576_1, .slice A576_2 ((rd_T27 l0 x17_1).f2).length c576_2], .agg #[.int .i64 ((rd_T27 l1 x17_1).f0), .slice A578_1 ((rd_T27 l1 x17_1).f1).length c578_1, .slice A578_2 ((rd_T27 l1 x17_1).f2).length c578_2]] rfl mpw ?_; (with_reducible refine (ih_20 k1 (by have := HK1.out; omega) ((rd_T27 l0 x17_1).f0) _ _ ((rd_T27 l0 x17_1).f1) _ _ ((rd_T27 l0 x17_1).f2) ((rd_T27 l1 x17_1).f0) _ _ ((rd_T27 l1 x17_1).f1) _ _ ((rd_T27 l1 x17_1).f2) t580 _ ?side1 ?side2 ?side3 ?side4 ?side5 ?side6 ?side7 ?side8 A9.out).mono ?_); (case side1 => exact Kd.C_below HR576_1.out blw); (case side2 => exact HC576_1.out); (case side3 => exact Kd.C_below HR576_2.out blw); (case side4 => exact HC576_2.out); (case side5 => exact Kd.C_below HR578_1.out blw); (case side6 => exact HC578_1.out); (case side7 => exact Kd.C_below HR578_2.out blw); (case side8 => exact HC578_2.out); rintro e w17 ⟨rfl, hb⟩; refine ⟨_, rfl, ?_⟩; have n0_ := Aside0.mk (blk_below (g := gb577) (o := .cells #[.int .i64 ((rd_T27 l0 x17_1).f0), .slice A576_1 ((rd_T27 l0 x17_1).f1).length c576_1, .slice A576_2 ((rd_T27 l0 x17_1).f2).length c576_2] 27 (0, 0)) (by (with_reducible repeat (first | refine blk_drewN ?_ _ | refine blk_drew ?_ | refine blk_alloc ?_ _)); refine blk_far ?_ NB577_579.out _; (with_reducible repeat (first | refine blk_drewN ?_ _ | refine blk_drew ?_ | refine blk_alloc ?_ _)); refine blk_far ?_ NB577_579.out _; (with_reducible repeat (first | refine blk_drewN ?_ _ | refine blk_drew ?_ | refine blk_alloc ?_ _)); refine blk_far ?_ NB577_579.out _; (with_reducible repeat (first | refine blk_drewN ?_ _ | refine blk_drew ?_ | refine blk_alloc ?_ _)); exact BK577.out) hb); have n1_ := Aside0.mk (blk_below (g := gb579) (o := .cells #[.int .i64 ((rd_T27 l1 x17_1).f0), .slice A578_1 ((rd_T27 l1 x17_1).f1).length c578_1, .slice A578_2 ((rd_T27 l1 x17_1).f2).length c578_2] 27 (0, 0)) (by (with_reducible repeat (first | refine blk_drewN ?_ _ | refine blk_drew ?_ | refine blk_alloc ?_ _)); refine blk_put (cs := #[.int .i64 ((rd_T27 l1 x17_1).f0), .slice A578_1 ((rd_T27 l1 x17_1).f1).length c578_1, .slice none 0 0]) ?_ 2 _ rfl; (with_reducible repeat (first | refine blk_drewN ?_ _ | refine blk_drew ?_ | refine blk_alloc ?_ _)); refine blk_put (cs := #[.int .i64 ((rd_T27 l1 x17_1).f0), .slice none 0 0, .slice none 0 0]) ?_ 1 _ rfl; (with_reducible repeat (first | refine blk_drewN ?_ _ | refine blk_drew ?_ | refine blk_alloc ?_ _)); refine blk_put (cs := #[.int .i64 0, .slice none 0 0, .slice none 0 0]) ?_ 0 _ rfl; (with_reducible repeat (first | refine blk_drewN ?_ _ | refine blk_drew ?_ | refine blk_alloc ?_ _)); exact BK579.out) hb); have n2_ := Aside0.mk (below_step blw hb); clear BK577; clear BK579; clear HB; revert n0_ n1_ n2_; intro BK577 BK579 HB; (try clear hb); (try clear hb2); (try clear hk); (try clear hi)))
   have H := HC10.out
   clear HC10
   by_cases c18 : t580 = true
   case neg =>
    replace c18 := Bool.eq_false_iff.mpr c18
    subst c18
    have H1 : (some false) = some r := by rw [if_neg (show ¬ (false = true) by decide)] at H; exact H
    clear H
    have H := H1
    clear H1
    obtain rfl := Option.some.inj H
    go_wp2
    go_ret
    exact ⟨rfw, blw⟩
   subst c18
   have H1 : (slices_EqualFunc_Type_of_EqualType.l0 k1 l1 l0 (l0.length : Int) (wrap64 (x17_1 + 1))) = some r := by rw [if_pos rfl] at H; exact H
   clear H
   have H := H1
   clear H1
   have H' := Aside0.mk H
   clear H
   go_wp2
   go_roundg k1
   case measure => have := HK1.out; omega
   case rel => exact ⟨(wrap64 (x17_1 + 1)), rfs, H', ⟨by have := HK1.out; omega⟩, ⟨blw⟩⟩

theorem impl_EqualType.all (k : Nat) : (∀ (a0_0 : Int) (A0_1 : Option Addr) (c0_1 : Nat) (l0_1 : List ByteArray) (A0_2 : Option Addr) (c0_2 : Nat) (l0_2 : List (S27)) (a1_0 : Int) (A1_1 : Option Addr) (c1_1 : Nat) (l1_1 : List ByteArray) (A1_2 : Option Addr) (c1_2 : Nat) (l1_2 : List (S27)) (r : Bool) (w : World) (hr0_1 : Kd.C Kd.string w A0_1 l0_1.length l0_1) (hc0_1 : l0_1.length ≤ c0_1) (hr0_2 : Kd.C k27 w A0_2 l0_2.length l0_2) (hc0_2 : l0_2.length ≤ c0_2) (hr1_1 : Kd.C Kd.string w A1_1 l1_1.length l1_1) (hc1_1 : l1_1.length ≤ c1_1) (hr1_2 : Kd.C k27 w A1_2 l1_2.length l1_2) (hc1_2 : l1_2.length ≤ c1_2) (h : impl_EqualType.f k a0_0 l0_1 l0_2 a1_0 l1_1 l1_2 = some r),
  Calls Try.prog 20 #[.agg #[.int .i64 a0_0, .slice A0_1 l0_1.length c0_1, .slice A0_2 l0_2.length c0_2], .agg #[.int .i64 a1_0, .slice A1_1 l1_1.length c1_1, .slice A1_2 l1_2.length c1_2]] w fun e w' => e = .returned (.bool r) ∧ Below w.heap.size w w') ∧ (∀ (A0 : Option Addr) (c0 : Nat) (l0 : List (S27)) (A1 : Option Addr) (c1 : Nat) (l1 : List (S27))  (r : Bool) (w : World) (hr0 : Kd.C k27 w A0 l0.length l0) (hc0 : l0.length ≤ c0) (hr1 : Kd.C k27 w A1 l1.length l1) (hc1 : l1.length ≤ c1) (h : slices_EqualFunc_Type_of_EqualType.f k l0 l1 = some r),
  Calls Try.prog 42 #[.slice A0 l0.length c0, .slice A1 l1.length c1, .func (.func 20) #[] #[]] w fun e w' => e = .returned (.bool r) ∧ Below w.heap.size w w') := by
 induction k using Nat.strongRecOn with
 | _ k ih =>
 exact ⟨impl_EqualType.step k (fun m hm_ => (ih m hm_).1) (fun m hm_ => (ih m hm_).2), slices_EqualFunc_Type_of_EqualType.step k (fun m hm_ => (ih m hm_).2) (fun m hm_ => (ih m hm_).1)⟩

theorem impl_EqualType.calls (k : Nat) : ∀ (a0_0 : Int) (A0_1 : Option Addr) (c0_1 : Nat) (l0_1 : List ByteArray) (A0_2 : Option Addr) (c0_2 : Nat) (l0_2 : List (S27)) (a1_0 : Int) (A1_1 : Option Addr) (c1_1 : Nat) (l1_1 : List ByteArray) (A1_2 : Option Addr) (c1_2 : Nat) (l1_2 : List (S27)) (r : Bool) (w : World) (hr0_1 : Kd.C Kd.string w A0_1 l0_1.length l0_1) (hc0_1 : l0_1.length ≤ c0_1) (hr0_2 : Kd.C k27 w A0_2 l0_2.length l0_2) (hc0_2 : l0_2.length ≤ c0_2) (hr1_1 : Kd.C Kd.string w A1_1 l1_1.length l1_1) (hc1_1 : l1_1.length ≤ c1_1) (hr1_2 : Kd.C k27 w A1_2 l1_2.length l1_2) (hc1_2 : l1_2.length ≤ c1_2) (h : impl_EqualType.f k a0_0 l0_1 l0_2 a1_0 l1_1 l1_2 = some r),
  Calls Try.prog 20 #[.agg #[.int .i64 a0_0, .slice A0_1 l0_1.length c0_1, .slice A0_2 l0_2.length c0_2], .agg #[.int .i64 a1_0, .slice A1_1 l1_1.length c1_1, .slice A1_2 l1_2.length c1_2]] w fun e w' => e = .returned (.bool r) ∧ Below w.heap.size w w' := (impl_EqualType.all k).1

/-! ### spec_l3Texts: function 43 -/
def spec_l3Texts.l0 : Nat → List ByteArray → List ByteArray → Int → Option (Bool)
 | 0, _, _, _ => none
 | k + 1, x0, x1, x5 => if x5 < (x0.length : Int) then (if 0 ≤ x5 then (if x5 < (x1.length : Int) then (if (rdOf ByteArray.empty x0 x5).toList = (rdOf ByteArray.empty x1 x5).toList then (spec_l3Texts.l0 k x0 x1 (wrap64 (x5 + 1))) else (some false)) else (none)) else (none)) else (some true)
def spec_l3Texts.f (k : Nat) (l0 : List ByteArray) (l1 : List ByteArray) : Option (Bool) := if (l0.length : Int) = (l1.length : Int) then (spec_l3Texts.l0 k l0 l1 0) else (some false)
theorem spec_l3Texts.calls (k : Nat) (A0 : Option Addr) (c0 : Nat) (l0 : List ByteArray) (A1 : Option Addr) (c1 : Nat) (l1 : List ByteArray) (r : Bool) (w : World) (hr0 : Kd.C Kd.string w A0 l0.length l0) (hc0 : l0.length ≤ c0) (hr1 : Kd.C Kd.string w A1 l1.length l1) (hc1 : l1.length ≤ c1) (h : spec_l3Texts.f k l0 l1 = some r) :
  Calls Try.prog 43 #[.slice A0 l0.length c0, .slice A1 l1.length c1] w fun e w' => e = .returned (.bool r) ∧ Drawn0 w w' := by
 have HR0 := Aside0.mk hr0
 have HC0 := Aside0.mk hc0
 clear hr0 hc0
 have HR1 := Aside0.mk hr1
 have HC1 := Aside0.mk hc1
 clear hr1 hc1
 have H : (if (l0.length : Int) = (l1.length : Int) then (spec_l3Texts.l0 k l0 l1 0) else (some false)) = some r := h
 clear h
 by_cases c3 : (l0.length : Int) = (l1.length : Int)
 case neg =>
  rw [if_neg c3] at H
  have c3b0 : ((l0.length : Int) == (l1.length : Int)) = false := beq_eq_false_iff_ne.mpr c3
  have c3b1 : ((l0.length : Int) != (l1.length : Int)) = true := bne_iff_ne.mpr c3
  have c3b2 : (l0.length == l1.length) = false := by first | simpa using c3 | (simp at c3 ⊢; omega)
  obtain rfl := Option.some.inj H
  go_enter Try.func43, Try.ntmps43
  go_wp2
  repeat (go_quiet (fail); try go_wp2)
  go_ret
  exact ⟨rfs, by repeat (first | exact Drawn0.refl _ | apply Drawn0.step)⟩
 rw [if_pos c3] at H
 have c3b0 : ((l0.length : Int) == (l1.length : Int)) = true := beq_iff_eq.mpr c3
 have c3b1 : ((l0.length : Int) != (l1.length : Int)) = false := bne_eq_false_iff_eq.mpr c3
 have c3b2 : (l0.length == l1.length) = true := by first | simpa using c3 | (simp at c3 ⊢; omega)
 clear c3
 have H' := Aside0.mk H
 clear H
 go_enter Try.func43, Try.ntmps43
 go_wp2
 repeat (go_quiet (fail); try go_wp2)
 go_loopg [5] k (fun kq v5 w' => ∃ (x5_1 : Int), v5 = .int .i64 x5_1 ∧ Aside0 (spec_l3Texts.l0 kq l0 l1 x5_1 = some r) ∧ Aside0 (kq ≤ k) ∧ Drawn0 w w')
 case atStart => exact ⟨(0), rfs, H', ⟨Nat.le_refl _⟩, by repeat (first | exact Drawn0.refl _ | apply Drawn0.step)⟩
 case round =>
  clear H'
  (try clear c1); (try clear p2); (try clear c3); (try clear c3b0); (try clear c3b1); (try clear c3b2)
  obtain ⟨x5_1, rfl, HA, HK1, ⟨m1, rfl⟩⟩ := hrel
  cases gk with
  | zero => exact absurd HA.out (by simp [spec_l3Texts.l0])
  | succ k1 =>
   have H := HA.out
   clear HA
   simp only [spec_l3Texts.l0] at H
   by_cases c4 : x5_1 < (l0.length : Int)
   case neg =>
    rw [if_neg c4] at H
    have c4b0 : decide (x5_1 < (l0.length : Int)) = false := decide_eq_false c4
    clear c4
    obtain rfl := Option.some.inj H
    go_wp2
    repeat (go_quiet (fail); try go_wp2)
    go_ret
    exact ⟨rfs, by repeat (first | exact Drawn0.refl _ | apply Drawn0.step)⟩
   rw [if_pos c4] at H
   have c4b0 : decide (x5_1 < (l0.length : Int)) = true := decide_eq_true c4
   clear c4
   by_cases c5 : 0 ≤ x5_1
   case neg =>
    rw [if_neg c5] at H
    exact absurd H (by simp)
   rw [if_pos c5] at H
   have c5b0 : decide (0 ≤ x5_1) = true := decide_eq_true c5
   clear c5
   by_cases c6 : x5_1 < (l1.length : Int)
   case neg =>
    rw [if_neg c6] at H
    exact absurd H (by simp)
   rw [if_pos c6] at H
   have c6b0 : decide (x5_1 < (l1.length : Int)) = true := decide_eq_true c6
   clear c6
   by_cases c7 : (rdOf ByteArray.empty l0 x5_1).toList = (rdOf ByteArray.empty l1 x5_1).toList
   case neg =>
    rw [if_neg c7] at H
    have c7b0 : ((rdOf ByteArray.empty l0 x5_1).toList == (rdOf ByteArray.empty l1 x5_1).toList) = false := beq_eq_false_iff_ne.mpr c7
    have c7b1 : ((rdOf ByteArray.empty l0 x5_1).toList != (rdOf ByteArray.empty l1 x5_1).toList) = true := bne_iff_ne.mpr c7
    obtain rfl := Option.some.inj H
    have p581 : 0 ≤ (x5_1 : Int) := of_decide_eq_true asw
    have q581 : x5_1 < (l0.length : Int) := of_decide_eq_true asw
    obtain ⟨ad581, e581, hx581_0⟩ := Kd.at_string HR0.out x5_1 p581 q581
    cases e581
    replace p581 := eq_true p581
    replace q581 := eq_true q581
    have p582 : 0 ≤ (x5_1 : Int) := of_decide_eq_true asw
    have q582 : x5_1 < (l1.length : Int) := of_decide_eq_true asw
    obtain ⟨ad582, e582, hx582_0⟩ := Kd.at_string HR1.out x5_1 p582 q582
    cases e582
    replace p582 := eq_true p582
    replace q582 := eq_true q582
    go_wp2
    repeat (go_quiet (fail); try go_wp2)
    go_ret
    exact ⟨rfs, by repeat (first | exact Drawn0.refl _ | apply Drawn0.step)⟩
   rw [if_pos c7] at H
   have c7b0 : ((rdOf ByteArray.empty l0 x5_1).toList == (rdOf ByteArray.empty l1 x5_1).toList) = true := beq_iff_eq.mpr c7
   have c7b1 : ((rdOf ByteArray.empty l0 x5_1).toList != (rdOf ByteArray.empty l1 x5_1).toList) = false := bne_eq_false_iff_eq.mpr c7
   clear c7
   have H' := Aside0.mk H
   clear H
   have p581 : 0 ≤ (x5_1 : Int) := of_decide_eq_true asw
   have q581 : x5_1 < (l0.length : Int) := of_decide_eq_true asw
   obtain ⟨ad581, e581, hx581_0⟩ := Kd.at_string HR0.out x5_1 p581 q581
   cases e581
   replace p581 := eq_true p581
   replace q581 := eq_true q581
   have p582 : 0 ≤ (x5_1 : Int) := of_decide_eq_true asw
   have q582 : x5_1 < (l1.length : Int) := of_decide_eq_true asw
   obtain ⟨ad582, e582, hx582_0⟩ := Kd.at_string HR1.out x5_1 p582 q582
   cases e582
   replace p582 := eq_true p582
   replace q582 := eq_true q582
   go_wp2
   repeat (go_quiet (fail); try go_wp2)
   go_roundg k1
   case measure => have := HK1.out; omega
   case rel => exact ⟨(wrap64 (x5_1 + 1)), rfs, H', ⟨by have := HK1.out; omega⟩, by repeat (first | exact Drawn0.refl _ | apply Drawn0.step)⟩

end Go.Proofs.Ytaakdfbfgabdbaa.Pt
end
section
namespace Go.Proofs.Ytaakdfbfgabdbaa.Pt
open Go.RowKit Go.Proofs.YtaakdfbfgabdbaaW.PrintWords Go.Proofs.YtaakdfbfgabdbaaW.PrintLast Go.Proofs.Ytaakdfbfgabdbaa.Pl Go.Proofs.Ytaakdfbfgabdbaa.Ext
set_option linter.unusedVariables false
set_option linter.unusedSimpArgs false
theorem Texts_self (xs : List ByteArray) (hx : xs.length ≤ 1048576) : Ev (fun k => slices_Equal_string_string.f k xs xs) true := by
  suffices h : ∀ (m i : Nat), i + m = xs.length → Ev (fun k => slices_Equal_string_string.l0 k xs xs (xs.length : Int) (i : Int)) true by
    simp only [slices_Equal_string_string.f]
    exact Ev.pos (by first | trivial | rfl) (h xs.length 0 (by omega))
  intro m
  induction m with
  | zero =>
    intro i hi
    refine Ev.up ?_
    simp only [slices_Equal_string_string.l0]
    exact Ev.neg (by omega) (Ev.now _)
  | succ m ihm =>
    intro i hi
    refine Ev.up ?_
    simp only [slices_Equal_string_string.l0, w1' (show i < xs.length by omega) hx]
    exact Ev.pos (by omega) (Ev.pos (by omega) (Ev.pos (by omega) (Ev.pos (by omega) (Ev.pos (by first | trivial | rfl) (ihm (i + 1) (by omega))))))
theorem EqualType_self : ∀ x : S27, SmType x → Ev (fun k => impl_EqualType.f k x.f0 x.f1 x.f2 x.f0 x.f1 x.f2) true := by
  refine indTypeI fun x ih hs => ?_
  have loop : Ev (fun k => slices_EqualFunc_Type_of_EqualType.l0 k x.f2 x.f2 (x.f2.length : Int) 0) true := by
    suffices h : ∀ (m i : Nat), i + m = x.f2.length → Ev (fun k => slices_EqualFunc_Type_of_EqualType.l0 k x.f2 x.f2 (x.f2.length : Int) (i : Int)) true from h x.f2.length 0 (by omega)
    intro m
    induction m with
    | zero =>
      intro i hi
      refine Ev.up ?_
      simp only [slices_EqualFunc_Type_of_EqualType.l0]
      exact Ev.neg (by omega) (Ev.now _)
    | succ m ihm =>
      intro i hi
      refine Ev.up ?_
      simp only [slices_EqualFunc_Type_of_EqualType.l0, w1' (show i < x.f2.length by omega) hs.p2.1]
      refine Ev.pos (by omega) (Ev.pos (by omega) (Ev.pos (by omega) (Ev.pos (by omega) ?_)))
      have hm := mem_getD x.f2 z27 i (by omega)
      exact Ev.bind (a := true) (ih (x.f2.getD i z27) hm (hs.p2.2 _ hm)) (Ev.pos (by first | trivial | rfl) (ihm (i + 1) (by omega)))
  refine Ev.up ?_
  simp only [impl_EqualType.f]
  refine Ev.pos (by first | trivial | rfl) (Ev.bind (a := true) (Texts_self x.f1 hs.p1.1) (Ev.pos (by first | trivial | rfl) (Ev.bind (a := true) ?_ (Ev.now _))))
  refine Ev.up ?_
  simp only [slices_EqualFunc_Type_of_EqualType.f]
  exact Ev.pos (by first | trivial | rfl) loop

end Go.Proofs.Ytaakdfbfgabdbaa.Pt
end
