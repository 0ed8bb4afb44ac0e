/- impl.termText: its contract. No condition beyond the sizes named. -/
import Derived.Test.YtgplgphchdgedaaDoorZFormatTermSh
import Derived.Test.YtgplgphchdgedaaDoorZFormatTermPx0M
import Derived.Test.YtgplgphchdgedaaDoorZFormatTermPx21M
import Derived.Test.YtgplgphchdgedaaDoorZFormatTermPxTermPM
import Derived.Test.YtgplgphchdgedaaDoorZFormatTermPxTermK0M
import Derived.Laws.EntriesVeiled
import Derived.Shelf.Strings.BuilderK
import Derived.Test.YtgplgphchdgedaaDoorZFormatTermWLastM
import Derived.Tactics2
import Derived.BigCall
import Derived.Test.YtgplgphchdgedaaDoorZFormatTermPx24M
import Derived.Test.YtgplgphchdgedaaDoorZFormatTermPx14
import Derived.Test.YtgplgphchdgedaaDoorZFormatTermPx15M
import Derived.Test.YtgplgphchdgedaaDoorZFormatTermPx19M
import Derived.Test.YtgplgphchdgedaaDoorZFormatTermPx26M
import Derived.Test.YtgplgphchdgedaaDoorZFormatTermPx4M
section
namespace Go.Proofs.YtgplgphchdgedaaDoor.Px
open Go.RowKit Go.Proofs.YtgplgphchdgedaaDoorW.PrintWords Go.Proofs.YtgplgphchdgedaaDoorW.PrintLast Go.Proofs.YtgplgphchdgedaaDoorW.PrintMore Go.Proofs.YtgplgphchdgedaaDoor.Pl Go.Proofs.YtgplgphchdgedaaDoor.Ext
set_option linter.unusedVariables false
set_option linter.unusedSimpArgs false
def OkX (x : S36) : Prop := GoodE x ∧ (txL x).length ≤ 140737488355328 ∧ ∃ k, impl_termForm.f k x.f0 x.f1 x.f2 x.f3.f0 x.f3.f1 x.f3.f2 x.f4 x.f5 = some true
open Classical in
/-- impl.termText: the text of a term of a right form. -/
noncomputable def impl_termText.f (a0_0 : Int) (a0_1 : ByteArray) (a0_2 : Int) (a0_3 : Int) (l0_4 : List ByteArray) (l0_5 : List S33) (l0_6 : List ByteArray) (l0_7 : List S36) : Option ByteArray := if OkX (⟨a0_0, a0_1, a0_2, ⟨a0_3, l0_4, l0_5⟩, l0_6, l0_7⟩ : S36) then some ⟨(txL (⟨a0_0, a0_1, a0_2, ⟨a0_3, l0_4, l0_5⟩, l0_6, l0_7⟩ : S36)).toArray⟩ else none
set_option maxHeartbeats 8000000 in
set_option maxRecDepth 100000 in
theorem impl_termText.calls (a0_0 : Int) (a0_1 : ByteArray) (a0_2 : Int) (a0_3 : Int) (A0_4 : Option Addr) (c0_4 : Nat) (l0_4 : List ByteArray) (A0_5 : Option Addr) (c0_5 : Nat) (l0_5 : List S33) (A0_6 : Option Addr) (c0_6 : Nat) (l0_6 : List ByteArray) (A0_7 : Option Addr) (c0_7 : Nat) (l0_7 : List S36) (r : ByteArray) (w : World) (hr0_4 : Kd.C Kd.string w A0_4 l0_4.length l0_4) (hc0_4 : l0_4.length ≤ c0_4) (hr0_5 : Kd.C k33 w A0_5 l0_5.length l0_5) (hc0_5 : l0_5.length ≤ c0_5) (hr0_6 : Kd.C Kd.string w A0_6 l0_6.length l0_6) (hc0_6 : l0_6.length ≤ c0_6) (hr0_7 : Kd.C k36 w A0_7 l0_7.length l0_7) (hc0_7 : l0_7.length ≤ c0_7) (hL : Laid w) (h : impl_termText.f a0_0 a0_1 a0_2 a0_3 l0_4 l0_5 l0_6 l0_7 = some r) :
    Calls Tryd.prog 18 #[.agg #[.int .i64 a0_0, .string a0_1, .int .i64 a0_2, .int .i64 a0_3, .slice A0_4 l0_4.length c0_4, .slice A0_5 l0_5.length c0_5, .slice A0_6 l0_6.length c0_6, .slice A0_7 l0_7.length c0_7]] w fun e w' => e = .returned (.string r) ∧ Below w.heap.size w w' := by
  unfold impl_termText.f at h
  have hok : OkX (⟨a0_0, a0_1, a0_2, ⟨a0_3, l0_4, l0_5⟩, l0_6, l0_7⟩ : S36) := Classical.byContradiction fun hn => by rw [if_neg hn] at h; cases h
  rw [if_pos hok] at h
  obtain rfl := Option.some.inj h
  obtain ⟨hg, hl, kf, hf⟩ := hok
  have HG := Aside0.mk hg; have HLN := Aside0.mk hl; have HF := Aside0.mk hf; have HLD := Aside0.mk hL; have HW := Aside0.mk (Below.refl w.heap.size w)
  have HR4 := Aside0.mk (And.intro hr0_4 hc0_4)
  have HR5 := Aside0.mk (And.intro hr0_5 hc0_5)
  have HR6 := Aside0.mk (And.intro hr0_6 hc0_6)
  have HR7 := Aside0.mk (And.intro hr0_7 hc0_7)
  clear h hg hl hf hL hr0_4 hc0_4 hr0_5 hc0_5 hr0_6 hc0_6 hr0_7 hc0_7
  go_enter Tryd.func18, Tryd.ntmps18
  go_upto_region 4 with (first | ((with_reducible refine gate_dst (N := 1) rfl ?_); refine box_event ?hg (N := 1) ?hd (cs := #[.int .i64 a0_0, .string a0_1, .int .i64 a0_2, .int .i64 a0_3, .slice A0_4 l0_4.length c0_4, .slice A0_5 l0_5.length c0_5, .slice A0_6 l0_6.length c0_6, .slice A0_7 l0_7.length c0_7]) (t := 36) ?hr ?_; (case hd => rfl); (case hg => rfl); (case hr => first | (go_simp; done) | (go_simp; rfl)); intro gx hg w1 hbox hb_; replace HW := Aside0.mk (below_step HW.out hb_); have BX := Aside0.mk hbox; clear hg hbox hb_) | ((with_reducible refine gate_callee (f := 33) rfl ?_); refine goesL_ (some 4) rfl rfl Tryd.func33 (by kernel_rfl) rfl #[.pointer (some ⟨gx, 0, none⟩)] rfl (by (try simp only [List.map_toArray, List.map_cons, List.map_nil]); first | done | rfl | (simp only [List.length_drop, List.length_take]; rfl)) ?_; refine (impl_termForm.calls kf ⟨gx, 0, none⟩ a0_0 a0_1 a0_2 a0_3 A0_4 c0_4 l0_4 A0_5 c0_5 l0_5 A0_6 c0_6 l0_6 A0_7 c0_7 l0_7 true _ ⟨(blk_cell BX.out 0).trans rfl, (blk_cell BX.out 1).trans rfl, (blk_cell BX.out 2).trans rfl, (blk_cell BX.out 3).trans rfl, (blk_cell BX.out 4).trans rfl, (blk_cell BX.out 5).trans rfl, (blk_cell BX.out 6).trans rfl, (blk_cell BX.out 7).trans rfl, trivial⟩ (Kd.C_below HR4.out.1 HW.out) HR4.out.2 (Kd.C_below HR5.out.1 HW.out) HR5.out.2 (Kd.C_below HR6.out.1 HW.out) HR6.out.2 (Kd.C_below HR7.out.1 HW.out) HR7.out.2 HF.out).mono ?_; rintro e w2 ⟨rfl, hb⟩; refine ⟨_, rfl, ?_⟩; replace BX := Aside0.mk (blk_below BX.out hb); replace HW := Aside0.mk (below_step HW.out hb); clear hb) | ((with_reducible refine gate_dst (N := 3) rfl ?_); refine box_event ?hg (N := 3) ?hd (cs := #[.pointer none, .slice none 0 0]) (t := 64) ?hr ?_; (case hd => rfl); (case hg => rfl); (case hr => first | (go_simp; done) | (go_simp; rfl)); intro gb hg w3 hbox hb_; have HGB := Aside0.mk (show w2.heap.size ≤ gb by rw [hg]; exact Nat.le_refl _); have HW2 := Aside0.mk hb_; have BB := Aside0.mk hbox; have hx0 : w3.cell? ⟨gb, 0, none⟩ = some (.pointer none) := (blk_cell hbox 0).trans rfl; have hx1 : w3.cell? ⟨gb, 1, none⟩ = some (.slice none 0 0) := (blk_cell hbox 1).trans rfl; have hf0 := blk_frozen hbox 0; have hf1 := blk_frozen hbox 1; clear hg hbox hb_))
  clear hx0 hx1 hf0 hf1
  have BB4 : ((w3.setCell ⟨gb, 0, none⟩ (.pointer none)).setCell ⟨gb, 1, none⟩ (.slice none 0 0)).heap[gb]? = some (.cells #[.pointer none, .slice none 0 0] 64 (0, 0)) := blk_put (cs := #[.pointer none, .slice none 0 0]) (blk_put (cs := #[.pointer none, .slice none 0 0]) BB.out 0 _ rfl) 1 _ rfl
  have HB4 : Below w2.heap.size w2 ((w3.setCell ⟨gb, 0, none⟩ (.pointer none)).setCell ⟨gb, 1, none⟩ (.slice none 0 0)) := below_set (below_set HW2.out HGB.out) HGB.out
  generalize (w3.setCell ⟨gb, 0, none⟩ (.pointer none)).setCell ⟨gb, 1, none⟩ (.slice none 0 0) = w4 at BB4 HB4 ⊢
  have HBL := Aside0.mk (show Bl w2 gb [] w4 from .inl ⟨HGB.out, .slice none 0 0, BB4, ⟨rfl, .inl ⟨rfl, rfl⟩⟩, by simp [Value.ownBlock]⟩)
  have HB5 := Aside0.mk HB4
  clear BB4 HB4 BB HW2
  have HTR := Aside0.mk (show Tr w2 ⟨gx, 0, none⟩ (⟨a0_0, a0_1, a0_2, ⟨a0_3, l0_4, l0_5⟩, l0_6, l0_7⟩ : S36) from ⟨A0_4, c0_4, A0_5, c0_5, A0_6, c0_6, A0_7, c0_7, ⟨(blk_cell BX.out 0).trans rfl, (blk_cell BX.out 1).trans rfl, (blk_cell BX.out 2).trans rfl, (blk_cell BX.out 3).trans rfl, (blk_cell BX.out 4).trans rfl, (blk_cell BX.out 5).trans rfl, (blk_cell BX.out 6).trans rfl, (blk_cell BX.out 7).trans rfl, trivial⟩, ⟨Kd.C_below HR4.out.1 HW.out, HR4.out.2⟩, ⟨Kd.C_below HR5.out.1 HW.out, HR5.out.2⟩, ⟨Kd.C_below HR6.out.1 HW.out, HR6.out.2⟩, ⟨Kd.C_below HR7.out.1 HW.out, HR7.out.2⟩⟩)
  go_wp2_with (first | ((with_reducible refine gate_callee (f := 34) rfl ?_); refine goesL_ (some 7) rfl rfl Tryd.func34 (by kernel_rfl) rfl #[.pointer (some ⟨gx, 0, none⟩), .pointer (some ⟨gb, 0, none⟩)] rfl (by (try simp only [List.map_toArray, List.map_cons, List.map_nil]); first | done | rfl | (simp only [List.length_drop, List.length_take]; rfl)) ?_; refine (text_go _ HG.out ⟨gx, 0, none⟩ w2 w4 gb [] HTR.out (Laid_below HLD.out HW.out) HBL.out HB5.out (by have := HLN.out; simpa using this)).mono ?_; rintro e w5 ⟨rfl, hB, hb, _⟩; refine ⟨_, rfl, ?_⟩; clear HBL HB5; have HBL := Aside0.mk hB; have HB5 := Aside0.mk hb; clear hB hb) | ((with_reducible refine gate_callee (f := 35) rfl ?_); refine goesL_ (some 8) rfl rfl Tryd.func35 (by kernel_rfl) rfl #[.pointer (some ⟨gb, 0, none⟩)] rfl (by (try simp only [List.map_toArray, List.map_cons, List.map_nil]); first | done | rfl | (simp only [List.length_drop, List.length_take]; rfl)) ?_; refine (Tryd.Builder_String_any_f w2.heap.size gb _ w5 HBL.out (below_size HB5.out)).mono ?_; rintro e w6 ⟨rfl, _, hb⟩; refine ⟨_, rfl, ?_⟩; replace HB5 := Aside0.mk (HB5.out.trans hb); clear hb))
  (first | go_ret | go_end0 | refine bodyPost_ret (results_none rfl _ _ _) rfl ?_)
  exact ⟨rfl, below_step HW.out HB5.out⟩
end Go.Proofs.YtgplgphchdgedaaDoor.Px
end
section
namespace Go.Proofs.YtgplgphchdgedaaDoor.Px
open Go.RowKit Go.Proofs.YtgplgphchdgedaaDoor.Ext Go.Proofs.YtgplgphchdgedaaDoorW.PrintWords Go.Proofs.YtgplgphchdgedaaDoorW.PrintLast Go.Proofs.YtgplgphchdgedaaDoorW.PrintMore
attribute [local go_sem] max2_int min2_int max_two min_two max_three min_three max_four min_four   -- for this text's walks alone
set_option linter.unusedVariables false
set_option linter.unusedSimpArgs false

/-! ### impl_FormatTerm: function 7 -/
noncomputable def impl_FormatTerm.f (k : Nat) (a0_0 : Int) (a0_1 : ByteArray) (a0_2 : Int) (a0_3 : Int) (l0_4 : List ByteArray) (l0_5 : List (S33)) (l0_6 : List ByteArray) (l0_7 : List (S36)) : Option (ByteArray) := (impl_IsValidTerm.f k a0_0 a0_1 a0_2 a0_3 l0_4 l0_5 l0_6 l0_7).bind fun t385 => (if t385 = true then ((impl_termText.f a0_0 a0_1 a0_2 a0_3 l0_4 l0_5 l0_6 l0_7).bind fun t386 => (some t386)) else (some (⟨#[]⟩ : ByteArray)))
set_option maxHeartbeats 8000000 in
set_option maxRecDepth 100000 in
theorem impl_FormatTerm.calls (k : Nat) (a0_0 : Int) (a0_1 : ByteArray) (a0_2 : Int) (a0_3 : Int) (A0_4 : Option Addr) (c0_4 : Nat) (l0_4 : List ByteArray) (A0_5 : Option Addr) (c0_5 : Nat) (l0_5 : List (S33)) (A0_6 : Option Addr) (c0_6 : Nat) (l0_6 : List ByteArray) (A0_7 : Option Addr) (c0_7 : Nat) (l0_7 : List (S36)) (r : ByteArray) (w : World) (hr0_4 : Kd.C Kd.string w A0_4 l0_4.length l0_4) (hc0_4 : l0_4.length ≤ c0_4) (hr0_5 : Kd.C k33 w A0_5 l0_5.length l0_5) (hc0_5 : l0_5.length ≤ c0_5) (hr0_6 : Kd.C Kd.string w A0_6 l0_6.length l0_6) (hc0_6 : l0_6.length ≤ c0_6) (hr0_7 : Kd.C k36 w A0_7 l0_7.length l0_7) (hc0_7 : l0_7.length ≤ c0_7) (hL : Laid w) (h : impl_FormatTerm.f k a0_0 a0_1 a0_2 a0_3 l0_4 l0_5 l0_6 l0_7 = some r) :
  Calls Tryd.prog 7 #[.agg #[.int .i64 a0_0, .string a0_1, .int .i64 a0_2, .int .i64 a0_3, .slice A0_4 l0_4.length c0_4, .slice A0_5 l0_5.length c0_5, .slice A0_6 l0_6.length c0_6, .slice A0_7 l0_7.length c0_7]] w fun e w' => e = .returned (.string r) ∧ Below w.heap.size w w' := by
 have hu36 := Tryd.underlying36
 have HR0_4 := am hr0_4
 have HC0_4 := am hc0_4
 clear hr0_4 hc0_4
 have HR0_5 := am hr0_5
 have HC0_5 := am hc0_5
 clear hr0_5 hc0_5
 have HR0_6 := am hr0_6
 have HC0_6 := am hc0_6
 clear hr0_6 hc0_6
 have HR0_7 := am hr0_7
 have HC0_7 := am hc0_7
 clear hr0_7 hc0_7
 have HLD := am hL
 clear hL
 have HB := am (Below.refl w.heap.size w)
 have H : ((impl_IsValidTerm.f k a0_0 a0_1 a0_2 a0_3 l0_4 l0_5 l0_6 l0_7).bind fun t385 => (if t385 = true then ((impl_termText.f a0_0 a0_1 a0_2 a0_3 l0_4 l0_5 l0_6 l0_7).bind fun t386 => (some t386)) else (some (⟨#[]⟩ : ByteArray)))) = some r := h
 clear h
 replace H := Option.bind_eq_some_iff.mp H
 obtain ⟨t385, A20, H⟩ := H
 replace H : (if t385 = true then ((impl_termText.f a0_0 a0_1 a0_2 a0_3 l0_4 l0_5 l0_6 l0_7).bind fun t386 => (some t386)) else (some (⟨#[]⟩ : ByteArray))) = some r := H
 have A2 := am A20
 clear A20
 have HC3 := am H
 clear H
 go_enter Tryd.func7, Tryd.ntmps7
 go_upto_if 5 with (first | ((with_reducible refine gate_dst (N := 1) rfl ?_); refine box_event ?hg (N := 1) ?hd (cs := #[.int .i64 a0_0, .string a0_1, .int .i64 a0_2, .int .i64 a0_3, .slice A0_4 l0_4.length c0_4, .slice A0_5 l0_5.length c0_5, .slice A0_6 l0_6.length c0_6, .slice A0_7 l0_7.length c0_7]) (t := 36) ?hr ?_; (case hd => rfl); (case hg => rfl); (case hr => exact hrw); intro gb384 hg w4 hbox hb; have n0_ := am (below_step blw hb); have n1_ := am (hbox); have n2_ := am ((by rw [hg]; exact (below_size blw) : w.heap.size ≤ gb384)); have n3_ := n2_; clear HB; revert n0_ n1_ n2_ n3_; intro HB BK384 GW384 GE384; clear hb hbox hg; obtain ⟨hcz5_0, hcz5_1, hcz5_2, hcz5_3, hcz5_4, hcz5_5, hcz5_6, hcz5_7⟩ := cls8 BK384.out; obtain ⟨hfz5_0, hfz5_1, hfz5_2, hfz5_3, hfz5_4, hfz5_5, hfz5_6, hfz5_7⟩ := frz8 BK384.out) | ((with_reducible refine gate_callee (f := 17) rfl ?_); refine goesL_ (some 4) rfl rfl Tryd.func17 kr rfl #[.agg #[.int .i64 a0_0, .string a0_1, .int .i64 a0_2, .int .i64 a0_3, .slice A0_4 l0_4.length c0_4, .slice A0_5 l0_5.length c0_5, .slice A0_6 l0_6.length c0_6, .slice A0_7 l0_7.length c0_7]] rfl mpw ?_; (with_reducible refine (impl_IsValidTerm.calls k a0_0 a0_1 a0_2 a0_3 _ _ l0_4 _ _ l0_5 _ _ l0_6 _ _ l0_7 t385 _ ?side1 ?side2 ?side3 ?side4 ?side5 ?side6 ?side7 ?side8 A2.out).mono ?_); (case side1 => have X_ := HR0_4; exact cbl); (case side2 => exact HC0_4.out); (case side3 => have X_ := HR0_5; exact cbl); (case side4 => exact HC0_5.out); (case side5 => have X_ := HR0_6; exact cbl); (case side6 => exact HC0_6.out); (case side7 => have X_ := HR0_7; exact cbl); (case side8 => exact HC0_7.out); rintro e w6 ⟨rfl, hb⟩; refine ⟨_, rfl, ?_⟩; have n0_ := am (blk_below (g := gb384) bkw hb); have n1_ := am (below_step blw hb); clear BK384; clear HB; revert n0_ n1_; intro BK384 HB; (try clear hb); (try clear hb2); (try clear hk); (try clear hi)))
 have H := HC3.out
 clear HC3
 by_cases c7 : t385 = true
 case neg =>
  replace c7 := Bool.eq_false_iff.mpr c7
  subst c7
  have H1 : (some (⟨#[]⟩ : ByteArray)) = some r := by rw [if_neg (show ¬ (false = true) by decide)] at H; exact H
  clear H
  have H := H1
  clear H1
  obtain rfl := Option.some.inj H
  go_wp2
  go_ret
  exact ⟨rfw, blw⟩
 subst c7
 have H1 : ((impl_termText.f a0_0 a0_1 a0_2 a0_3 l0_4 l0_5 l0_6 l0_7).bind fun t386 => (some t386)) = some r := by rw [if_pos rfl] at H; exact H
 clear H
 have H := H1
 clear H1
 replace H := Option.bind_eq_some_iff.mp H
 obtain ⟨t386, A80, H⟩ := H
 replace H : (some t386) = some r := H
 have A8 := am A80
 clear A80
 obtain rfl := Option.some.inj H
 obtain ⟨hcz9_0, hcz9_1, hcz9_2, hcz9_3, hcz9_4, hcz9_5, hcz9_6, hcz9_7⟩ := cls8 BK384.out
 obtain ⟨hfz9_0, hfz9_1, hfz9_2, hfz9_3, hfz9_4, hfz9_5, hfz9_6, hfz9_7⟩ := frz8 BK384.out
 go_wp2_with (first | ((with_reducible refine gate_callee (f := 18) rfl ?_); refine goesL_ (some 7) rfl rfl Tryd.func18 kr rfl #[.agg #[.int .i64 a0_0, .string a0_1, .int .i64 a0_2, .int .i64 a0_3, .slice A0_4 l0_4.length c0_4, .slice A0_5 l0_5.length c0_5, .slice A0_6 l0_6.length c0_6, .slice A0_7 l0_7.length c0_7]] rfl mpw ?_; (with_reducible refine (impl_termText.calls a0_0 a0_1 a0_2 a0_3 _ _ l0_4 _ _ l0_5 _ _ l0_6 _ _ l0_7 t386 _ ?side1 ?side2 ?side3 ?side4 ?side5 ?side6 ?side7 ?side8 ?side9 A8.out).mono ?_); (case side1 => have X_ := HR0_4; exact cbl); (case side2 => exact HC0_4.out); (case side3 => have X_ := HR0_5; exact cbl); (case side4 => exact HC0_5.out); (case side5 => have X_ := HR0_6; exact cbl); (case side6 => exact HC0_6.out); (case side7 => have X_ := HR0_7; exact cbl); (case side8 => exact HC0_7.out); (case side9 => repeat (first | exact (Laid_below HLD.out HB.out) | (with_reducible refine Laid_alloc ?_ _) | (with_reducible refine Laid_drewN ?_ _) | (with_reducible refine Laid_drew ?_))); rintro e w10 ⟨rfl, hb⟩; refine ⟨_, rfl, ?_⟩; have n0_ := am (blk_below (g := gb384) bkw hb); have n1_ := am (below_step blw hb); clear BK384; clear HB; revert n0_ n1_; intro BK384 HB; (try clear hb); (try clear hb2); (try clear hk); (try clear hi)))
 go_ret
 exact ⟨rfw, blw⟩

end Go.Proofs.YtgplgphchdgedaaDoor.Px
end
section
namespace Go.Proofs.YtgplgphchdgedaaDoor.Px
open Go.RowKit Go.Proofs.YtgplgphchdgedaaDoor.Ext Go.Proofs.YtgplgphchdgedaaDoorW.PrintWords Go.Proofs.YtgplgphchdgedaaDoorW.PrintLast Go.Proofs.YtgplgphchdgedaaDoorW.PrintMore
attribute [local go_sem] max2_int min2_int max_two min_two max_three min_three max_four min_four   -- for this text's walks alone
set_option linter.unusedVariables false
set_option linter.unusedSimpArgs false

/-! ### laws_FnExactFormatTerm: function 3 -/
noncomputable def laws_FnExactFormatTerm.f (k : Nat) (a0_0 : Int) (a0_1 : ByteArray) (a0_2 : Int) (a0_3 : Int) (l0_4 : List ByteArray) (l0_5 : List (S25)) (l0_6 : List ByteArray) (l0_7 : List (S28)) : Option (Bool) := (laws_szTerm.f k a0_0 a0_1 a0_2 a0_3 l0_4 l0_5 l0_6 l0_7 1048576).bind fun t405 => (if t405 < 0 then (some true) else ((laws_toTerm.f k a0_0 a0_1 a0_2 a0_3 l0_4 l0_5 l0_6 l0_7).bind fun bt406 => ((spec_FormatTerm.f k bt406.1 bt406.2.1 bt406.2.2.1 bt406.2.2.2.1 bt406.2.2.2.2.1 bt406.2.2.2.2.2.1 bt406.2.2.2.2.2.2.1 bt406.2.2.2.2.2.2.2).bind fun t422 => ((laws_toTerm.f k a0_0 a0_1 a0_2 a0_3 l0_4 l0_5 l0_6 l0_7).bind fun bt423 => ((impl_FormatTerm.f k bt423.1 bt423.2.1 bt423.2.2.1 bt423.2.2.2.1 bt423.2.2.2.2.1 bt423.2.2.2.2.2.1 bt423.2.2.2.2.2.2.1 bt423.2.2.2.2.2.2.2).bind fun t440 => (if t440.toList = t422.toList then ((laws_toTerm.f k a0_0 a0_1 a0_2 a0_3 l0_4 l0_5 l0_6 l0_7).bind fun bt441 => ((laws_eqTerm.f k bt423.1 bt423.2.1 bt423.2.2.1 bt423.2.2.2.1 bt423.2.2.2.2.1 bt423.2.2.2.2.2.1 bt423.2.2.2.2.2.2.1 bt423.2.2.2.2.2.2.2 bt441.1 bt441.2.1 bt441.2.2.1 bt441.2.2.2.1 bt441.2.2.2.2.1 bt441.2.2.2.2.2.1 bt441.2.2.2.2.2.2.1 bt441.2.2.2.2.2.2.2).bind fun t457 => (if t457 = true then (some true) else (some false)))) else (some false)))))))
set_option maxHeartbeats 8000000 in
set_option maxRecDepth 100000 in
theorem laws_FnExactFormatTerm.calls (k : Nat) (a0_0 : Int) (a0_1 : ByteArray) (a0_2 : Int) (a0_3 : Int) (A0_4 : Option Addr) (c0_4 : Nat) (l0_4 : List ByteArray) (A0_5 : Option Addr) (c0_5 : Nat) (l0_5 : List (S25)) (A0_6 : Option Addr) (c0_6 : Nat) (l0_6 : List ByteArray) (A0_7 : Option Addr) (c0_7 : Nat) (l0_7 : List (S28)) (r : Bool) (w : World) (hr0_4 : Kd.C Kd.string w A0_4 l0_4.length l0_4) (hc0_4 : l0_4.length ≤ c0_4) (hr0_5 : Kd.C k25 w A0_5 l0_5.length l0_5) (hc0_5 : l0_5.length ≤ c0_5) (hr0_6 : Kd.C Kd.string w A0_6 l0_6.length l0_6) (hc0_6 : l0_6.length ≤ c0_6) (hr0_7 : Kd.C k28 w A0_7 l0_7.length l0_7) (hc0_7 : l0_7.length ≤ c0_7) (hL : Laid w) (h : laws_FnExactFormatTerm.f k a0_0 a0_1 a0_2 a0_3 l0_4 l0_5 l0_6 l0_7 = some r) :
  Calls Tryd.prog 3 #[.agg #[.int .i64 a0_0, .string a0_1, .int .i64 a0_2, .int .i64 a0_3, .slice A0_4 l0_4.length c0_4, .slice A0_5 l0_5.length c0_5, .slice A0_6 l0_6.length c0_6, .slice A0_7 l0_7.length c0_7]] w fun e w' => e = .returned (.bool r) ∧ Below w.heap.size w w' := by
 have hu28 := Tryd.underlying28
 have hu36 := Tryd.underlying36
 have HR0_4 := am hr0_4
 have HC0_4 := am hc0_4
 clear hr0_4 hc0_4
 have HR0_5 := am hr0_5
 have HC0_5 := am hc0_5
 clear hr0_5 hc0_5
 have HR0_6 := am hr0_6
 have HC0_6 := am hc0_6
 clear hr0_6 hc0_6
 have HR0_7 := am hr0_7
 have HC0_7 := am hc0_7
 clear hr0_7 hc0_7
 have HLD := am hL
 clear hL
 have HB := am (Below.refl w.heap.size w)
 have H : ((laws_szTerm.f k a0_0 a0_1 a0_2 a0_3 l0_4 l0_5 l0_6 l0_7 1048576).bind fun t405 => (if t405 < 0 then (some true) else ((laws_toTerm.f k a0_0 a0_1 a0_2 a0_3 l0_4 l0_5 l0_6 l0_7).bind fun bt406 => ((spec_FormatTerm.f k bt406.1 bt406.2.1 bt406.2.2.1 bt406.2.2.2.1 bt406.2.2.2.2.1 bt406.2.2.2.2.2.1 bt406.2.2.2.2.2.2.1 bt406.2.2.2.2.2.2.2).bind fun t422 => ((laws_toTerm.f k a0_0 a0_1 a0_2 a0_3 l0_4 l0_5 l0_6 l0_7).bind fun bt423 => ((impl_FormatTerm.f k bt423.1 bt423.2.1 bt423.2.2.1 bt423.2.2.2.1 bt423.2.2.2.2.1 bt423.2.2.2.2.2.1 bt423.2.2.2.2.2.2.1 bt423.2.2.2.2.2.2.2).bind fun t440 => (if t440.toList = t422.toList then ((laws_toTerm.f k a0_0 a0_1 a0_2 a0_3 l0_4 l0_5 l0_6 l0_7).bind fun bt441 => ((laws_eqTerm.f k bt423.1 bt423.2.1 bt423.2.2.1 bt423.2.2.2.1 bt423.2.2.2.2.1 bt423.2.2.2.2.2.1 bt423.2.2.2.2.2.2.1 bt423.2.2.2.2.2.2.2 bt441.1 bt441.2.1 bt441.2.2.1 bt441.2.2.2.1 bt441.2.2.2.2.1 bt441.2.2.2.2.2.1 bt441.2.2.2.2.2.2.1 bt441.2.2.2.2.2.2.2).bind fun t457 => (if t457 = true then (some true) else (some false)))) else (some false)))))))) = some r := h
 clear h
 replace H := Option.bind_eq_some_iff.mp H
 obtain ⟨t405, A20, H⟩ := H
 replace H : (if t405 < 0 then (some true) else ((laws_toTerm.f k a0_0 a0_1 a0_2 a0_3 l0_4 l0_5 l0_6 l0_7).bind fun bt406 => ((spec_FormatTerm.f k bt406.1 bt406.2.1 bt406.2.2.1 bt406.2.2.2.1 bt406.2.2.2.2.1 bt406.2.2.2.2.2.1 bt406.2.2.2.2.2.2.1 bt406.2.2.2.2.2.2.2).bind fun t422 => ((laws_toTerm.f k a0_0 a0_1 a0_2 a0_3 l0_4 l0_5 l0_6 l0_7).bind fun bt423 => ((impl_FormatTerm.f k bt423.1 bt423.2.1 bt423.2.2.1 bt423.2.2.2.1 bt423.2.2.2.2.1 bt423.2.2.2.2.2.1 bt423.2.2.2.2.2.2.1 bt423.2.2.2.2.2.2.2).bind fun t440 => (if t440.toList = t422.toList then ((laws_toTerm.f k a0_0 a0_1 a0_2 a0_3 l0_4 l0_5 l0_6 l0_7).bind fun bt441 => ((laws_eqTerm.f k bt423.1 bt423.2.1 bt423.2.2.1 bt423.2.2.2.1 bt423.2.2.2.2.1 bt423.2.2.2.2.2.1 bt423.2.2.2.2.2.2.1 bt423.2.2.2.2.2.2.2 bt441.1 bt441.2.1 bt441.2.2.1 bt441.2.2.2.1 bt441.2.2.2.2.1 bt441.2.2.2.2.2.1 bt441.2.2.2.2.2.2.1 bt441.2.2.2.2.2.2.2).bind fun t457 => (if t457 = true then (some true) else (some false)))) else (some false))))))) = some r := H
 have A2 := am A20
 clear A20
 have HC3 := am H
 clear H
 go_enter Tryd.func3, Tryd.ntmps3
 go_upto_if 11 with (first | ((with_reducible refine gate_dst (N := 1) rfl ?_); refine box_event ?hg (N := 1) ?hd (cs := #[.int .i64 a0_0, .string a0_1, .int .i64 a0_2, .int .i64 a0_3, .slice A0_4 l0_4.length c0_4, .slice A0_5 l0_5.length c0_5, .slice A0_6 l0_6.length c0_6, .slice A0_7 l0_7.length c0_7]) (t := 28) ?hr ?_; (case hd => rfl); (case hg => rfl); (case hr => exact hrw); intro gb404 hg w4 hbox hb; have n0_ := am (below_step blw hb); have n1_ := am (hbox); have n2_ := am ((by rw [hg]; exact (below_size blw) : w.heap.size ≤ gb404)); have n3_ := n2_; clear HB; revert n0_ n1_ n2_ n3_; intro HB BK404 GW404 GE404; clear hb hbox hg; obtain ⟨hcz5_0, hcz5_1, hcz5_2, hcz5_3, hcz5_4, hcz5_5, hcz5_6, hcz5_7⟩ := cls8 BK404.out; obtain ⟨hfz5_0, hfz5_1, hfz5_2, hfz5_3, hfz5_4, hfz5_5, hfz5_6, hfz5_7⟩ := frz8 BK404.out) | ((with_reducible refine gate_callee (f := 4) rfl ?_); refine goesL_ (some 9) rfl rfl Tryd.func4 kr rfl #[.agg #[.int .i64 a0_0, .string a0_1, .int .i64 a0_2, .int .i64 a0_3, .slice A0_4 l0_4.length c0_4, .slice A0_5 l0_5.length c0_5, .slice A0_6 l0_6.length c0_6, .slice A0_7 l0_7.length c0_7], .int .i64 1048576] rfl mpw ?_; (with_reducible refine (laws_szTerm.calls k a0_0 a0_1 a0_2 a0_3 _ _ l0_4 _ _ l0_5 _ _ l0_6 _ _ l0_7 1048576 t405 _ ?side1 ?side2 ?side3 ?side4 ?side5 ?side6 ?side7 ?side8 A2.out).mono ?_); (case side1 => have X_ := HR0_4; exact cbl); (case side2 => exact HC0_4.out); (case side3 => have X_ := HR0_5; exact cbl); (case side4 => exact HC0_5.out); (case side5 => have X_ := HR0_6; exact cbl); (case side6 => exact HC0_6.out); (case side7 => have X_ := HR0_7; exact cbl); (case side8 => exact HC0_7.out); rintro e w6 ⟨rfl, hb⟩; refine ⟨_, rfl, ?_⟩; have n0_ := am (blk_below (g := gb404) bkw hb); have n1_ := am (below_step blw hb); clear BK404; clear HB; revert n0_ n1_; intro BK404 HB; (try clear hb); (try clear hb2); (try clear hk); (try clear hi)))
 have H := HC3.out
 clear HC3
 by_cases c7 : t405 < 0
 ·rw [if_pos c7] at H
  have c7b0 : decide (t405 < 0) = true := decide_eq_true c7
  clear c7
  (first | rw [c7b0] | (simp only [i64_w, i32_w]; rw [c7b0]) | skip)
  obtain rfl := Option.some.inj H
  go_wp2
  go_ret
  exact ⟨rfw, blw⟩
 rw [if_neg c7] at H
 have c7b0 : decide (t405 < 0) = false := decide_eq_false c7
 clear c7
 (first | rw [c7b0] | (simp only [i64_w, i32_w]; rw [c7b0]) | skip)
 replace H := Option.bind_eq_some_iff.mp H
 obtain ⟨⟨t406, t407, t408, t409, t410, t413, t416, t419⟩, A80, H⟩ := H
 replace H : ((spec_FormatTerm.f k t406 t407 t408 t409 t410 t413 t416 t419).bind fun t422 => ((laws_toTerm.f k a0_0 a0_1 a0_2 a0_3 l0_4 l0_5 l0_6 l0_7).bind fun bt423 => ((impl_FormatTerm.f k bt423.1 bt423.2.1 bt423.2.2.1 bt423.2.2.2.1 bt423.2.2.2.2.1 bt423.2.2.2.2.2.1 bt423.2.2.2.2.2.2.1 bt423.2.2.2.2.2.2.2).bind fun t440 => (if t440.toList = t422.toList then ((laws_toTerm.f k a0_0 a0_1 a0_2 a0_3 l0_4 l0_5 l0_6 l0_7).bind fun bt441 => ((laws_eqTerm.f k bt423.1 bt423.2.1 bt423.2.2.1 bt423.2.2.2.1 bt423.2.2.2.2.1 bt423.2.2.2.2.2.1 bt423.2.2.2.2.2.2.1 bt423.2.2.2.2.2.2.2 bt441.1 bt441.2.1 bt441.2.2.1 bt441.2.2.2.1 bt441.2.2.2.2.1 bt441.2.2.2.2.2.1 bt441.2.2.2.2.2.2.1 bt441.2.2.2.2.2.2.2).bind fun t457 => (if t457 = true then (some true) else (some false)))) else (some false))))) = some r := H
 have A8 := am A80
 clear A80
 replace H := Option.bind_eq_some_iff.mp H
 obtain ⟨t422, A90, H⟩ := H
 replace H : ((laws_toTerm.f k a0_0 a0_1 a0_2 a0_3 l0_4 l0_5 l0_6 l0_7).bind fun bt423 => ((impl_FormatTerm.f k bt423.1 bt423.2.1 bt423.2.2.1 bt423.2.2.2.1 bt423.2.2.2.2.1 bt423.2.2.2.2.2.1 bt423.2.2.2.2.2.2.1 bt423.2.2.2.2.2.2.2).bind fun t440 => (if t440.toList = t422.toList then ((laws_toTerm.f k a0_0 a0_1 a0_2 a0_3 l0_4 l0_5 l0_6 l0_7).bind fun bt441 => ((laws_eqTerm.f k bt423.1 bt423.2.1 bt423.2.2.1 bt423.2.2.2.1 bt423.2.2.2.2.1 bt423.2.2.2.2.2.1 bt423.2.2.2.2.2.2.1 bt423.2.2.2.2.2.2.2 bt441.1 bt441.2.1 bt441.2.2.1 bt441.2.2.2.1 bt441.2.2.2.2.1 bt441.2.2.2.2.2.1 bt441.2.2.2.2.2.2.1 bt441.2.2.2.2.2.2.2).bind fun t457 => (if t457 = true then (some true) else (some false)))) else (some false)))) = some r := H
 have A9 := am A90
 clear A90
 replace H := Option.bind_eq_some_iff.mp H
 obtain ⟨⟨t423, t424, t425, t426, t427, t430, t433, t436⟩, A100, H⟩ := H
 replace H : ((impl_FormatTerm.f k t423 t424 t425 t426 t427 t430 t433 t436).bind fun t440 => (if t440.toList = t422.toList then ((laws_toTerm.f k a0_0 a0_1 a0_2 a0_3 l0_4 l0_5 l0_6 l0_7).bind fun bt441 => ((laws_eqTerm.f k t423 t424 t425 t426 t427 t430 t433 t436 bt441.1 bt441.2.1 bt441.2.2.1 bt441.2.2.2.1 bt441.2.2.2.2.1 bt441.2.2.2.2.2.1 bt441.2.2.2.2.2.2.1 bt441.2.2.2.2.2.2.2).bind fun t457 => (if t457 = true then (some true) else (some false)))) else (some false))) = some r := H
 have A10 := am A100
 clear A100
 replace H := Option.bind_eq_some_iff.mp H
 obtain ⟨t440, A110, H⟩ := H
 replace H : (if t440.toList = t422.toList then ((laws_toTerm.f k a0_0 a0_1 a0_2 a0_3 l0_4 l0_5 l0_6 l0_7).bind fun bt441 => ((laws_eqTerm.f k t423 t424 t425 t426 t427 t430 t433 t436 bt441.1 bt441.2.1 bt441.2.2.1 bt441.2.2.2.1 bt441.2.2.2.2.1 bt441.2.2.2.2.2.1 bt441.2.2.2.2.2.2.1 bt441.2.2.2.2.2.2.2).bind fun t457 => (if t457 = true then (some true) else (some false)))) else (some false)) = some r := H
 have A11 := am A110
 clear A110
 have HC12 := am H
 clear H
 obtain ⟨hcz13_0, hcz13_1, hcz13_2, hcz13_3, hcz13_4, hcz13_5, hcz13_6, hcz13_7⟩ := cls8 BK404.out
 obtain ⟨hfz13_0, hfz13_1, hfz13_2, hfz13_3, hfz13_4, hfz13_5, hfz13_6, hfz13_7⟩ := frz8 BK404.out
 go_upto_if 21 with (first | ((with_reducible refine gate_callee (f := 6) rfl ?_); refine goesL_ (some 13) rfl rfl Tryd.func6 kr rfl #[.agg #[.int .i64 a0_0, .string a0_1, .int .i64 a0_2, .int .i64 a0_3, .slice A0_4 l0_4.length c0_4, .slice A0_5 l0_5.length c0_5, .slice A0_6 l0_6.length c0_6, .slice A0_7 l0_7.length c0_7]] rfl mpw ?_; (with_reducible refine (laws_toTerm.calls k a0_0 a0_1 a0_2 a0_3 _ _ l0_4 _ _ l0_5 _ _ l0_6 _ _ l0_7 t406 t407 t408 t409 t410 t413 t416 t419 _ ?side1 ?side2 ?side3 ?side4 ?side5 ?side6 ?side7 ?side8 A8.out).mono ?_); (case side1 => have X_ := HR0_4; exact cbl); (case side2 => exact HC0_4.out); (case side3 => have X_ := HR0_5; exact cbl); (case side4 => exact HC0_5.out); (case side5 => have X_ := HR0_6; exact cbl); (case side6 => exact HC0_6.out); (case side7 => have X_ := HR0_7; exact cbl); (case side8 => exact HC0_7.out); rintro e w14 ⟨v411, v414, v417, v420, rfl, ho0, ho1, ho2, ho3, hb⟩; refine ⟨_, rfl, ?_⟩; have n0_ := am (Kd.R_lower ho0 (below_size blw)); have n1_ := am (Kd.R_lower ho1 (below_size blw)); have n2_ := am (Kd.R_lower ho2 (below_size blw)); have n3_ := am (Kd.R_lower ho3 (below_size blw)); have n4_ := am (blk_below (g := gb404) bkw hb); have n5_ := am (below_step blw hb); clear BK404; clear HB; revert n0_ n1_ n2_ n3_ n4_ n5_; intro HO412 HO415 HO418 HO421 BK404 HB; (try clear hb); (try clear hb2); (try clear hk); (try clear hi); (try clear ho0); (try clear ho1); (try clear ho2); (try clear ho3); obtain ⟨Ao15, co15, eo15⟩ := Kd.R_slice HO412.out; subst eo15; obtain ⟨Ao16, co16, eo16⟩ := Kd.R_slice HO415.out; subst eo16; obtain ⟨Ao17, co17, eo17⟩ := Kd.R_slice HO418.out; subst eo17; obtain ⟨Ao18, co18, eo18⟩ := Kd.R_slice HO421.out; subst eo18) | ((with_reducible refine gate_callee (f := 5) rfl ?_); refine goesL_ (some 14) rfl rfl Tryd.func5 kr rfl #[.agg #[.int .i64 t406, .string t407, .int .i64 t408, .int .i64 t409, .slice Ao15 t410.length co15, .slice Ao16 t413.length co16, .slice Ao17 t416.length co17, .slice Ao18 t419.length co18]] rfl mpw ?_; (with_reducible refine (spec_FormatTerm.calls k t406 t407 t408 t409 _ _ t410 _ _ t413 _ _ t416 _ _ t419 t422 _ ?side1 ?side2 ?side3 ?side4 ?side5 ?side6 ?side7 ?side8 A9.out).mono ?_); (case side1 => repeat (first | exact (Kd.R_reads' HO412.out).2.2 | (with_reducible refine Kd.C_alloc ?_ _) | (with_reducible refine Kd.C_drewN ?_ _) | (with_reducible refine Kd.C_drew ?_))); (case side2 => exact (Kd.R_reads' HO412.out).2.1); (case side3 => repeat (first | exact (Kd.R_reads' HO415.out).2.2 | (with_reducible refine Kd.C_alloc ?_ _) | (with_reducible refine Kd.C_drewN ?_ _) | (with_reducible refine Kd.C_drew ?_))); (case side4 => exact (Kd.R_reads' HO415.out).2.1); (case side5 => repeat (first | exact (Kd.R_reads' HO418.out).2.2 | (with_reducible refine Kd.C_alloc ?_ _) | (with_reducible refine Kd.C_drewN ?_ _) | (with_reducible refine Kd.C_drew ?_))); (case side6 => exact (Kd.R_reads' HO418.out).2.1); (case side7 => repeat (first | exact (Kd.R_reads' HO421.out).2.2 | (with_reducible refine Kd.C_alloc ?_ _) | (with_reducible refine Kd.C_drewN ?_ _) | (with_reducible refine Kd.C_drew ?_))); (case side8 => exact (Kd.R_reads' HO421.out).2.1); rintro e w19 ⟨rfl, hb⟩; refine ⟨_, rfl, ?_⟩; have n0_ := am (Kd.R_below (by (with_reducible repeat (first | apply Kd.R_alloc | apply Kd.R_drewN | apply Kd.R_drew)); exact HO412.out) hb); have n1_ := am (Kd.R_below (by (with_reducible repeat (first | apply Kd.R_alloc | apply Kd.R_drewN | apply Kd.R_drew)); exact HO415.out) hb); have n2_ := am (Kd.R_below (by (with_reducible repeat (first | apply Kd.R_alloc | apply Kd.R_drewN | apply Kd.R_drew)); exact HO418.out) hb); have n3_ := am (Kd.R_below (by (with_reducible repeat (first | apply Kd.R_alloc | apply Kd.R_drewN | apply Kd.R_drew)); exact HO421.out) hb); have n4_ := am (blk_below (g := gb404) bkw hb); have n5_ := am (below_step blw hb); clear HO412; clear HO415; clear HO418; clear HO421; clear BK404; clear HB; revert n0_ n1_ n2_ n3_ n4_ n5_; intro HO412 HO415 HO418 HO421 BK404 HB; (try clear hb); (try clear hb2); (try clear hk); (try clear hi); obtain ⟨hcz20_0, hcz20_1, hcz20_2, hcz20_3, hcz20_4, hcz20_5, hcz20_6, hcz20_7⟩ := cls8 BK404.out; obtain ⟨hfz20_0, hfz20_1, hfz20_2, hfz20_3, hfz20_4, hfz20_5, hfz20_6, hfz20_7⟩ := frz8 BK404.out) | ((with_reducible refine gate_callee (f := 6) rfl ?_); refine goesL_ (some 16) rfl rfl Tryd.func6 kr rfl #[.agg #[.int .i64 a0_0, .string a0_1, .int .i64 a0_2, .int .i64 a0_3, .slice A0_4 l0_4.length c0_4, .slice A0_5 l0_5.length c0_5, .slice A0_6 l0_6.length c0_6, .slice A0_7 l0_7.length c0_7]] rfl mpw ?_; (with_reducible refine (laws_toTerm.calls k a0_0 a0_1 a0_2 a0_3 _ _ l0_4 _ _ l0_5 _ _ l0_6 _ _ l0_7 t423 t424 t425 t426 t427 t430 t433 t436 _ ?side1 ?side2 ?side3 ?side4 ?side5 ?side6 ?side7 ?side8 A10.out).mono ?_); (case side1 => have X_ := HR0_4; exact cbl); (case side2 => exact HC0_4.out); (case side3 => have X_ := HR0_5; exact cbl); (case side4 => exact HC0_5.out); (case side5 => have X_ := HR0_6; exact cbl); (case side6 => exact HC0_6.out); (case side7 => have X_ := HR0_7; exact cbl); (case side8 => exact HC0_7.out); rintro e w21 ⟨v428, v431, v434, v437, rfl, ho0, ho1, ho2, ho3, hb⟩; refine ⟨_, rfl, ?_⟩; have n0_ := am (Kd.R_mono (Kd.R_told (Kd.R_told (Kd.R_old (by (with_reducible repeat (first | apply Kd.R_alloc | apply Kd.R_drewN | apply Kd.R_drew)); exact HO412.out) hb) (Kd.R_base ho0)) (Kd.R_base ho2)) (fun _ h_ => h_.1)); have n1_ := am (Kd.R_mono (Kd.R_told (Kd.R_told (Kd.R_told (Kd.R_old (by (with_reducible repeat (first | apply Kd.R_alloc | apply Kd.R_drewN | apply Kd.R_drew)); exact HO415.out) hb) (Kd.R_base ho0)) (Kd.R_base ho1)) (Kd.R_base ho2)) (fun _ h_ => h_.1)); have n2_ := am (Kd.R_mono (Kd.R_told (Kd.R_told (Kd.R_old (by (with_reducible repeat (first | apply Kd.R_alloc | apply Kd.R_drewN | apply Kd.R_drew)); exact HO418.out) hb) (Kd.R_base ho0)) (Kd.R_base ho2)) (fun _ h_ => h_.1)); have n3_ := am (Kd.R_mono (Kd.R_told (Kd.R_told (Kd.R_told (Kd.R_told (Kd.R_old (by (with_reducible repeat (first | apply Kd.R_alloc | apply Kd.R_drewN | apply Kd.R_drew)); exact HO421.out) hb) (Kd.R_base ho0)) (Kd.R_base ho1)) (Kd.R_base ho2)) (Kd.R_base ho3)) (fun _ h_ => h_.1)); have n4_ := am (Kd.R_lower (Kd.R_new' (Kd.R_new' ho0 (Kd.R_lt (by (with_reducible repeat (first | apply Kd.R_alloc | apply Kd.R_drewN | apply Kd.R_drew)); exact HO412.out))) (Kd.R_lt (by (with_reducible repeat (first | apply Kd.R_alloc | apply Kd.R_drewN | apply Kd.R_drew)); exact HO418.out))) (below_size blw)); have n5_ := am (Kd.R_lower (Kd.R_new' (Kd.R_new' (Kd.R_new' ho1 (Kd.R_lt (by (with_reducible repeat (first | apply Kd.R_alloc | apply Kd.R_drewN | apply Kd.R_drew)); exact HO412.out))) (Kd.R_lt (by (with_reducible repeat (first | apply Kd.R_alloc | apply Kd.R_drewN | apply Kd.R_drew)); exact HO415.out))) (Kd.R_lt (by (with_reducible repeat (first | apply Kd.R_alloc | apply Kd.R_drewN | apply Kd.R_drew)); exact HO418.out))) (below_size blw)); have n6_ := am (Kd.R_lower (Kd.R_new' (Kd.R_new' ho2 (Kd.R_lt (by (with_reducible repeat (first | apply Kd.R_alloc | apply Kd.R_drewN | apply Kd.R_drew)); exact HO412.out))) (Kd.R_lt (by (with_reducible repeat (first | apply Kd.R_alloc | apply Kd.R_drewN | apply Kd.R_drew)); exact HO418.out))) (below_size blw)); have n7_ := am (Kd.R_lower (Kd.R_new' (Kd.R_new' (Kd.R_new' (Kd.R_new' ho3 (Kd.R_lt (by (with_reducible repeat (first | apply Kd.R_alloc | apply Kd.R_drewN | apply Kd.R_drew)); exact HO412.out))) (Kd.R_lt (by (with_reducible repeat (first | apply Kd.R_alloc | apply Kd.R_drewN | apply Kd.R_drew)); exact HO415.out))) (Kd.R_lt (by (with_reducible repeat (first | apply Kd.R_alloc | apply Kd.R_drewN | apply Kd.R_drew)); exact HO418.out))) (Kd.R_lt (by (with_reducible repeat (first | apply Kd.R_alloc | apply Kd.R_drewN | apply Kd.R_drew)); exact HO421.out))) (below_size blw)); have n8_ := am (blk_below (g := gb404) bkw hb); have n9_ := am (below_step blw hb); clear HO412; clear HO415; clear HO418; clear HO421; clear BK404; clear HB; revert n0_ n1_ n2_ n3_ n4_ n5_ n6_ n7_ n8_ n9_; intro HO412 HO415 HO418 HO421 HO429 HO432 HO435 HO438 BK404 HB; (try clear hb); (try clear hb2); (try clear hk); (try clear hi); (try clear ho0); (try clear ho1); (try clear ho2); (try clear ho3)) | ((with_reducible refine gate_dst (N := 5) rfl ?_); refine box_event ?hg (N := 5) ?hd (cs := #[.int .i64 0, .string (⟨#[]⟩ : ByteArray), .int .i64 0, .int .i64 0, .slice none 0 0, .slice none 0 0, .slice none 0 0, .slice none 0 0]) (t := 36) ?hr ?_; (case hd => rfl); (case hg => rfl); (case hr => exact hrw); intro gb439 hg w22 hbox hb; have n0_ := am (Kd.R_below (by (with_reducible repeat (first | apply Kd.R_alloc | apply Kd.R_drewN | apply Kd.R_drew)); exact HO412.out) hb); have n1_ := am (Kd.R_below (by (with_reducible repeat (first | apply Kd.R_alloc | apply Kd.R_drewN | apply Kd.R_drew)); exact HO415.out) hb); have n2_ := am (Kd.R_below (by (with_reducible repeat (first | apply Kd.R_alloc | apply Kd.R_drewN | apply Kd.R_drew)); exact HO418.out) hb); have n3_ := am (Kd.R_below (Kd.R_elderB (by (with_reducible repeat (first | apply Kd.R_alloc | apply Kd.R_drewN | apply Kd.R_drew)); exact HO421.out) gb439 (Nat.le_of_eq hg.symm)) hb); have n4_ := am (Kd.R_below (by (with_reducible repeat (first | apply Kd.R_alloc | apply Kd.R_drewN | apply Kd.R_drew)); exact HO429.out) hb); have n5_ := am (Kd.R_below (by (with_reducible repeat (first | apply Kd.R_alloc | apply Kd.R_drewN | apply Kd.R_drew)); exact HO432.out) hb); have n6_ := am (Kd.R_below (by (with_reducible repeat (first | apply Kd.R_alloc | apply Kd.R_drewN | apply Kd.R_drew)); exact HO435.out) hb); have n7_ := am (Kd.R_below (Kd.R_elderB (by (with_reducible repeat (first | apply Kd.R_alloc | apply Kd.R_drewN | apply Kd.R_drew)); exact HO438.out) gb439 (Nat.le_of_eq hg.symm)) hb); have n8_ := am (blk_below (g := gb404) bkw hb); have n9_ := am (below_step blw hb); have n10_ := am (hbox); have n11_ := am ((by rw [hg]; exact (below_size blw) : w.heap.size ≤ gb439)); have n12_ := n11_; have n13_ := am ((by rw [hg]; exact Nat.ne_of_lt (blk_lt (g := gb404) bkw) : gb404 ≠ gb439)); have n14_ := am ((by rw [hg]; exact Nat.ne_of_gt (blk_lt (g := gb404) bkw) : gb439 ≠ gb404)); clear HO412; clear HO415; clear HO418; clear HO421; clear HO429; clear HO432; clear HO435; clear HO438; clear BK404; clear HB; revert n0_ n1_ n2_ n3_ n4_ n5_ n6_ n7_ n8_ n9_ n10_ n11_ n12_ n13_ n14_; intro HO412 HO415 HO418 HO421 HO429 HO432 HO435 HO438 BK404 HB BK439 GW439 GE439 NB404_439 NB439_404; clear hb hbox hg; have hnb23 := NB439_404.out; have hnc23 := NB404_439.out; obtain ⟨hcz24_0, hcz24_1, hcz24_2, hcz24_3, hcz24_4, hcz24_5, hcz24_6, hcz24_7⟩ := cls8 BK439.out; obtain ⟨hfz24_0, hfz24_1, hfz24_2, hfz24_3, hfz24_4, hfz24_5, hfz24_6, hfz24_7⟩ := frz8 BK439.out; obtain ⟨Ao25, co25, eo25⟩ := Kd.R_slice HO429.out; subst eo25; obtain ⟨Ao26, co26, eo26⟩ := Kd.R_slice HO432.out; subst eo26; obtain ⟨Ao27, co27, eo27⟩ := Kd.R_slice HO435.out; subst eo27; obtain ⟨Ao28, co28, eo28⟩ := Kd.R_slice HO438.out; subst eo28) | ((with_reducible refine gate_callee (f := 7) rfl ?_); refine goesL_ (some 18) rfl rfl Tryd.func7 kr rfl #[.agg #[.int .i64 t423, .string t424, .int .i64 t425, .int .i64 t426, .slice Ao25 t427.length co25, .slice Ao26 t430.length co26, .slice Ao27 t433.length co27, .slice Ao28 t436.length co28]] rfl mpw ?_; (with_reducible refine (impl_FormatTerm.calls k t423 t424 t425 t426 _ _ t427 _ _ t430 _ _ t433 _ _ t436 t440 _ ?side1 ?side2 ?side3 ?side4 ?side5 ?side6 ?side7 ?side8 ?side9 A11.out).mono ?_); (case side1 => refine (Kd.R_reads' (e := 9) (base := w.heap.size) (ok := fun k_ => ((some k_ ≠ (.slice Ao27 t433.length co27 : Value).ownBlock ∧ some k_ ≠ (.slice Ao15 t410.length co15 : Value).ownBlock) ∧ some k_ ≠ (.slice Ao17 t416.length co17 : Value).ownBlock)) (n := t427.length) (c := co25) ?_).2.2; exact (by (with_reducible repeat (first | apply Kd.R_alloc | apply Kd.R_drewN | apply Kd.R_drew)); exact (Kd.R_mono (fr8 (g := gb439) (Kd.R_types HO429.out BK439.out (by decide)) (fun _ hk => hk.2) 0) (fun _ h_ => h_.1)))); (case side2 => exact (Kd.R_reads' HO429.out).2.1); (case side3 => refine (Kd.R_reads' (e := 33) (base := w.heap.size) (ok := fun k_ => ((((some k_ ≠ (.slice Ao25 t427.length co25 : Value).ownBlock ∧ some k_ ≠ (.slice Ao27 t433.length co27 : Value).ownBlock) ∧ some k_ ≠ (.slice Ao15 t410.length co15 : Value).ownBlock) ∧ some k_ ≠ (.slice Ao16 t413.length co16 : Value).ownBlock) ∧ some k_ ≠ (.slice Ao17 t416.length co17 : Value).ownBlock)) (n := t430.length) (c := co26) ?_).2.2; exact (by (with_reducible repeat (first | apply Kd.R_alloc | apply Kd.R_drewN | apply Kd.R_drew)); exact (Kd.R_mono (fr8 (g := gb439) (Kd.R_types HO432.out BK439.out (by decide)) (fun _ hk => hk.2) 0) (fun _ h_ => h_.1)))); (case side4 => exact (Kd.R_reads' HO432.out).2.1); (case side5 => refine (Kd.R_reads' (e := 9) (base := w.heap.size) (ok := fun k_ => ((some k_ ≠ (.slice Ao25 t427.length co25 : Value).ownBlock ∧ some k_ ≠ (.slice Ao15 t410.length co15 : Value).ownBlock) ∧ some k_ ≠ (.slice Ao17 t416.length co17 : Value).ownBlock)) (n := t433.length) (c := co27) ?_).2.2; exact (by (with_reducible repeat (first | apply Kd.R_alloc | apply Kd.R_drewN | apply Kd.R_drew)); exact (Kd.R_mono (fr8 (g := gb439) (Kd.R_types HO435.out BK439.out (by decide)) (fun _ hk => hk.2) 0) (fun _ h_ => h_.1)))); (case side6 => exact (Kd.R_reads' HO435.out).2.1); (case side7 => refine (Kd.R_reads' (e := 36) (base := w.heap.size) (ok := fun k_ => ((((((some k_ ≠ (.slice Ao25 t427.length co25 : Value).ownBlock ∧ (some k_ ≠ (.slice Ao26 t430.length co26 : Value).ownBlock ∧ some k_ ≠ (.slice Ao27 t433.length co27 : Value).ownBlock)) ∧ some k_ ≠ (.slice Ao15 t410.length co15 : Value).ownBlock) ∧ some k_ ≠ (.slice Ao16 t413.length co16 : Value).ownBlock) ∧ some k_ ≠ (.slice Ao17 t416.length co17 : Value).ownBlock) ∧ some k_ ≠ (.slice Ao18 t419.length co18 : Value).ownBlock) ∧ k_ ≠ gb439)) (n := t436.length) (c := co28) ?_).2.2; exact (by (with_reducible repeat (first | apply Kd.R_alloc | apply Kd.R_drewN | apply Kd.R_drew)); exact (Kd.R_mono (fr8 (g := gb439) (Kd.R_mono HO438.out (fun k_ hk => (⟨hk, hk.2⟩ : _ ∧ k_ ≠ gb439))) (fun _ hk => hk.2) 0) (fun _ h_ => h_.1)))); (case side8 => exact (Kd.R_reads' HO438.out).2.1); (case side9 => repeat (first | exact (Laid_below HLD.out blw) | (with_reducible refine Laid_alloc ?_ _) | (with_reducible refine Laid_drewN ?_ _) | (with_reducible refine Laid_drew ?_))); rintro e w29 ⟨rfl, hb⟩; refine ⟨_, rfl, ?_⟩; have n0_ := am (Kd.R_below (by (with_reducible repeat (first | apply Kd.R_alloc | apply Kd.R_drewN | apply Kd.R_drew)); exact (Kd.R_mono (fr8 (g := gb439) (Kd.R_types HO412.out BK439.out (by decide)) (fun _ hk => hk.2) 0) (fun _ h_ => h_.1))) hb); have n1_ := am (Kd.R_below (by (with_reducible repeat (first | apply Kd.R_alloc | apply Kd.R_drewN | apply Kd.R_drew)); exact (Kd.R_mono (fr8 (g := gb439) (Kd.R_types HO415.out BK439.out (by decide)) (fun _ hk => hk.2) 0) (fun _ h_ => h_.1))) hb); have n2_ := am (Kd.R_below (by (with_reducible repeat (first | apply Kd.R_alloc | apply Kd.R_drewN | apply Kd.R_drew)); exact (Kd.R_mono (fr8 (g := gb439) (Kd.R_types HO418.out BK439.out (by decide)) (fun _ hk => hk.2) 0) (fun _ h_ => h_.1))) hb); have n3_ := am (Kd.R_below (by (with_reducible repeat (first | apply Kd.R_alloc | apply Kd.R_drewN | apply Kd.R_drew)); exact (Kd.R_mono (fr8 (g := gb439) (Kd.R_mono HO421.out (fun k_ hk => (⟨hk, hk.2⟩ : _ ∧ k_ ≠ gb439))) (fun _ hk => hk.2) 0) (fun _ h_ => h_.1))) hb); have n4_ := am (Kd.R_below (by (with_reducible repeat (first | apply Kd.R_alloc | apply Kd.R_drewN | apply Kd.R_drew)); exact (Kd.R_mono (fr8 (g := gb439) (Kd.R_types HO429.out BK439.out (by decide)) (fun _ hk => hk.2) 0) (fun _ h_ => h_.1))) hb); have n5_ := am (Kd.R_below (by (with_reducible repeat (first | apply Kd.R_alloc | apply Kd.R_drewN | apply Kd.R_drew)); exact (Kd.R_mono (fr8 (g := gb439) (Kd.R_types HO432.out BK439.out (by decide)) (fun _ hk => hk.2) 0) (fun _ h_ => h_.1))) hb); have n6_ := am (Kd.R_below (by (with_reducible repeat (first | apply Kd.R_alloc | apply Kd.R_drewN | apply Kd.R_drew)); exact (Kd.R_mono (fr8 (g := gb439) (Kd.R_types HO435.out BK439.out (by decide)) (fun _ hk => hk.2) 0) (fun _ h_ => h_.1))) hb); have n7_ := am (Kd.R_below (by (with_reducible repeat (first | apply Kd.R_alloc | apply Kd.R_drewN | apply Kd.R_drew)); exact (Kd.R_mono (fr8 (g := gb439) (Kd.R_mono HO438.out (fun k_ hk => (⟨hk, hk.2⟩ : _ ∧ k_ ≠ gb439))) (fun _ hk => hk.2) 0) (fun _ h_ => h_.1))) hb); have n8_ := am (blk_below (g := gb404) (o := .cells #[.int .i64 a0_0, .string a0_1, .int .i64 a0_2, .int .i64 a0_3, .slice A0_4 l0_4.length c0_4, .slice A0_5 l0_5.length c0_5, .slice A0_6 l0_6.length c0_6, .slice A0_7 l0_7.length c0_7] 28 (0, 0)) (by apply blk_sum; (repeat (with_reducible first | apply blk_sett | apply blk_far (hp := NB404_439.out) | apply blk_drewN | apply blk_drew | apply blk_alloc)); exact BK404.out; rfl) hb); have n9_ := am (blk_below (g := gb439) (o := .cells #[.int .i64 t423, .string t424, .int .i64 t425, .int .i64 t426, .slice Ao25 t427.length co25, .slice Ao26 t430.length co26, .slice Ao27 t433.length co27, .slice Ao28 t436.length co28] 36 (0, 0)) (by apply blk_sum; (repeat (with_reducible first | apply blk_sett | apply blk_drewN | apply blk_drew | apply blk_alloc)); exact BK439.out; rfl) hb); have n10_ := am (below_step blw hb); clear HO412; clear HO415; clear HO418; clear HO421; clear HO429; clear HO432; clear HO435; clear HO438; clear BK404; clear BK439; clear HB; revert n0_ n1_ n2_ n3_ n4_ n5_ n6_ n7_ n8_ n9_ n10_; intro HO412 HO415 HO418 HO421 HO429 HO432 HO435 HO438 BK404 BK439 HB; (try clear hb); (try clear hb2); (try clear hk); (try clear hi)))
 (try clear hcz13_0 hcz13_1 hcz13_2 hcz13_3 hcz13_4 hcz13_5 hcz13_6 hcz13_7); (try clear hcz20_0 hcz20_1 hcz20_2 hcz20_3 hcz20_4 hcz20_5 hcz20_6 hcz20_7); (try clear hcz24_0 hcz24_1 hcz24_2 hcz24_3 hcz24_4 hcz24_5 hcz24_6 hcz24_7); (try clear hcz5_0 hcz5_1 hcz5_2 hcz5_3 hcz5_4 hcz5_5 hcz5_6 hcz5_7); (try clear hfz13_0 hfz13_1 hfz13_2 hfz13_3 hfz13_4 hfz13_5 hfz13_6 hfz13_7); (try clear hfz20_0 hfz20_1 hfz20_2 hfz20_3 hfz20_4 hfz20_5 hfz20_6 hfz20_7); (try clear hfz24_0 hfz24_1 hfz24_2 hfz24_3 hfz24_4 hfz24_5 hfz24_6 hfz24_7); (try clear hfz5_0 hfz5_1 hfz5_2 hfz5_3 hfz5_4 hfz5_5 hfz5_6 hfz5_7)
 have H := HC12.out
 clear HC12
 by_cases c30 : t440.toList = t422.toList
 case neg =>
  rw [if_neg c30] at H
  have c30b0 : (t440.toList == t422.toList) = false := beq_eq_false_iff_ne.mpr c30
  have c30b1 : (t440.toList != t422.toList) = true := bne_iff_ne.mpr c30
  (first | rw [c30b0] | (simp only [i64_w, i32_w]; rw [c30b0]) | (rw [c30b1]; (try simp only [Bool.not_true, Bool.not_false])) | skip)
  obtain rfl := Option.some.inj H
  go_wp2
  go_ret
  exact ⟨rfw, blw⟩
 rw [if_pos c30] at H
 have c30b0 : (t440.toList == t422.toList) = true := beq_iff_eq.mpr c30
 have c30b1 : (t440.toList != t422.toList) = false := bne_eq_false_iff_eq.mpr c30
 clear c30
 (first | rw [c30b0] | (simp only [i64_w, i32_w]; rw [c30b0]) | (rw [c30b1]; (try simp only [Bool.not_true, Bool.not_false])) | skip)
 replace H := Option.bind_eq_some_iff.mp H
 obtain ⟨⟨t441, t442, t443, t444, t445, t448, t451, t454⟩, A310, H⟩ := H
 replace H : ((laws_eqTerm.f k t423 t424 t425 t426 t427 t430 t433 t436 t441 t442 t443 t444 t445 t448 t451 t454).bind fun t457 => (if t457 = true then (some true) else (some false))) = some r := H
 have A31 := am A310
 clear A310
 replace H := Option.bind_eq_some_iff.mp H
 obtain ⟨t457, A320, H⟩ := H
 replace H : (if t457 = true then (some true) else (some false)) = some r := H
 have A32 := am A320
 clear A320
 have HC33 := am H
 clear H
 try go_wp2
 have n0_ := am (Kd.R_drew HO412.out)
 have n1_ := am (Kd.R_drew HO415.out)
 have n2_ := am (Kd.R_drew HO418.out)
 have n3_ := am (Kd.R_drew HO421.out)
 have n4_ := am (Kd.R_drew HO429.out)
 have n5_ := am (Kd.R_drew HO432.out)
 have n6_ := am (Kd.R_drew HO435.out)
 have n7_ := am (Kd.R_drew HO438.out)
 have n8_ := am (blk_drew BK404.out)
 have n9_ := am (blk_drew BK439.out)
 have n10_ := am (below_drew1 HB.out)
 clear HO412
 clear HO415
 clear HO418
 clear HO421
 clear HO429
 clear HO432
 clear HO435
 clear HO438
 clear BK404
 clear BK439
 clear HB
 revert n0_ n1_ n2_ n3_ n4_ n5_ n6_ n7_ n8_ n9_ n10_
 intro HO412 HO415 HO418 HO421 HO429 HO432 HO435 HO438 BK404 BK439 HB
 refine start_ (n := 5) (S := fun w' => w'.cell? ⟨gb439, 0, none⟩ = some (.int .i64 t423) ∧ w'.cell? ⟨gb439, 1, none⟩ = some (.string t424) ∧ w'.cell? ⟨gb439, 2, none⟩ = some (.int .i64 t425) ∧ w'.cell? ⟨gb439, 3, none⟩ = some (.int .i64 t426) ∧ w'.cell? ⟨gb439, 4, none⟩ = some (.slice Ao25 t427.length co25) ∧ w'.cell? ⟨gb439, 5, none⟩ = some (.slice Ao26 t430.length co26) ∧ w'.cell? ⟨gb439, 6, none⟩ = some (.slice Ao27 t433.length co27) ∧ w'.cell? ⟨gb439, 7, none⟩ = some (.slice Ao28 t436.length co28) ∧ w'.cell? ⟨gb404, 0, none⟩ = some (.int .i64 a0_0) ∧ w'.cell? ⟨gb404, 1, none⟩ = some (.string a0_1) ∧ w'.cell? ⟨gb404, 2, none⟩ = some (.int .i64 a0_2) ∧ w'.cell? ⟨gb404, 3, none⟩ = some (.int .i64 a0_3) ∧ w'.cell? ⟨gb404, 4, none⟩ = some (.slice A0_4 l0_4.length c0_4) ∧ w'.cell? ⟨gb404, 5, none⟩ = some (.slice A0_5 l0_5.length c0_5) ∧ w'.cell? ⟨gb404, 6, none⟩ = some (.slice A0_6 l0_6.length c0_6) ∧ w'.cell? ⟨gb404, 7, none⟩ = some (.slice A0_7 l0_7.length c0_7)) (ds := []) #[false,false,false,false,false] kr rfl rfl ⟨(blk_cell BK439.out 0).trans rfl, (blk_cell BK439.out 1).trans rfl, (blk_cell BK439.out 2).trans rfl, (blk_cell BK439.out 3).trans rfl, (blk_cell BK439.out 4).trans rfl, (blk_cell BK439.out 5).trans rfl, (blk_cell BK439.out 6).trans rfl, (blk_cell BK439.out 7).trans rfl, (blk_cell BK404.out 0).trans rfl, (blk_cell BK404.out 1).trans rfl, (blk_cell BK404.out 2).trans rfl, (blk_cell BK404.out 3).trans rfl, (blk_cell BK404.out 4).trans rfl, (blk_cell BK404.out 5).trans rfl, (blk_cell BK404.out 6).trans rfl, (blk_cell BK404.out 7).trans rfl⟩ (fun hHeld => ?_)
 generalize w29.drew = w34 at HO412 HO415 HO418 HO421 HO429 HO432 HO435 HO438 BK404 BK439 HB hHeld ⊢
 refine take_ (i := 0) (N := some 22) (v := ?_) (a' := ?_) (bm 5 1) rfl rfl kr qi (Or.inl ⟨by rfl, ?_⟩) hHeld ?_ ?_
 rotate_left
 ·rintro w' ⟨s0, s1, s2, s3, s4, s5, s6, s7, s8, s9, s10, s11, s12, s13, s14, s15⟩
  go_simp
  with_reducible rfl
 rotate_left
 ·simp only [sx]
  rfl
 refine take_ (i := 1) (N := some 23) (v := ?_) (a' := ?_) (bm 5 3) rfl rfl kr qi (Or.inl ⟨by rfl, ?_⟩) hHeld ?_ ?_
 rotate_left
 ·rintro w' ⟨s0, s1, s2, s3, s4, s5, s6, s7, s8, s9, s10, s11, s12, s13, s14, s15⟩
  go_simp
  with_reducible rfl
 rotate_left
 ·simp only [sx]
  rfl
 refine one_ (i := 2) (N := some 24) (bm 5 7) rfl rfl kr (by decide) (fun K hK => ?_)
 refine goes_ Tryd.func6 kr rfl #[.agg #[.int .i64 a0_0, .string a0_1, .int .i64 a0_2, .int .i64 a0_3, .slice A0_4 l0_4.length c0_4, .slice A0_5 l0_5.length c0_5, .slice A0_6 l0_6.length c0_6, .slice A0_7 l0_7.length c0_7]] (by rfl) rfl rfl mpw ?_
 with_reducible refine (laws_toTerm.calls k a0_0 a0_1 a0_2 a0_3 _ _ l0_4 _ _ l0_5 _ _ l0_6 _ _ l0_7 t441 t442 t443 t444 t445 t448 t451 t454 _ ?side1 ?side2 ?side3 ?side4 ?side5 ?side6 ?side7 ?side8 A31.out).mono ?_
 (case side1 => have X_ := HR0_4; exact cbl)
 (case side2 => exact HC0_4.out)
 (case side3 => have X_ := HR0_5; exact cbl)
 (case side4 => exact HC0_5.out)
 (case side5 => have X_ := HR0_6; exact cbl)
 (case side6 => exact HC0_6.out)
 (case side7 => have X_ := HR0_7; exact cbl)
 (case side8 => exact HC0_7.out)
 rintro e w35 ⟨v446, v449, v452, v455, rfl, ho0, ho1, ho2, ho3, hb⟩
 refine ⟨_, rfl, ?_⟩
 have n0_ := am (Kd.R_mono (Kd.R_told (Kd.R_told (Kd.R_old (by (with_reducible repeat (first | apply Kd.R_alloc | apply Kd.R_drewN | apply Kd.R_drew)); exact HO412.out) hb) (Kd.R_base ho0)) (Kd.R_base ho2)) (fun _ h_ => h_.1))
 have n1_ := am (Kd.R_mono (Kd.R_told (Kd.R_told (Kd.R_told (Kd.R_old (by (with_reducible repeat (first | apply Kd.R_alloc | apply Kd.R_drewN | apply Kd.R_drew)); exact HO415.out) hb) (Kd.R_base ho0)) (Kd.R_base ho1)) (Kd.R_base ho2)) (fun _ h_ => h_.1))
 have n2_ := am (Kd.R_mono (Kd.R_told (Kd.R_told (Kd.R_old (by (with_reducible repeat (first | apply Kd.R_alloc | apply Kd.R_drewN | apply Kd.R_drew)); exact HO418.out) hb) (Kd.R_base ho0)) (Kd.R_base ho2)) (fun _ h_ => h_.1))
 have n3_ := am (Kd.R_mono (Kd.R_told (Kd.R_told (Kd.R_told (Kd.R_told (Kd.R_old (by (with_reducible repeat (first | apply Kd.R_alloc | apply Kd.R_drewN | apply Kd.R_drew)); exact HO421.out) hb) (Kd.R_base ho0)) (Kd.R_base ho1)) (Kd.R_base ho2)) (Kd.R_base ho3)) (fun _ h_ => h_.1))
 have n4_ := am (Kd.R_mono (Kd.R_told (Kd.R_told (Kd.R_old (by (with_reducible repeat (first | apply Kd.R_alloc | apply Kd.R_drewN | apply Kd.R_drew)); exact HO429.out) hb) (Kd.R_base ho0)) (Kd.R_base ho2)) (fun _ h_ => h_.1))
 have n5_ := am (Kd.R_mono (Kd.R_told (Kd.R_told (Kd.R_told (Kd.R_old (by (with_reducible repeat (first | apply Kd.R_alloc | apply Kd.R_drewN | apply Kd.R_drew)); exact HO432.out) hb) (Kd.R_base ho0)) (Kd.R_base ho1)) (Kd.R_base ho2)) (fun _ h_ => h_.1))
 have n6_ := am (Kd.R_mono (Kd.R_told (Kd.R_told (Kd.R_old (by (with_reducible repeat (first | apply Kd.R_alloc | apply Kd.R_drewN | apply Kd.R_drew)); exact HO435.out) hb) (Kd.R_base ho0)) (Kd.R_base ho2)) (fun _ h_ => h_.1))
 have n7_ := am (Kd.R_mono (Kd.R_told (Kd.R_told (Kd.R_told (Kd.R_told (Kd.R_old (by (with_reducible repeat (first | apply Kd.R_alloc | apply Kd.R_drewN | apply Kd.R_drew)); exact HO438.out) hb) (Kd.R_base ho0)) (Kd.R_base ho1)) (Kd.R_base ho2)) (Kd.R_base ho3)) (fun _ h_ => h_.1))
 have n8_ := am (Kd.R_lower (Kd.R_new' (Kd.R_new' (Kd.R_new' (Kd.R_new' ho0 (Kd.R_lt (by (with_reducible repeat (first | apply Kd.R_alloc | apply Kd.R_drewN | apply Kd.R_drew)); exact HO412.out))) (Kd.R_lt (by (with_reducible repeat (first | apply Kd.R_alloc | apply Kd.R_drewN | apply Kd.R_drew)); exact HO418.out))) (Kd.R_lt (by (with_reducible repeat (first | apply Kd.R_alloc | apply Kd.R_drewN | apply Kd.R_drew)); exact HO429.out))) (Kd.R_lt (by (with_reducible repeat (first | apply Kd.R_alloc | apply Kd.R_drewN | apply Kd.R_drew)); exact HO435.out))) (below_size blw))
 have n9_ := am (Kd.R_lower (Kd.R_new' (Kd.R_new' (Kd.R_new' (Kd.R_new' (Kd.R_new' (Kd.R_new' ho1 (Kd.R_lt (by (with_reducible repeat (first | apply Kd.R_alloc | apply Kd.R_drewN | apply Kd.R_drew)); exact HO412.out))) (Kd.R_lt (by (with_reducible repeat (first | apply Kd.R_alloc | apply Kd.R_drewN | apply Kd.R_drew)); exact HO415.out))) (Kd.R_lt (by (with_reducible repeat (first | apply Kd.R_alloc | apply Kd.R_drewN | apply Kd.R_drew)); exact HO418.out))) (Kd.R_lt (by (with_reducible repeat (first | apply Kd.R_alloc | apply Kd.R_drewN | apply Kd.R_drew)); exact HO429.out))) (Kd.R_lt (by (with_reducible repeat (first | apply Kd.R_alloc | apply Kd.R_drewN | apply Kd.R_drew)); exact HO432.out))) (Kd.R_lt (by (with_reducible repeat (first | apply Kd.R_alloc | apply Kd.R_drewN | apply Kd.R_drew)); exact HO435.out))) (below_size blw))
 have n10_ := am (Kd.R_lower (Kd.R_new' (Kd.R_new' (Kd.R_new' (Kd.R_new' ho2 (Kd.R_lt (by (with_reducible repeat (first | apply Kd.R_alloc | apply Kd.R_drewN | apply Kd.R_drew)); exact HO412.out))) (Kd.R_lt (by (with_reducible repeat (first | apply Kd.R_alloc | apply Kd.R_drewN | apply Kd.R_drew)); exact HO418.out))) (Kd.R_lt (by (with_reducible repeat (first | apply Kd.R_alloc | apply Kd.R_drewN | apply Kd.R_drew)); exact HO429.out))) (Kd.R_lt (by (with_reducible repeat (first | apply Kd.R_alloc | apply Kd.R_drewN | apply Kd.R_drew)); exact HO435.out))) (below_size blw))
 have n11_ := am (Kd.R_lower (Kd.R_newB (Kd.R_new' (Kd.R_new' (Kd.R_new' (Kd.R_new' (Kd.R_new' (Kd.R_new' (Kd.R_new' (Kd.R_new' ho3 (Kd.R_lt (by (with_reducible repeat (first | apply Kd.R_alloc | apply Kd.R_drewN | apply Kd.R_drew)); exact HO412.out))) (Kd.R_lt (by (with_reducible repeat (first | apply Kd.R_alloc | apply Kd.R_drewN | apply Kd.R_drew)); exact HO415.out))) (Kd.R_lt (by (with_reducible repeat (first | apply Kd.R_alloc | apply Kd.R_drewN | apply Kd.R_drew)); exact HO418.out))) (Kd.R_lt (by (with_reducible repeat (first | apply Kd.R_alloc | apply Kd.R_drewN | apply Kd.R_drew)); exact HO421.out))) (Kd.R_lt (by (with_reducible repeat (first | apply Kd.R_alloc | apply Kd.R_drewN | apply Kd.R_drew)); exact HO429.out))) (Kd.R_lt (by (with_reducible repeat (first | apply Kd.R_alloc | apply Kd.R_drewN | apply Kd.R_drew)); exact HO432.out))) (Kd.R_lt (by (with_reducible repeat (first | apply Kd.R_alloc | apply Kd.R_drewN | apply Kd.R_drew)); exact HO435.out))) (Kd.R_lt (by (with_reducible repeat (first | apply Kd.R_alloc | apply Kd.R_drewN | apply Kd.R_drew)); exact HO438.out))) (g := gb439) (o := .cells #[.int .i64 t423, .string t424, .int .i64 t425, .int .i64 t426, .slice Ao25 t427.length co25, .slice Ao26 t430.length co26, .slice Ao27 t433.length co27, .slice Ao28 t436.length co28] 36 (0, 0)) bkw) (below_size blw))
 have n12_ := am (blk_below (g := gb404) bkw hb)
 have n13_ := am (blk_below (g := gb439) bkw hb)
 have n14_ := am (below_step blw hb)
 clear HO412
 clear HO415
 clear HO418
 clear HO421
 clear HO429
 clear HO432
 clear HO435
 clear HO438
 clear BK404
 clear BK439
 clear HB
 revert n0_ n1_ n2_ n3_ n4_ n5_ n6_ n7_ n8_ n9_ n10_ n11_ n12_ n13_ n14_
 intro HO412 HO415 HO418 HO421 HO429 HO432 HO435 HO438 HO447 HO450 HO453 HO456 BK404 BK439 HB
 (try clear hb)
 (try clear hb2)
 (try clear hk)
 (try clear hi)
 (try clear ho0)
 (try clear ho1)
 (try clear ho2)
 (try clear ho3)
 obtain ⟨Ao36, co36, eo36⟩ := Kd.R_slice HO447.out
 (first | subst eo36 | (injection eo36 with f1_ f2_ f3_; have f4_ := f1_.symm; have f5_ := f3_.symm; clear f1_ f2_ f3_; subst f4_; subst f5_))
 obtain ⟨Ao37, co37, eo37⟩ := Kd.R_slice HO450.out
 (first | subst eo37 | (injection eo37 with f1_ f2_ f3_; have f4_ := f1_.symm; have f5_ := f3_.symm; clear f1_ f2_ f3_; subst f4_; subst f5_))
 obtain ⟨Ao38, co38, eo38⟩ := Kd.R_slice HO453.out
 (first | subst eo38 | (injection eo38 with f1_ f2_ f3_; have f4_ := f1_.symm; have f5_ := f3_.symm; clear f1_ f2_ f3_; subst f4_; subst f5_))
 obtain ⟨Ao39, co39, eo39⟩ := Kd.R_slice HO456.out
 (first | subst eo39 | (injection eo39 with f1_ f2_ f3_; have f4_ := f1_.symm; have f5_ := f3_.symm; clear f1_ f2_ f3_; subst f4_; subst f5_))
 refine hK.out _ _ ⟨(blk_cell BK439.out 0).trans rfl, (blk_cell BK439.out 1).trans rfl, (blk_cell BK439.out 2).trans rfl, (blk_cell BK439.out 3).trans rfl, (blk_cell BK439.out 4).trans rfl, (blk_cell BK439.out 5).trans rfl, (blk_cell BK439.out 6).trans rfl, (blk_cell BK439.out 7).trans rfl, (blk_cell BK404.out 0).trans rfl, (blk_cell BK404.out 1).trans rfl, (blk_cell BK404.out 2).trans rfl, (blk_cell BK404.out 3).trans rfl, (blk_cell BK404.out 4).trans rfl, (blk_cell BK404.out 5).trans rfl, (blk_cell BK404.out 6).trans rfl, (blk_cell BK404.out 7).trans rfl⟩ (fun hHeld => ?_)
 clear hK K
 refine norm_ (a' := ?_) ?_ ?_
 rotate_left
 ·show Act.put _ (some 24) _ = _
  simp only [sx]
  rfl
 refine one_ (i := 3) (N := some 25) (bm 5 15) rfl rfl kr (by decide) (fun K hK => ?_)
 refine goes_ Tryd.func8 kr rfl #[.agg #[.int .i64 t423, .string t424, .int .i64 t425, .int .i64 t426, .slice Ao25 t427.length co25, .slice Ao26 t430.length co26, .slice Ao27 t433.length co27, .slice Ao28 t436.length co28], .agg #[.int .i64 t441, .string t442, .int .i64 t443, .int .i64 t444, .slice Ao36 t445.length co36, .slice Ao37 t448.length co37, .slice Ao38 t451.length co38, .slice Ao39 t454.length co39]] (by rfl) rfl rfl mpw ?_
 with_reducible refine (laws_eqTerm.calls k t423 t424 t425 t426 _ _ t427 _ _ t430 _ _ t433 _ _ t436 t441 t442 t443 t444 _ _ t445 _ _ t448 _ _ t451 _ _ t454 t457 _ ?side1 ?side2 ?side3 ?side4 ?side5 ?side6 ?side7 ?side8 ?side9 ?side10 ?side11 ?side12 ?side13 ?side14 ?side15 ?side16 A32.out).mono ?_
 (case side1 => repeat (first | exact (Kd.R_reads' HO429.out).2.2 | (with_reducible refine Kd.C_alloc ?_ _) | (with_reducible refine Kd.C_drewN ?_ _) | (with_reducible refine Kd.C_drew ?_)))
 (case side2 => exact (Kd.R_reads' HO429.out).2.1)
 (case side3 => repeat (first | exact (Kd.R_reads' HO432.out).2.2 | (with_reducible refine Kd.C_alloc ?_ _) | (with_reducible refine Kd.C_drewN ?_ _) | (with_reducible refine Kd.C_drew ?_)))
 (case side4 => exact (Kd.R_reads' HO432.out).2.1)
 (case side5 => repeat (first | exact (Kd.R_reads' HO435.out).2.2 | (with_reducible refine Kd.C_alloc ?_ _) | (with_reducible refine Kd.C_drewN ?_ _) | (with_reducible refine Kd.C_drew ?_)))
 (case side6 => exact (Kd.R_reads' HO435.out).2.1)
 (case side7 => repeat (first | exact (Kd.R_reads' HO438.out).2.2 | (with_reducible refine Kd.C_alloc ?_ _) | (with_reducible refine Kd.C_drewN ?_ _) | (with_reducible refine Kd.C_drew ?_)))
 (case side8 => exact (Kd.R_reads' HO438.out).2.1)
 (case side9 => repeat (first | exact (Kd.R_reads' HO447.out).2.2 | (with_reducible refine Kd.C_alloc ?_ _) | (with_reducible refine Kd.C_drewN ?_ _) | (with_reducible refine Kd.C_drew ?_)))
 (case side10 => exact (Kd.R_reads' HO447.out).2.1)
 (case side11 => repeat (first | exact (Kd.R_reads' HO450.out).2.2 | (with_reducible refine Kd.C_alloc ?_ _) | (with_reducible refine Kd.C_drewN ?_ _) | (with_reducible refine Kd.C_drew ?_)))
 (case side12 => exact (Kd.R_reads' HO450.out).2.1)
 (case side13 => repeat (first | exact (Kd.R_reads' HO453.out).2.2 | (with_reducible refine Kd.C_alloc ?_ _) | (with_reducible refine Kd.C_drewN ?_ _) | (with_reducible refine Kd.C_drew ?_)))
 (case side14 => exact (Kd.R_reads' HO453.out).2.1)
 (case side15 => repeat (first | exact (Kd.R_reads' HO456.out).2.2 | (with_reducible refine Kd.C_alloc ?_ _) | (with_reducible refine Kd.C_drewN ?_ _) | (with_reducible refine Kd.C_drew ?_)))
 (case side16 => exact (Kd.R_reads' HO456.out).2.1)
 rintro e w40 ⟨rfl, hb⟩
 refine ⟨_, rfl, ?_⟩
 have n0_ := am (Kd.R_below (by (with_reducible repeat (first | apply Kd.R_alloc | apply Kd.R_drewN | apply Kd.R_drew)); exact HO412.out) hb)
 have n1_ := am (Kd.R_below (by (with_reducible repeat (first | apply Kd.R_alloc | apply Kd.R_drewN | apply Kd.R_drew)); exact HO415.out) hb)
 have n2_ := am (Kd.R_below (by (with_reducible repeat (first | apply Kd.R_alloc | apply Kd.R_drewN | apply Kd.R_drew)); exact HO418.out) hb)
 have n3_ := am (Kd.R_below (by (with_reducible repeat (first | apply Kd.R_alloc | apply Kd.R_drewN | apply Kd.R_drew)); exact HO421.out) hb)
 have n4_ := am (Kd.R_below (by (with_reducible repeat (first | apply Kd.R_alloc | apply Kd.R_drewN | apply Kd.R_drew)); exact HO429.out) hb)
 have n5_ := am (Kd.R_below (by (with_reducible repeat (first | apply Kd.R_alloc | apply Kd.R_drewN | apply Kd.R_drew)); exact HO432.out) hb)
 have n6_ := am (Kd.R_below (by (with_reducible repeat (first | apply Kd.R_alloc | apply Kd.R_drewN | apply Kd.R_drew)); exact HO435.out) hb)
 have n7_ := am (Kd.R_below (by (with_reducible repeat (first | apply Kd.R_alloc | apply Kd.R_drewN | apply Kd.R_drew)); exact HO438.out) hb)
 have n8_ := am (Kd.R_below (by (with_reducible repeat (first | apply Kd.R_alloc | apply Kd.R_drewN | apply Kd.R_drew)); exact HO447.out) hb)
 have n9_ := am (Kd.R_below (by (with_reducible repeat (first | apply Kd.R_alloc | apply Kd.R_drewN | apply Kd.R_drew)); exact HO450.out) hb)
 have n10_ := am (Kd.R_below (by (with_reducible repeat (first | apply Kd.R_alloc | apply Kd.R_drewN | apply Kd.R_drew)); exact HO453.out) hb)
 have n11_ := am (Kd.R_below (by (with_reducible repeat (first | apply Kd.R_alloc | apply Kd.R_drewN | apply Kd.R_drew)); exact HO456.out) hb)
 have n12_ := am (blk_below (g := gb404) bkw hb)
 have n13_ := am (blk_below (g := gb439) bkw hb)
 have n14_ := am (below_step blw hb)
 clear HO412
 clear HO415
 clear HO418
 clear HO421
 clear HO429
 clear HO432
 clear HO435
 clear HO438
 clear HO447
 clear HO450
 clear HO453
 clear HO456
 clear BK404
 clear BK439
 clear HB
 revert n0_ n1_ n2_ n3_ n4_ n5_ n6_ n7_ n8_ n9_ n10_ n11_ n12_ n13_ n14_
 intro HO412 HO415 HO418 HO421 HO429 HO432 HO435 HO438 HO447 HO450 HO453 HO456 BK404 BK439 HB
 (try clear hb)
 (try clear hb2)
 (try clear hk)
 (try clear hi)
 refine hK.out _ _ ⟨(blk_cell BK439.out 0).trans rfl, (blk_cell BK439.out 1).trans rfl, (blk_cell BK439.out 2).trans rfl, (blk_cell BK439.out 3).trans rfl, (blk_cell BK439.out 4).trans rfl, (blk_cell BK439.out 5).trans rfl, (blk_cell BK439.out 6).trans rfl, (blk_cell BK439.out 7).trans rfl, (blk_cell BK404.out 0).trans rfl, (blk_cell BK404.out 1).trans rfl, (blk_cell BK404.out 2).trans rfl, (blk_cell BK404.out 3).trans rfl, (blk_cell BK404.out 4).trans rfl, (blk_cell BK404.out 5).trans rfl, (blk_cell BK404.out 6).trans rfl, (blk_cell BK404.out 7).trans rfl⟩ (fun hHeld => ?_)
 clear hK K
 refine norm_ (a' := ?_) ?_ ?_
 rotate_left
 ·show Act.put _ (some 25) _ = _
  simp only [sx]
  rfl
 refine pure_ (i := 4) (N := some 26) (v := ?_) (a' := ?_) (bm 5 31) rfl rfl kr qi (Or.inl ⟨by rfl, ?_⟩) ?_ ?_
 rotate_left
 ·intro w'
  go_simp
  with_reducible rfl
 rotate_left
 ·simp only [sx]
  rfl
 refine done_ kr ?_
 go_upto_if 26 with (fail)
 have H := HC33.out
 clear HC33
 by_cases c41 : t457 = true
 ·subst c41
  have H1 : (some true) = some r := by rw [if_pos rfl] at H; exact H
  clear H
  have H := H1
  clear H1
  obtain rfl := Option.some.inj H
  go_wp2
  go_ret
  exact ⟨rfw, blw⟩
 replace c41 := Bool.eq_false_iff.mpr c41
 subst c41
 have H1 : (some false) = some r := by rw [if_neg (show ¬ (false = true) by decide)] at H; exact H
 clear H
 have H := H1
 clear H1
 obtain rfl := Option.some.inj H
 go_wp2
 go_ret
 exact ⟨rfw, blw⟩

/-- THE ONE PURE STATEMENT of laws_FnExactFormatTerm. -/
def laws_FnExactFormatTerm.Pure : Prop := ∀ (a0_0 : Int) (a0_1 : ByteArray) (a0_2 : Int) (a0_3 : Int) (l0_4 : List ByteArray) (l0_5 : List (S25)) (l0_6 : List ByteArray) (l0_7 : List (S28)), W28 (⟨a0_0, a0_1, a0_2, (⟨a0_3, l0_4, l0_5⟩ : S25), l0_6, l0_7⟩ : S28) → ∃ k, laws_FnExactFormatTerm.f k a0_0 a0_1 a0_2 a0_3 l0_4 l0_5 l0_6 l0_7 = some true

end Go.Proofs.YtgplgphchdgedaaDoor.Px
end
section
namespace Go.Proofs.YtgplgphchdgedaaDoor.Px
open Go.RowKit Go.Proofs.YtgplgphchdgedaaDoorW.PrintWords Go.Proofs.YtgplgphchdgedaaDoorW.PrintLast Go.Proofs.YtgplgphchdgedaaDoor.Pl Go.Proofs.YtgplgphchdgedaaDoor.Ext
set_option linter.unusedVariables false
set_option linter.unusedSimpArgs false
theorem spec_l1Max_eq (a b : Int) : spec_l1Max.f a b = some (mx a b) := by
  rw [mx_eq]; unfold spec_l1Max.f; split <;> rfl

end Go.Proofs.YtgplgphchdgedaaDoor.Px
end
section
namespace Go.Proofs.YtgplgphchdgedaaDoor.Px
open Go.RowKit Go.Proofs.YtgplgphchdgedaaDoorW.PrintWords Go.Proofs.YtgplgphchdgedaaDoorW.PrintLast Go.Proofs.YtgplgphchdgedaaDoor.Pl Go.Proofs.YtgplgphchdgedaaDoor.Ext
set_option linter.unusedVariables false
set_option linter.unusedSimpArgs false
theorem impl_SizeOfType_ev : ∀ x : S33, SmType x → ndType x ≤ 1048577 → Ev (fun k => impl_SizeOfType.f k x.f0 x.f1 x.f2) (ndType x : Int) := by
  refine indTypeI fun x ih hs hn => ?_
  refine Ev.up ?_
  simp only [impl_SizeOfType.f]
  rw [ndType_eq] at hn ⊢
  refine Ev.eq (fold_loop x.f2.length (fun k i => impl_SizeOfType.f k (rd_T33 x.f2 (i : Int)).f0 (rd_T33 x.f2 (i : Int)).f1 (rd_T33 x.f2 (i : Int)).f2) (fun k s i => impl_SizeOfType.l0 k s x.f2 (x.f2.length : Int) (i : Int)) (fun s t => wrap64 (s + t)) (fun i => (ndType (x.f2.getD i z33) : Int)) id
    (fun k s i hi => by simp only [impl_SizeOfType.l0]; rw [if_pos (by omega), if_pos (by omega), if_pos (by omega), w1' hi hs.p2.1])
    (fun k s => by simp only [impl_SizeOfType.l0]; rw [if_neg (by omega)]; rfl)
    (fun i hi => ih (x.f2.getD i z33) (mem_getD x.f2 z33 i hi) (hs.p2.2 _ (mem_getD x.f2 z33 i hi)) (by have := sum_le_of_mem ndType (mem_getD x.f2 z33 i hi); omega)) x.f2.length 0 1 (by omega)) ?_
  rw [foldl_range (fun (s : Int) y => wrap64 (s + (ndType y : Int))) z33 x.f2 1]
  exact fold_wrap ndType x.f2 1 (by omega)

end Go.Proofs.YtgplgphchdgedaaDoor.Px
end
section
namespace Go.Proofs.YtgplgphchdgedaaDoor.Px
open Go.RowKit Go.Proofs.YtgplgphchdgedaaDoorW.PrintWords Go.Proofs.YtgplgphchdgedaaDoorW.PrintLast Go.Proofs.YtgplgphchdgedaaDoor.Pl Go.Proofs.YtgplgphchdgedaaDoor.Ext
set_option linter.unusedVariables false
set_option linter.unusedSimpArgs false
theorem spec_l3Form_ev : ∀ x : S33, SmType x → Ev (fun k => spec_l3Form.f k x.f0 x.f1 x.f2) (formT x) := by
 refine indTypeI fun x ih hs => ?_
 have j2 : ∀ b : Bool, (b = true ↔ (x.f0 = 1 ∨ x.f0 = 2)) → Ev (fun k => spec_l3Form.j2 k (-1) x.f0 b x.f0 x.f1 x.f2) (decide ((x.f1.length : Int) = 0) && decide ((x.f2.length : Int) = wantT x.f0)) := by
  intro b hb
  refine Ev.up ?_
  simp only [spec_l3Form.j2]
  unfold wantT
  refine Ev.cases (fun h => ?_) (fun h => ?_)
  ·rw [if_pos (hb.1 h)]
   exact Ev.cases (fun g => Ev.const (by rw [decide_eq_true g, Bool.true_and]; rfl)) (fun g => Ev.const (by rw [decide_eq_false g]; rfl))
  ·rw [if_neg (fun g => h (hb.2 g))]
   refine Ev.cases (fun g4 => ?_) (fun g4 => ?_)
   ·rw [if_pos g4]; exact Ev.cases (fun g => Ev.const (by rw [decide_eq_true g, Bool.true_and]; rfl)) (fun g => Ev.const (by rw [decide_eq_false g]; rfl))
   rw [if_neg g4]
   refine Ev.cases (fun g5 => ?_) (fun g5 => ?_)
   ·rw [if_pos g5]; exact Ev.cases (fun g => Ev.const (by rw [decide_eq_true g, Bool.true_and]; rfl)) (fun g => Ev.const (by rw [decide_eq_false g]; rfl))
   ·rw [if_neg g5]; exact Ev.cases (fun g => Ev.const (by rw [decide_eq_true g, Bool.true_and]; rfl)) (fun g => Ev.const (by rw [decide_eq_false g]; rfl))
 have j1 : ∀ b : Bool, Ev (fun k => spec_l3Form.j1 k b x.f0 x.f1 x.f2) (!b && (decide ((x.f1.length : Int) = 0) && decide ((x.f2.length : Int) = wantT x.f0))) := by
  intro b
  refine Ev.up ?_
  simp only [spec_l3Form.j1]
  refine Ev.cases (fun h => Ev.const (by simp [h])) (fun h => ?_)
  rw [Bool.eq_false_iff.2 h, Bool.not_false, Bool.true_and]
  refine Ev.cases (fun h1 => j2 _ (by simp [h1])) (fun h1 => j2 _ (by simp [h1]))
 rw [formT_eq, formTS_all]
 refine Ev.up ?_
 simp only [spec_l3Form.f]
 refine all_ev x.f2 z33 formT _ (fun k i => spec_l3Form.l0 k (i : Int) x.f0 x.f1 x.f2) (fun k i => spec_l3Form.f k (rd_T33 x.f2 (i : Int)).f0 (rd_T33 x.f2 (i : Int)).f1 (rd_T33 x.f2 (i : Int)).f2) (fun k i hi => ?_) ?_ (fun i hi => ih (x.f2.getD i z33) (mem_getD x.f2 z33 i hi) (hs.p2.2 _ (mem_getD x.f2 z33 i hi)))
 ·simp only [spec_l3Form.l0]
  rw [if_pos (by omega), if_pos (by omega), w1' hi hs.p2.1]
 ·refine Ev.up ?_
  simp only [spec_l3Form.l0]
  refine Ev.neg (by omega) ?_
  unfold topT
  refine Ev.cases (fun h3 => ?_) (fun h3 => ?_)
  ·rw [if_pos h3]
   refine Ev.cases (fun hl => ?_) (fun hl => ?_)
   ·rw [decide_eq_true hl, Bool.true_and]
    refine Ev.bind (spec_l3Labels_ev x.f1 hs.p1.1 hs.p1.2) ?_
    refine Ev.cases (fun hb => ?_) (fun hb => ?_)
    ·rw [hb, Bool.true_and]
     refine Ev.bind (spec_l3Has_ev 5 x hs) (Ev.const ?_)
     rw [hasT_eq, h3]; simp
    ·rw [Bool.eq_false_iff.2 hb]; exact Ev.now _
   ·rw [decide_eq_false hl]; exact Ev.now _
  ·rw [if_neg h3]
   refine Ev.cases (fun h4 => ?_) (fun h4 => ?_)
   ·refine Ev.cases (fun h1 => Ev.pos (by omega) ?_) (fun h1 => ?_)
    ·have hl1 : x.f2.length = 1 := by omega
     have hh := spec_l3Has_ev 5 (x.f2.getD 0 z33) (hs.p2.2 _ (mem_getD x.f2 z33 0 (by omega)))
     refine Ev.bind hh ?_
     have e : hasT 5 (x.f2.getD 0 z33) = hasTS 5 x.f2 := by
      obtain ⟨y, hy⟩ := List.length_eq_one_iff.1 hl1
      rw [hy]; simp [hasTS]
     rw [e]
     refine Ev.eq (j1 _) ?_
     cases hc : hasTS 5 x.f2
     ·rw [if_neg (by simp)]; rfl
     ·rw [if_pos ⟨h4, hl1, rfl⟩]; rfl
    ·rw [if_neg (by omega)]
     exact j1 false
   ·rw [if_neg (fun h => h4 h.1)]
    exact j1 false
theorem impl_typeForm_ev : ∀ x : S33, SmType x → ∀ p d, 0 ≤ d → d ≤ 8 → Ev (fun k => impl_typeForm.f k x.f0 x.f1 x.f2 p d) (tfT p d x) := by
 refine indTypeI fun x ih hs p d hd0 hd1 => ?_
 have wx := wf64 hs.p0
 have hl1 := hs.p1.1
 have j4 : d ≤ 7 → ∀ q, Ev (fun k => impl_typeForm.j4 k d q x.f2) (tfTS q (d + 1) x.f2) := by
  intro hd7 q
  refine Ev.up ?_
  simp only [impl_typeForm.j4]
  refine Ev.eq (all_ev x.f2 z33 (tfT q (d + 1)) true (fun k i => impl_typeForm.l0 k d q (x.f2.length : Int) (i : Int) x.f2) (fun k i => impl_typeForm.f k (rd_T33 x.f2 (i : Int)).f0 (rd_T33 x.f2 (i : Int)).f1 (rd_T33 x.f2 (i : Int)).f2 q (d + 1)) (fun k i hi => ?_) ?_ (fun i hi => ?_)) (by rw [tfTS_all, Bool.and_true])
  ·simp only [impl_typeForm.l0]
   rw [if_pos (by omega), if_pos (by omega), if_pos (by omega), w1' hi hs.p2.1, w64 (a := d + 1) (by omega) (by omega)]
  ·refine Ev.up ?_
   simp only [impl_typeForm.l0]
   exact Ev.neg (by omega) (Ev.now _)
  ·exact ih (x.f2.getD i z33) (mem_getD x.f2 z33 i hi) (hs.p2.2 _ (mem_getD x.f2 z33 i hi)) q (d + 1) (by omega) (by omega)
 have j3 : d ≤ 7 → Ev (fun k => impl_typeForm.j3 k p d x.f0 x.f2) (tfTS (p || (decide (x.f0 = 3) || decide (x.f0 = 4))) (d + 1) x.f2) := by
  intro hd7
  refine Ev.up ?_
  simp only [impl_typeForm.j3]
  refine Ev.cases (fun h => ?_) (fun h => ?_)
  ·rw [h, Bool.true_or]; exact j4 hd7 true
  ·rw [Bool.eq_false_iff.2 h, Bool.false_or]
   refine Ev.cases (fun h3 => ?_) (fun h3 => ?_)
   ·rw [decide_eq_true h3, Bool.true_or]; exact j4 hd7 true
   ·rw [decide_eq_false h3, Bool.false_or]; exact j4 hd7 _
 have j2 : d ≤ 7 → ∀ b : Bool, Ev (fun k => impl_typeForm.j2 k p d b x.f0 x.f1 x.f2) (!b && ((decide (x.f0 = 3) || decide (x.f1.length = 0)) && tfTS (p || (decide (x.f0 = 3) || decide (x.f0 = 4))) (d + 1) x.f2)) := by
  intro hd7 b
  refine Ev.up ?_
  simp only [impl_typeForm.j2]
  refine Ev.cases (fun h => Ev.const (by rw [h]; rfl)) (fun h => ?_)
  rw [Bool.eq_false_iff.2 h, Bool.not_false, Bool.true_and]
  refine Ev.cases (fun h3 => ?_) (fun h3 => ?_)
  ·have := j3 hd7
   rw [decide_eq_true h3] at this ⊢
   exact this
  ·rw [decide_eq_false h3, Bool.false_or]
   refine Ev.cases (fun hl => Ev.const ?_) (fun hl => ?_)
   ·rw [decide_eq_false (by omega)]; rfl
   ·rw [decide_eq_true (by omega), Bool.true_and]
    have := j3 hd7
    rw [decide_eq_false h3] at this
    exact this
 have j1 : d ≤ 7 → ∀ b : Bool, Ev (fun k => impl_typeForm.j1 k p d b x.f0 x.f1 x.f2) (!b && (!(decide (x.f0 = 3) && !(labB x.f1)) && ((decide (x.f0 = 3) || decide (x.f1.length = 0)) && tfTS (p || (decide (x.f0 = 3) || decide (x.f0 = 4))) (d + 1) x.f2))) := by
  intro hd7 b
  refine Ev.up ?_
  simp only [impl_typeForm.j1]
  refine Ev.cases (fun h => Ev.const (by rw [h]; rfl)) (fun h => ?_)
  rw [Bool.eq_false_iff.2 h, Bool.not_false, Bool.true_and]
  refine Ev.cases (fun h3 => ?_) (fun h3 => ?_)
  ·refine Ev.bind (impl_labelsOk_ev x.f1 hs.p1.1 hs.p1.2) ?_
   have := j2 hd7 (!(labB x.f1))
   rw [decide_eq_true h3] at this ⊢
   rw [Bool.true_and]
   exact this
  ·have := j2 hd7 false
   rw [decide_eq_false h3] at this ⊢
   rw [Bool.false_and]
   exact this
 have j0 : ∀ b : Bool, (b = false → d ≤ 7) → Ev (fun k => impl_typeForm.j0 k p d b x.f0 x.f1 x.f2) (!b && (!(decide (x.f0 = 5) && p) && (!(decide (x.f0 = 3) && !(labB x.f1)) && ((decide (x.f0 = 3) || decide (x.f1.length = 0)) && tfTS (p || (decide (x.f0 = 3) || decide (x.f0 = 4))) (d + 1) x.f2)))) := by
  intro b hb
  refine Ev.up ?_
  simp only [impl_typeForm.j0]
  refine Ev.cases (fun h => Ev.const (by rw [h]; rfl)) (fun h => ?_)
  have hd7 := hb (Bool.eq_false_iff.2 h)
  rw [Bool.eq_false_iff.2 h, Bool.not_false, Bool.true_and]
  refine Ev.cases (fun h5 => ?_) (fun h5 => ?_)
  ·rw [decide_eq_true h5, Bool.true_and]; exact j1 hd7 p
  ·rw [decide_eq_false h5, Bool.false_and]; exact j1 hd7 false
 rw [tfT_eq]
 unfold topI
 refine Ev.up ?_
 simp only [impl_typeForm.f]
 refine Ev.pos (by omega) (Ev.pos (by omega) (Ev.pos (by omega) (Ev.pos (by omega) ?_)))
 have no : ¬ (1 ≤ x.f0 ∧ x.f0 ≤ 5 ∧ d ≤ 7) → ∀ A B C : Bool, Ev (fun k => impl_typeForm.j0 k p d true x.f0 x.f1 x.f2) (((decide (1 ≤ x.f0 ∧ x.f0 ≤ 5 ∧ d ≤ 7) && A) && B) && C) := by
  intro h A B C
  rw [decide_eq_false h]
  exact j0 true (fun h => by cases h)
 refine Ev.cases (fun h1 => no (by omega) _ _ _) (fun h1 => ?_)
 refine Ev.cases (fun h2 => no (by omega) _ _ _) (fun h2 => ?_)
 refine Ev.cases (fun h3 => no (by omega) _ _ _) (fun h3 => ?_)
 rw [decide_eq_true (by omega : 1 ≤ x.f0 ∧ x.f0 ≤ 5 ∧ d ≤ 7), Bool.true_and]
 refine Ev.eq (j0 _ (fun _ => by omega)) ?_
 have e : ((x.f2.length : Int) != imPut (imPut (imPut im0 4 1) 5 2) 3 (x.f1.length : Int) x.f0) = !(decide ((x.f2.length : Int) = imPut (imPut (imPut im0 4 1) 5 2) 3 (x.f1.length : Int) x.f0)) := rfl
 rw [e, Bool.not_not]
 simp only [Bool.and_assoc]
theorem spec_l3Left_ev : ∀ x : S33, SmType x → ∀ n : Int, 0 ≤ n → n ≤ 1048577 → ∃ r, Ev (fun k => spec_l3Left.f k x.f0 x.f1 x.f2 n) r ∧ ((ndType x : Int) ≤ n → r = n - ndType x) ∧ (n < ndType x → r < 0) ∧ r ≤ 1048577 := by
 refine indTypeI fun x ih hs n hn hn2 => ?_
 rw [ndType_eq]
 have loop : ∀ m i s, i + m = x.f2.length → s ≤ 1048577 → ∃ r, Ev (fun k => spec_l3Left.l0 k s (i : Int) x.f0 x.f1 x.f2) r ∧ (0 ≤ s → (((((x.f2.drop i).map ndType).sum : Nat) : Int) ≤ s → r = s - (((x.f2.drop i).map ndType).sum : Nat)) ∧ (s < (((x.f2.drop i).map ndType).sum : Nat) → r < 0)) ∧ (s < 0 → r < 0) ∧ r ≤ 1048577 := by
  intro m
  induction m with
  | zero =>
   intro i s hi hs1
   refine ⟨s, Ev.up ?_, fun h => ?_, id, hs1⟩
   ·simp only [spec_l3Left.l0]; exact Ev.neg (by omega) (Ev.now _)
   ·rw [List.drop_of_length_le (by omega)]; simp <;> omega
  | succ m ihm =>
   intro i s hi hs1
   have hlt : i < x.f2.length := by omega
   have e : x.f2.getD i z33 = x.f2[i] := by simp [List.getD_eq_getElem?_getD, hlt]
   by_cases h0 : 0 ≤ s
   case neg =>
    refine ⟨s, Ev.up ?_, fun h => absurd h h0, id, hs1⟩
    simp only [spec_l3Left.l0]
    exact Ev.pos (by omega) (Ev.neg (by omega) (Ev.now _))
   obtain ⟨r, h1, h2, h3, h4⟩ := ih (x.f2.getD i z33) (mem_getD x.f2 z33 i hlt) (hs.p2.2 _ (mem_getD x.f2 z33 i hlt)) s h0 hs1
   obtain ⟨u, g1, g2, g3, g4⟩ := ihm (i + 1) r (by omega) h4
   refine ⟨u, Ev.up ?_, fun _ => ?_, fun h => by omega, g4⟩
   ·simp only [spec_l3Left.l0, w1' hlt hs.p2.1]
    exact Ev.pos (by omega) (Ev.pos h0 (Ev.pos (by omega) (Ev.bind h1 g1)))
   ·rw [List.drop_eq_getElem_cons hlt, List.map_cons, List.sum_cons, ← e]
    by_cases hc : (ndType (x.f2.getD i z33) : Int) ≤ s
    ·have := h2 hc
     have := g2 (by omega)
     omega
    have := h3 (by omega)
    have := g3 (by omega)
    omega
 obtain ⟨r, h1, h2, h3, h4⟩ := loop x.f2.length 0 (n - 1) (by omega) (by omega)
 refine ⟨r, Ev.up ?_, ?_, ?_, h4⟩
 ·simp only [spec_l3Left.f]
  rw [w64 (a := n - 1) (by omega) (by omega)]
  exact h1
 ·intro h; have := h2 (by omega); simp at this; omega
 ·intro h
  by_cases h0 : 0 ≤ n - 1
  case neg =>
   exact h3 (by omega)
  have := h2 h0; simp at this; omega

end Go.Proofs.YtgplgphchdgedaaDoor.Px
end
section
namespace Go.Proofs.YtgplgphchdgedaaDoor.Px
open Go.RowKit Go.Proofs.YtgplgphchdgedaaDoorW.PrintWords Go.Proofs.YtgplgphchdgedaaDoorW.PrintLast Go.Proofs.YtgplgphchdgedaaDoor.Pl Go.Proofs.YtgplgphchdgedaaDoor.Ext
set_option linter.unusedVariables false
set_option linter.unusedSimpArgs false
theorem mx_nat (a b : Nat) : mx (a : Int) (b : Int) = ((max a b : Nat) : Int) := by rw [mx_eq]; split <;> omega
theorem fold_mx : ∀ (xs : List S33) (s : Nat), xs.foldl (fun (s : Int) y => mx s (depT y : Int)) (s : Int) = ((max s (depTS xs) : Nat) : Int)
  | [], s => by simp [depTS]
  | x :: r, s => by
    rw [List.foldl_cons, mx_nat, fold_mx r]
    simp only [depTS]
    congr 1
    omega
theorem spec_DepthOfType_ev : ∀ x : S33, SmType x → ndType x ≤ 1048577 → Ev (fun k => spec_DepthOfType.f k x.f0 x.f1 x.f2) (depT x : Int) := by
  refine indTypeI fun x ih hs hn => ?_
  have hd := depT_nd x
  rw [ndType_eq] at hn
  refine Ev.up ?_
  simp only [spec_DepthOfType.f]
  refine Ev.eq (fold_loop x.f2.length (fun k i => spec_DepthOfType.f k (rd_T33 x.f2 (i : Int)).f0 (rd_T33 x.f2 (i : Int)).f1 (rd_T33 x.f2 (i : Int)).f2) (fun k s i => spec_DepthOfType.l0 k s (i : Int) x.f0 x.f1 x.f2) mx (fun i => (depT (x.f2.getD i z33) : Int)) (fun s => wrap64 (s + 1))
    (fun k s i hi => by simp only [spec_DepthOfType.l0, spec_l1Max_eq, Option.bind_some]; rw [if_pos (by omega), if_pos (by omega), w1' hi hs.p2.1])
    (fun k s => by simp only [spec_DepthOfType.l0]; rw [if_neg (by omega)])
    (fun i hi => ih (x.f2.getD i z33) (mem_getD x.f2 z33 i hi) (hs.p2.2 _ (mem_getD x.f2 z33 i hi)) (by have := sum_le_of_mem ndType (mem_getD x.f2 z33 i hi); omega)) x.f2.length 0 0 (by omega)) ?_
  rw [foldl_range (fun (s : Int) y => mx s (depT y : Int)) z33 x.f2 0]
  have e := fold_mx x.f2 0
  rw [depT_eq] at hd ⊢
  rw [ndType_eq] at hd
  rw [show (0 : Int) = ((0 : Nat) : Int) from rfl, e, w64 (by omega) (by omega)]
  omega
/-- Is a type valid? -/
def vT (x : S33) : Bool := decide (ndType x ≤ 24) && (decide (depT x ≤ 7) && formT x)
theorem spec_IsValidType_ev (x : S33) (hs : SmType x) (hn : ndType x ≤ 1048577) : Ev (fun k => spec_IsValidType.f k x.f0 x.f1 x.f2) (vT x) := by
  obtain ⟨r, h1, h2, h3, _⟩ := spec_l3Left_ev x hs 24 (by decide) (by decide)
  simp only [spec_IsValidType.f, vT]
  refine Ev.bind h1 ?_
  by_cases hc : ndType x ≤ 24
  · have := h2 (by omega)
    rw [decide_eq_true hc, Bool.true_and]
    refine Ev.pos (by omega) (Ev.bind (spec_DepthOfType_ev x hs hn) ?_)
    refine Ev.cases (fun hd => ?_) (fun hd => ?_)
    · rw [decide_eq_true (by omega), Bool.true_and]
      exact Ev.bind (spec_l3Form_ev x hs) (Ev.now _)
    · rw [decide_eq_false (by omega)]; exact Ev.now _
  · have := h3 (by omega)
    rw [decide_eq_false hc]
    exact Ev.neg (by omega) (Ev.now _)
theorem impl_IsValidType_ev (x : S33) (hs : SmType x) (hn : ndType x ≤ 1048577) : Ev (fun k => impl_IsValidType.f k x.f0 x.f1 x.f2) (vT x) := by
  simp only [impl_IsValidType.f, vT]
  refine Ev.bind (impl_typeForm_ev x hs false 1 (by decide) (by decide)) ?_
  have e := tfT_iff x false 1
  refine Ev.cases (fun h => ?_) (fun h => ?_)
  · obtain ⟨h1, _, h2⟩ := e.1 h
    refine Ev.bind (impl_SizeOfType_ev x hs hn) (Ev.const ?_)
    rw [h1, decide_eq_true (by omega : depT x ≤ 7)]
    simp
    omega
  · refine Ev.const ?_
    cases hf : formT x
    · simp
    · have : ¬ depT x ≤ 7 := fun hd => h (e.2 ⟨hf, fun hp => absurd hp (by decide), by omega⟩)
      rw [decide_eq_false this]; simp
end Go.Proofs.YtgplgphchdgedaaDoor.Px
end
