/- The text of a term: a kind of node. No condition beyond the sizes named. -/
import Derived.Test.YtgplgphchdgedaaDoorZFormatTermSh
import Derived.Test.YtgplgphchdgedaaDoorZFormatTermPx0M
import Derived.Test.YtgplgphchdgedaaDoorZFormatTermPx21M
import Derived.Test.YtgplgphchdgedaaDoorZFormatTermPx24M
import Derived.Test.YtgplgphchdgedaaDoorZFormatTermPx26M
import Derived.Test.YtgplgphchdgedaaDoorZFormatTermPxTermPM
import Derived.Laws.EntriesVeiled
import Derived.Shelf.Strings.BuilderK
import Derived.Test.YtgplgphchdgedaaDoorZFormatTermWLastM
import Derived.Tactics2
import Derived.BigCall
section
namespace Go.Proofs.YtgplgphchdgedaaDoor.Px
open Go.RowKit Go.Proofs.YtgplgphchdgedaaDoorW.PrintWords Go.Proofs.YtgplgphchdgedaaDoorW.PrintLast Go.Proofs.YtgplgphchdgedaaDoorW.PrintMore Go.Proofs.YtgplgphchdgedaaDoor.Pl Go.Proofs.YtgplgphchdgedaaDoor.Ext
set_option linter.unusedVariables false
set_option linter.unusedSimpArgs false
def mkB (i : Nat) : ByteArray := if i = 0 then (⟨#[123]⟩ : ByteArray) else (⟨#[44]⟩ : ByteArray)
theorem rec_split (ls : List ByteArray) : ∀ (m : List UInt8) (ts : List (List UInt8)) (i : Nat), i ≤ ls.length → i ≤ ts.length → recL m ls ts = recL m (ls.take i) (ts.take i) ++ recL (if i = 0 then m else [44]) (ls.drop i) (ts.drop i) := by
  induction ls with
  | nil => intro m ts i h _; obtain rfl : i = 0 := by simpa using h
           simp [recL]
  | cons s ls ih =>
    intro m ts i h h2
    cases i with
    | zero => simp [recL]
    | succ i =>
      cases ts with
      | nil => simp at h2
      | cons t ts =>
        have := ih [44] ts i (by simpa using h) (by simpa using h2)
        simp only [List.take_succ_cons, List.drop_succ_cons, recL, this, List.append_assoc]
        simp
theorem rec_one (ls : List ByteArray) (ts : List (List UInt8)) (m : List UInt8) (i : Nat) (h : i < ls.length) (h2 : i < ts.length) : recL m (ls.drop i) (ts.drop i) = m ++ bb (ls.getD i ByteArray.empty) ++ [61] ++ gt ts i ++ recL [44] (ls.drop (i + 1)) (ts.drop (i + 1)) := by
  rw [List.drop_eq_getElem_cons h, List.drop_eq_getElem_cons h2]
  simp [recL, gt, List.getD_eq_getElem?_getD, h, h2]
theorem rec_step (m : List UInt8) (ls : List ByteArray) (xs : List S36) (i : Nat) (h : i < ls.length) (h2 : i + 1 ≤ xs.length) : recL m (ls.take (i + 1)) ((xs.map txL).take (i + 1)) = recL m (ls.take i) ((xs.map txL).take i) ++ (if i = 0 then m else [44]) ++ bb (ls.getD i ByteArray.empty) ++ [61] ++ txL (xs.getD i z36) := by
  have hm : i < (xs.map txL).length := by rw [List.length_map]; omega
  have h3 := rec_split (ls.take (i + 1)) m ((xs.map txL).take (i + 1)) i (by rw [List.length_take]; omega) (by rw [List.length_take]; omega)
  rw [List.take_take, List.take_take, Nat.min_eq_left (by omega)] at h3
  rw [h3, rec_one _ _ _ i (by rw [List.length_take]; omega) (by rw [List.length_take]; omega)]
  have e1 : (ls.take (i + 1)).getD i ByteArray.empty = ls.getD i ByteArray.empty := by simp [List.getD_eq_getElem?_getD, List.getElem?_take]
  have e2 : gt ((xs.map txL).take (i + 1)) i = txL (xs.getD i z36) := by rw [← gt_map (by omega : i < xs.length)]; simp [gt, List.getD_eq_getElem?_getD, List.getElem?_take]
  rw [e1, e2, List.drop_eq_nil_of_le (by rw [List.length_take]; omega)]
  simp [recL, List.append_assoc]
theorem rec_le (m : List UInt8) (ls : List ByteArray) (xs : List S36) (i : Nat) (h : i < ls.length) (h2 : i + 1 ≤ xs.length) : (recL m (ls.take i) ((xs.map txL).take i) ++ (if i = 0 then m else [44]) ++ bb (ls.getD i ByteArray.empty) ++ [61] ++ txL (xs.getD i z36)).length ≤ (recL m ls (xs.map txL)).length := by
  have hm : i < (xs.map txL).length := by rw [List.length_map]; omega
  rw [← rec_step m ls xs i h h2, rec_split ls m (xs.map txL) (i + 1) (by omega) (by omega), List.length_append]
  omega
theorem mkB_bb (i : Nat) : bb (mkB i) = if i = 0 then [123] else [44] := by unfold mkB bb; split <;> rfl
def tabX.T7 : Bool × List (List Nat × List Nat) := (true, [([], []), ([], []), ([1], [1]), ([2], [2]), ([3], [3]), ([4], [4]), ([0, 5], [0, 5])])
def tabX.B7 : List Nat := [0, 0, 2, 6, 14, 30, 63]
theorem tabX.tab7 : rtab .any (opsOf Tryd.f34 7) = tabX.T7 := by kernel_rfl
theorem tabX.bits7 : waitsOk tabX.T7.2 tabX.B7 = true := by kernel_rfl
def tabX.T9 : Bool × List (List Nat × List Nat) := (true, [([], []), ([], []), ([1], [1]), ([2], [2]), ([3], [3]), ([4], [4]), ([5], [5]), ([0, 6, 5], [0, 6])])
def tabX.B9 : List Nat := [0, 0, 2, 6, 14, 30, 62, 127]
theorem tabX.tab9 : rtab .any (opsOf Tryd.f34 9) = tabX.T9 := by kernel_rfl
theorem tabX.bits9 : waitsOk tabX.T9.2 tabX.B9 = true := by kernel_rfl
def tabX.T11 : Bool × List (List Nat × List Nat) := (true, [([], []), ([], []), ([1], [1]), ([2], [2]), ([3], [3]), ([4], [4]), ([5], [5]), ([0, 6, 5], [0, 6])])
def tabX.B11 : List Nat := [0, 0, 2, 6, 14, 30, 62, 127]
theorem tabX.tab11 : rtab .any (opsOf Tryd.f34 11) = tabX.T11 := by kernel_rfl
theorem tabX.bits11 : waitsOk tabX.T11.2 tabX.B11 = true := by kernel_rfl
def tabX.T13 : Bool × List (List Nat × List Nat) := (true, [([], []), ([], []), ([1], [1]), ([2], [2]), ([3], [3]), ([4], [4]), ([0, 5], [0, 5])])
def tabX.B13 : List Nat := [0, 0, 2, 6, 14, 30, 63]
theorem tabX.tab13 : rtab .any (opsOf Tryd.f34 13) = tabX.T13 := by kernel_rfl
theorem tabX.bits13 : waitsOk tabX.T13.2 tabX.B13 = true := by kernel_rfl
def tabX.T31 : Bool × List (List Nat × List Nat) := (true, [([], []), ([], []), ([1], [1]), ([2], [2]), ([3], [3]), ([4], [4]), ([0, 5, 4], [0, 5])])
def tabX.B31 : List Nat := [0, 0, 2, 6, 14, 30, 63]
theorem tabX.tab31 : rtab .any (opsOf Tryd.f34 31) = tabX.T31 := by kernel_rfl
theorem tabX.bits31 : waitsOk tabX.T31.2 tabX.B31 = true := by kernel_rfl
def tabX.T43 : Bool × List (List Nat × List Nat) := (true, [([], []), ([], []), ([1], [1]), ([2], [2]), ([3], [3]), ([4], [4]), ([5], [5]), ([], []), ([7], [7]), ([8], [8]), ([9], [9]), ([6, 10], [6, 10]), ([11], [11]), ([0, 12, 10], [0, 12])])
def tabX.B43 : List Nat := [0, 0, 2, 6, 14, 30, 62, 0, 128, 384, 896, 2046, 4094, 8191]
theorem tabX.tab43 : rtab .any (opsOf Tryd.f34 43) = tabX.T43 := by kernel_rfl
theorem tabX.bits43 : waitsOk tabX.T43.2 tabX.B43 = true := by kernel_rfl
set_option maxHeartbeats 8000000 in
set_option maxRecDepth 100000 in
theorem text_k0 (x : S36) (ih : ∀ y ∈ x.f5, TextOK y) (hg : GoodE x) (hk : x.f0 = 1 ∨ x.f0 = 2 ∨ x.f0 = 3 ∨ x.f0 = 12 ∨ x.f0 = 7 ∨ x.f0 = 13 ∨ x.f0 = 4 ∨ x.f0 = 5 ∨ x.f0 = 8 ∨ x.f0 = 15 ∨ x.f0 = 16 ∨ x.f0 = 6 ∨ x.f0 = 9 ∨ x.f0 = 14 ∨ x.f0 = 10 ∨ x.f0 = 11) : TextOK x := by
  intro ad0 w0 w b l hT hL hB hb hl
  have HX := am ih
  obtain ⟨hmany, h4, h5, hfi, hty, hnm, hts⟩ : manyL x.f0 ≤ x.f5.length ∧ (x.f0 = 4 → x.f5.length = 1 ∨ x.f5.length = 2) ∧ (x.f0 = 5 → x.f5.length = x.f4.length ∧ x.f4.length ≤ 1048576) ∧ (x.f0 = 2 → impl_FormatInt.f x.f2 = some (itB x.f2)) ∧ (x.f0 = 7 ∨ x.f0 = 13 → ∃ k, impl_typeText.f k x.f3.f0 x.f3.f1 x.f3.f2 = some (txT x.f3)) ∧ x.f1.size ≤ 1048576 ∧ (txT x.f3).size ≤ 1073741824 := by
    cases hg; exact ⟨by assumption, by assumption, by assumption, by assumption, by assumption, by assumption, by assumption⟩
  have HT := am hT; have HLD := am hL; have HB := am hB; have HW := am hb; have HN := am (Below.refl w.heap.size w); have HL := am hl; have HMA := am hmany; have H4 := am h4; have H5 := am h5; have HFI := am hfi; have HTY := am hty; have HNM := am hnm; have HTS := am hts; have HKD := am hk
  obtain ⟨A4, c4, A5, c5, A6, c6, A7, c7, hp, h4, h5, h6, h7⟩ := hT
  have HP := am hp; have HR4 := am h4; have HR5 := am h5; have HR6 := am h6; have HR7 := am h7
  clear ih hg hL hB hb hl hmany hfi hty hnm hts hk hp h4 h5 h6 h7
  have hmf : ∀ (fn : Fn) (first cap : Array Value) (w : World), (Instr.makeFunc fn first cap).run Tryd.prog w = .ok (.func fn first cap) w := fun _ _ _ _ => rfl
  go_enter Tryd.func34, Tryd.ntmps34
  have hBW0 := HW
  go_upto_region 5 with (first | ((with_reducible refine gate_dst (N := 2) rfl ?_); refine box_event ?hg (N := 2) ?hd (cs := #[.pointer (some ad0)]) (t := 59) ?hr ?_; (case hd => rfl); (case hg => rfl); (case hr => exact hrw); intro be hg w1 hbox hb_; skip; replace HB := am (HB.out.below hb_); replace HW := am (below_step HW.out hb_); have HG_ := am (show w.heap.size ≤ be by rw [hg]; exact below_size HN.out); replace HN := am (below_step HN.out hb_); have HBE := am hbox; clear HG_; clear hg hbox hb_) | ((with_reducible refine gate_dst (N := 3) rfl ?_); refine box_event ?hg (N := 3) ?hd (cs := #[.pointer (some ⟨b, 0, none⟩)]) (t := 61) ?hr ?_; (case hd => rfl); (case hg => rfl); (case hr => exact hrw); intro bo hg w2 hbox hb_; have mHBE := am (blk_below HBE.out hb_); have nHBE := am (show be ≠ bo by have := blk_lt HBE.out; omega); clear HBE; have HBE := mHBE; clear mHBE; replace HB := am (HB.out.below hb_); replace HW := am (below_step HW.out hb_); have HG_ := am (show w.heap.size ≤ bo by rw [hg]; exact below_size HN.out); replace HN := am (below_step HN.out hb_); have HBO := am hbox; clear HG_ nHBE; clear hg hbox hb_) | ((with_reducible refine gate_dst (N := 4) rfl ?_); refine box_event ?hg (N := 4) ?hd (cs := #[.nilFunc]) (t := 73) ?hr ?_; (case hd => rfl); (case hg => rfl); (case hr => exact hrw); intro bp hg w3 hbox hb_; have mHBE := am (blk_below HBE.out hb_); have nHBE := am (show be ≠ bp by have := blk_lt HBE.out; omega); clear HBE; have HBE := mHBE; clear mHBE; have mHBO := am (blk_below HBO.out hb_); have nHBO := am (show bo ≠ bp by have := blk_lt HBO.out; omega); clear HBO; have HBO := mHBO; clear mHBO; replace HB := am (HB.out.below hb_); replace HW := am (below_step HW.out hb_); have HG_ := am (show w.heap.size ≤ bp by rw [hg]; exact below_size HN.out); replace HN := am (below_step HN.out hb_); have HBP0 := am hbox; have hx4 : w3.cell? ⟨bp, 0, none⟩ = some .nilFunc := (blk_cell hbox 0).trans rfl; have hf4 := blk_frozen hbox 0; clear hg hbox hb_) | ((with_reducible refine gate_store (t := 73) (p := 4) rfl ?_); refine store_event (t := 73) (p := 4) (v := ?vo_w4) (w1 := (w3.setCell ⟨bp, 0, none⟩ (.func (.func 41) #[] #[.pointer (some ⟨bo, 0, none⟩)]))) ?hg ?ho ?hn ?hr ?_; (case ho => rfl); (case hg => rfl); (case hn => rfl); (case hr => exact hrw); intro w4 hw; have mHBE := am (show w4.heap[be]? = some (.cells #[.pointer (some ad0)] 59 (0, 0)) by rw [hw]; exact blk_far HBE.out nHBE.out _); clear HBE nHBE; have HBE := mHBE; clear mHBE; have mHBO := am (show w4.heap[bo]? = some (.cells #[.pointer (some ⟨b, 0, none⟩)] 61 (0, 0)) by rw [hw]; exact blk_far HBO.out nHBO.out _); clear HBO nHBO; have HBO := mHBO; clear mHBO; replace HB := am (show Bl w0 b l w4 by rw [hw]; exact HB.out.set HBP0.out (by decide) (by decide) 0 _); replace HW := am (show Below w0.heap.size w0 w4 by rw [hw]; exact below_set HW.out (Nat.le_trans (below_size hBW0.out) HG_.out)); replace HN := am (show Below w.heap.size w w4 by rw [hw]; exact below_set HN.out HG_.out); have HBP := am (show w4.heap[bp]? = some (.cells #[.func (.func 41) #[] #[.pointer (some ⟨bo, 0, none⟩)]] 73 (0, 0)) by rw [hw]; exact blk_put (cs := #[.nilFunc]) HBP0.out 0 _ rfl); clear hw HBP0 HG_ hx4 hf4) | ((with_reducible refine gate_dst (N := 5) rfl ?_); refine box_event ?hg (N := 5) ?hd (cs := #[.nilFunc]) (t := 74) ?hr ?_; (case hd => rfl); (case hg => rfl); (case hr => exact hrw); intro ba hg w5 hbox hb_; have mHBE := am (blk_below HBE.out hb_); have nHBE := am (show be ≠ ba by have := blk_lt HBE.out; omega); clear HBE; have HBE := mHBE; clear mHBE; have mHBO := am (blk_below HBO.out hb_); have nHBO := am (show bo ≠ ba by have := blk_lt HBO.out; omega); clear HBO; have HBO := mHBO; clear mHBO; have mHBP := am (blk_below HBP.out hb_); have nHBP := am (show bp ≠ ba by have := blk_lt HBP.out; omega); clear HBP; have HBP := mHBP; clear mHBP; replace HB := am (HB.out.below hb_); replace HW := am (below_step HW.out hb_); have HG_ := am (show w.heap.size ≤ ba by rw [hg]; exact below_size HN.out); replace HN := am (below_step HN.out hb_); have HBA0 := am hbox; have hx5 : w5.cell? ⟨ba, 0, none⟩ = some .nilFunc := (blk_cell hbox 0).trans rfl; have hf5 := blk_frozen hbox 0; clear hg hbox hb_) | ((with_reducible refine gate_store (t := 74) (p := 5) rfl ?_); refine store_event (t := 74) (p := 5) (v := ?vo_w6) (w1 := (w5.setCell ⟨ba, 0, none⟩ (.func (.func 43) #[] #[.pointer (some ⟨be, 0, none⟩), .pointer (some ⟨bo, 0, none⟩)]))) ?hg ?ho ?hn ?hr ?_; (case ho => rfl); (case hg => rfl); (case hn => rfl); (case hr => exact hrw); intro w6 hw; have mHBE := am (show w6.heap[be]? = some (.cells #[.pointer (some ad0)] 59 (0, 0)) by rw [hw]; exact blk_far HBE.out nHBE.out _); clear HBE nHBE; have HBE := mHBE; clear mHBE; have mHBO := am (show w6.heap[bo]? = some (.cells #[.pointer (some ⟨b, 0, none⟩)] 61 (0, 0)) by rw [hw]; exact blk_far HBO.out nHBO.out _); clear HBO nHBO; have HBO := mHBO; clear mHBO; have mHBP := am (show w6.heap[bp]? = some (.cells #[.func (.func 41) #[] #[.pointer (some ⟨bo, 0, none⟩)]] 73 (0, 0)) by rw [hw]; exact blk_far HBP.out nHBP.out _); clear HBP nHBP; have HBP := mHBP; clear mHBP; replace HB := am (show Bl w0 b l w6 by rw [hw]; exact HB.out.set HBA0.out (by decide) (by decide) 0 _); replace HW := am (show Below w0.heap.size w0 w6 by rw [hw]; exact below_set HW.out (Nat.le_trans (below_size hBW0.out) HG_.out)); replace HN := am (show Below w.heap.size w w6 by rw [hw]; exact below_set HN.out HG_.out); have HBA := am (show w6.heap[ba]? = some (.cells #[.func (.func 43) #[] #[.pointer (some ⟨be, 0, none⟩), .pointer (some ⟨bo, 0, none⟩)]] 74 (0, 0)) by rw [hw]; exact blk_put (cs := #[.nilFunc]) HBA0.out 0 _ rfl); clear hw HBA0 HG_ hx5 hf5))
  have HK := am (Kp.below (Kp.refl b w) HN.out)
  clear hmf HN hBW0
  have hxp : w6.cell? ⟨bp, 0, none⟩ = some (.func (.func 41) #[] #[.pointer (some ⟨bo, 0, none⟩)]) := (blk_cell HBP.out 0).trans rfl
  have hxa : w6.cell? ⟨ba, 0, none⟩ = some (.func (.func 43) #[] #[.pointer (some ⟨be, 0, none⟩), .pointer (some ⟨bo, 0, none⟩)]) := (blk_cell HBA.out 0).trans rfl
  have hxe : w6.cell? ⟨be, 0, none⟩ = some (.pointer (some ad0)) := (blk_cell HBE.out 0).trans rfl
  have hk := HKD.out
  clear HKD
  rcases hk with hk | hk
  · have HKx := am hk
    have hc0 : w6.cell? ad0 = some (.int .i64 1) := by have := pw_cell_below HW.out HP.out.1; rwa [hk] at this
    clear hk
    have HF := am (show l ++ txL x = l ++ (bb x.f1) by rw [txL_eq]; unfold bodyL; simp [HKx.out, gt_map, bb, List.append_assoc])
    replace HL := am (show (l ++ (bb x.f1)).length ≤ 140737488355328 by rw [← HF.out, List.length_append]; exact HL.out)
    go_wp2
    clear hxp hxa hxe hc0
    replace HBE := am (blk_drew HBE.out)
    replace HBO := am (blk_drew HBO.out)
    replace HBP := am (blk_drew HBP.out)
    replace HBA := am (blk_drew HBA.out)
    replace HB := am (HB.out.below (below_drew1 (Below.refl _ _)))
    replace HW := am (below_drew1 HW.out)
    replace HK := am (HK.out.below (below_drew1 (Below.refl _ _)))
    refine start_ (n := 7) (S := fun w' => w'.cell? ⟨bp, 0, none⟩ = some (.func (.func 41) #[] #[.pointer (some ⟨bo, 0, none⟩)]) ∧ w'.cell? ⟨be, 0, none⟩ = some (.pointer (some ad0)) ∧ w'.cell? ⟨ad0.block, ad0.off + 1, none⟩ = some (.string x.f1)) (ds := []) #[false,false,false,false,false,false,false] kr rfl rfl ⟨(blk_cell HBP.out 0).trans rfl, (blk_cell HBE.out 0).trans rfl, pw_cell_below HW.out HP.out.2.1⟩ (fun hHeld => ?_); refine with_tabW tabX.tab7 tabX.bits7 (fun HT_ HW_ => ?_)
    generalize w6.drew = w7 at HBE HBO HBP HBA HB HW HK hHeld ⊢
    refine take_ (i := 0) (N := some 21) (v := ?_) (a' := ?_) (bm 7 1) rfl rfl (take_ofW HT_.out HW_.out kr) qi (Or.inl ⟨by rfl, ?_⟩) hHeld ?_ ?_
    rotate_left
    · rintro w' ⟨s0, s1, s2⟩
      go_simp
      with_reducible rfl
    rotate_left
    · simp only [sx]
      rfl
    refine take_ (i := 1) (N := some 22) (v := ?_) (a' := ?_) (bm 7 3) rfl rfl (take_ofW HT_.out HW_.out kr) qi (Or.inl ⟨by rfl, ?_⟩) hHeld ?_ ?_
    rotate_left
    · rintro w' ⟨s0, s1, s2⟩
      go_simp
      with_reducible rfl
    rotate_left
    · simp only [sx]
      rfl
    refine pure_ (i := 2) (N := some 23) (v := ?_) (a' := ?_) (bm 7 7) rfl rfl (any_of HT_.out kr) qi (Or.inl ⟨by rfl, ?_⟩) ?_ ?_
    rotate_left
    · intro w'
      go_simp
      try with_reducible rfl
    rotate_left
    · simp only [sx]
      rfl
    refine pure_ (i := 3) (N := some 24) (v := ?_) (a' := ?_) (bm 7 15) rfl rfl (any_of HT_.out kr) qi (Or.inl ⟨by rfl, ?_⟩) ?_ ?_
    rotate_left
    · intro w'
      go_simp
      try with_reducible rfl
    rotate_left
    · simp only [sx]
      rfl
    refine take_ (i := 4) (N := some 25) (v := ?_) (a' := ?_) (bm 7 31) rfl rfl (take_ofW HT_.out HW_.out kr) qi (Or.inl ⟨by rfl, ?_⟩) hHeld ?_ ?_
    rotate_left
    · rintro w' ⟨s0, s1, s2⟩
      go_simp
      with_reducible rfl
    rotate_left
    · simp only [sx]
      rfl
    refine one_ (i := 5) (N := some 26) (bm 7 63) rfl rfl (one_of HT_.out kr) (by decide) (fun K hK => ?_)
    refine value_ (w1 := ?_) (v := ?_) (by rfl) rfl ?_ ?_
    rotate_left 2
    · go_simp
      constructor
      · rfl
      · rfl
    refine hK.out _ _ ⟨(blk_cell (blk_alloc HBP.out _) 0).trans rfl, (blk_cell (blk_alloc HBE.out _) 0).trans rfl, pw_cell_below (below_alloc HW.out _) HP.out.2.1⟩ (fun hHeld => ?_)
    clear hK K
    refine norm_ (a' := ?_) ?_ ?_
    rotate_left
    · show Act.put _ (some 26) _ = _
      simp only [sx]
      rfl
    refine one_ (i := 6) (N := some 27) (bm 7 127) rfl rfl (one_of HT_.out kr) (by decide) (fun K hK => ?_)
    refine goesC1_ 21 rfl Tryd.func41 kr rfl #[.slice (some ⟨w7.heap.size, 0, none⟩) 1 1, .pointer (some ⟨bo, 0, none⟩)] (by rfl) rfl rfl mpw ?_
    refine (putX w0 b bo [x.f1] (bb x.f1) _ w7 (by simp [cat, bb]) (by simp) HB.out HW.out HBO.out (by have := HL.out; simp only [List.length_append] at this ⊢; omega)).mono ?_
    rintro e w8 ⟨rfl, hB, hb, hk⟩
    refine ⟨_, rfl, ?_⟩
    have mHBE := am (hk.box HB.out HBE.out (by decide) (by decide))
    have mHBO := am (hk.box HB.out HBO.out (by decide) (by decide))
    have mHBP := am (hk.box HB.out HBP.out (by decide) (by decide))
    have mHBA := am (hk.box HB.out HBA.out (by decide) (by decide))
    replace HK := am (HK.out.trans hk)
    clear HB HW HBE HBO HBP HBA
    have HBE := mHBE
    have HBO := mHBO
    have HBP := mHBP
    have HBA := mHBA
    have HB := am hB; have HW := am hb
    clear hB hb hk mHBE mHBO mHBP mHBA
    refine hK.out _ _ ⟨(blk_cell HBP.out 0).trans rfl, (blk_cell HBE.out 0).trans rfl, pw_cell_below HW.out HP.out.2.1⟩ (fun hHeld => ?_)
    clear hK K
    refine norm_ (a' := ?_) ?_ ?_
    rotate_left
    · show Act.put _ (some 27) _ = _
      simp only [sx]
      rfl
    refine done_ (done_of HT_.out kr) ?_
    clear HT_ HW_
    clear hHeld
    try go_wp2
    (first | go_ret | go_end0 | refine bodyPost_ret (results_none rfl _ _ _) rfl ?_)
    exact ⟨rfl, by rw [HF.out]; exact HB.out, HW.out, HK.out⟩
  rcases hk with hk | hk
  · have HKx := am hk
    have hc0 : w6.cell? ad0 = some (.int .i64 2) := by have := pw_cell_below HW.out HP.out.1; rwa [hk] at this
    clear hk
    have HF := am (show l ++ txL x = l ++ bb (itB x.f2) by rw [txL_eq]; unfold bodyL; simp [HKx.out, gt_map, bb, List.append_assoc])
    replace HL := am (show (l ++ bb (itB x.f2)).length ≤ 140737488355328 by rw [← HF.out, List.length_append]; exact HL.out)
    have HFI2 := am (HFI.out HKx.out)
    go_wp2
    clear hxp hxa hxe hc0
    replace HBE := am (blk_drew HBE.out)
    replace HBO := am (blk_drew HBO.out)
    replace HBP := am (blk_drew HBP.out)
    replace HBA := am (blk_drew HBA.out)
    replace HB := am (HB.out.below (below_drew1 (Below.refl _ _)))
    replace HW := am (below_drew1 HW.out)
    replace HK := am (HK.out.below (below_drew1 (Below.refl _ _)))
    refine start_ (n := 8) (S := fun w' => w'.cell? ⟨bp, 0, none⟩ = some (.func (.func 41) #[] #[.pointer (some ⟨bo, 0, none⟩)]) ∧ w'.cell? ⟨be, 0, none⟩ = some (.pointer (some ad0)) ∧ w'.cell? ⟨ad0.block, ad0.off + 2, none⟩ = some (.int .i64 x.f2)) (ds := []) #[false,false,false,false,false,false,false,false] kr rfl rfl ⟨(blk_cell HBP.out 0).trans rfl, (blk_cell HBE.out 0).trans rfl, pw_cell_below HW.out HP.out.2.2.1⟩ (fun hHeld => ?_); refine with_tabW tabX.tab9 tabX.bits9 (fun HT_ HW_ => ?_)
    generalize w6.drew = w7 at HBE HBO HBP HBA HB HW HK hHeld ⊢
    refine take_ (i := 0) (N := some 30) (v := ?_) (a' := ?_) (bm 8 1) rfl rfl (take_ofW HT_.out HW_.out kr) qi (Or.inl ⟨by rfl, ?_⟩) hHeld ?_ ?_
    rotate_left
    · rintro w' ⟨s0, s1, s2⟩
      go_simp
      with_reducible rfl
    rotate_left
    · simp only [sx]
      rfl
    refine take_ (i := 1) (N := some 31) (v := ?_) (a' := ?_) (bm 8 3) rfl rfl (take_ofW HT_.out HW_.out kr) qi (Or.inl ⟨by rfl, ?_⟩) hHeld ?_ ?_
    rotate_left
    · rintro w' ⟨s0, s1, s2⟩
      go_simp
      with_reducible rfl
    rotate_left
    · simp only [sx]
      rfl
    refine pure_ (i := 2) (N := some 32) (v := ?_) (a' := ?_) (bm 8 7) rfl rfl (any_of HT_.out kr) qi (Or.inl ⟨by rfl, ?_⟩) ?_ ?_
    rotate_left
    · intro w'
      go_simp
      try with_reducible rfl
    rotate_left
    · simp only [sx]
      rfl
    refine pure_ (i := 3) (N := some 33) (v := ?_) (a' := ?_) (bm 8 15) rfl rfl (any_of HT_.out kr) qi (Or.inl ⟨by rfl, ?_⟩) ?_ ?_
    rotate_left
    · intro w'
      go_simp
      try with_reducible rfl
    rotate_left
    · simp only [sx]
      rfl
    refine take_ (i := 4) (N := some 34) (v := ?_) (a' := ?_) (bm 8 31) rfl rfl (take_ofW HT_.out HW_.out kr) qi (Or.inl ⟨by rfl, ?_⟩) hHeld ?_ ?_
    rotate_left
    · rintro w' ⟨s0, s1, s2⟩
      go_simp
      with_reducible rfl
    rotate_left
    · simp only [sx]
      rfl
    refine one_ (i := 5) (N := some 35) (bm 8 63) rfl rfl (one_of HT_.out kr) (by decide) (fun K hK => ?_)
    refine goes_ Tryd.func46 kr rfl #[.int .i64 x.f2] (by rfl) rfl rfl mpw ?_
    refine (impl_FormatInt.calls x.f2 _ w7 (Laid_below HLD.out HW.out) HFI2.out).mono ?_
    rintro e w8 ⟨rfl, hb⟩
    refine ⟨_, rfl, ?_⟩
    replace HBE := am (blk_below HBE.out hb)
    replace HBO := am (blk_below HBO.out hb)
    replace HBP := am (blk_below HBP.out hb)
    replace HBA := am (blk_below HBA.out hb)
    replace HB := am (HB.out.below hb)
    replace HW := am (below_step HW.out hb)
    replace HK := am (HK.out.below hb)
    clear hb
    refine hK.out _ _ ⟨(blk_cell HBP.out 0).trans rfl, (blk_cell HBE.out 0).trans rfl, pw_cell_below HW.out HP.out.2.2.1⟩ (fun hHeld => ?_)
    clear hK K
    refine norm_ (a' := ?_) ?_ ?_
    rotate_left
    · show Act.put _ (some 35) _ = _
      simp only [sx]
      rfl
    refine one_ (i := 6) (N := some 36) (bm 8 127) rfl rfl (one_of HT_.out kr) (by decide) (fun K hK => ?_)
    refine value_ (w1 := ?_) (v := ?_) (by rfl) rfl ?_ ?_
    rotate_left 2
    · go_simp
      constructor
      · rfl
      · rfl
    refine hK.out _ _ ⟨(blk_cell (blk_alloc HBP.out _) 0).trans rfl, (blk_cell (blk_alloc HBE.out _) 0).trans rfl, pw_cell_below (below_alloc HW.out _) HP.out.2.2.1⟩ (fun hHeld => ?_)
    clear hK K
    refine norm_ (a' := ?_) ?_ ?_
    rotate_left
    · show Act.put _ (some 36) _ = _
      simp only [sx]
      rfl
    refine one_ (i := 7) (N := some 37) (bm 8 255) rfl rfl (one_of HT_.out kr) (by decide) (fun K hK => ?_)
    refine goesC1_ 30 rfl Tryd.func41 kr rfl #[.slice (some ⟨w8.heap.size, 0, none⟩) 1 1, .pointer (some ⟨bo, 0, none⟩)] (by rfl) rfl rfl mpw ?_
    refine (putX w0 b bo [(itB x.f2)] (bb (itB x.f2)) _ w8 (by simp [cat, bb]) (by simp) HB.out HW.out HBO.out (by have := HL.out; simp only [List.length_append] at this ⊢; omega)).mono ?_
    rintro e w9 ⟨rfl, hB, hb, hk⟩
    refine ⟨_, rfl, ?_⟩
    have mHBE := am (hk.box HB.out HBE.out (by decide) (by decide))
    have mHBO := am (hk.box HB.out HBO.out (by decide) (by decide))
    have mHBP := am (hk.box HB.out HBP.out (by decide) (by decide))
    have mHBA := am (hk.box HB.out HBA.out (by decide) (by decide))
    replace HK := am (HK.out.trans hk)
    clear HB HW HBE HBO HBP HBA
    have HBE := mHBE
    have HBO := mHBO
    have HBP := mHBP
    have HBA := mHBA
    have HB := am hB; have HW := am hb
    clear hB hb hk mHBE mHBO mHBP mHBA
    refine hK.out _ _ ⟨(blk_cell HBP.out 0).trans rfl, (blk_cell HBE.out 0).trans rfl, pw_cell_below HW.out HP.out.2.2.1⟩ (fun hHeld => ?_)
    clear hK K
    refine norm_ (a' := ?_) ?_ ?_
    rotate_left
    · show Act.put _ (some 37) _ = _
      simp only [sx]
      rfl
    refine done_ (done_of HT_.out kr) ?_
    clear HT_ HW_
    clear hHeld
    try go_wp2
    (first | go_ret | go_end0 | refine bodyPost_ret (results_none rfl _ _ _) rfl ?_)
    exact ⟨rfl, by rw [HF.out]; exact HB.out, HW.out, HK.out⟩
  rcases hk with hk | hk
  · have HKx := am hk
    have hc0 : w6.cell? ad0 = some (.int .i64 3) := by have := pw_cell_below HW.out HP.out.1; rwa [hk] at this
    clear hk
    have HF := am (show l ++ txL x = l ++ bb (boolB x.f2) by rw [txL_eq]; unfold bodyL; simp [HKx.out, gt_map, bb, List.append_assoc])
    replace HL := am (show (l ++ bb (boolB x.f2)).length ≤ 140737488355328 by rw [← HF.out, List.length_append]; exact HL.out)
    go_wp2
    clear hxp hxa hxe hc0
    replace HBE := am (blk_drew HBE.out)
    replace HBO := am (blk_drew HBO.out)
    replace HBP := am (blk_drew HBP.out)
    replace HBA := am (blk_drew HBA.out)
    replace HB := am (HB.out.below (below_drew1 (Below.refl _ _)))
    replace HW := am (below_drew1 HW.out)
    replace HK := am (HK.out.below (below_drew1 (Below.refl _ _)))
    refine start_ (n := 8) (S := fun w' => w'.cell? ⟨bp, 0, none⟩ = some (.func (.func 41) #[] #[.pointer (some ⟨bo, 0, none⟩)]) ∧ w'.cell? ⟨be, 0, none⟩ = some (.pointer (some ad0)) ∧ w'.cell? ⟨ad0.block, ad0.off + 2, none⟩ = some (.int .i64 x.f2)) (ds := []) #[false,false,false,false,false,false,false,false] kr rfl rfl ⟨(blk_cell HBP.out 0).trans rfl, (blk_cell HBE.out 0).trans rfl, pw_cell_below HW.out HP.out.2.2.1⟩ (fun hHeld => ?_); refine with_tabW tabX.tab11 tabX.bits11 (fun HT_ HW_ => ?_)
    generalize w6.drew = w7 at HBE HBO HBP HBA HB HW HK hHeld ⊢
    refine take_ (i := 0) (N := some 40) (v := ?_) (a' := ?_) (bm 8 1) rfl rfl (take_ofW HT_.out HW_.out kr) qi (Or.inl ⟨by rfl, ?_⟩) hHeld ?_ ?_
    rotate_left
    · rintro w' ⟨s0, s1, s2⟩
      go_simp
      with_reducible rfl
    rotate_left
    · simp only [sx]
      rfl
    refine take_ (i := 1) (N := some 41) (v := ?_) (a' := ?_) (bm 8 3) rfl rfl (take_ofW HT_.out HW_.out kr) qi (Or.inl ⟨by rfl, ?_⟩) hHeld ?_ ?_
    rotate_left
    · rintro w' ⟨s0, s1, s2⟩
      go_simp
      with_reducible rfl
    rotate_left
    · simp only [sx]
      rfl
    refine pure_ (i := 2) (N := some 42) (v := ?_) (a' := ?_) (bm 8 7) rfl rfl (any_of HT_.out kr) qi (Or.inl ⟨by rfl, ?_⟩) ?_ ?_
    rotate_left
    · intro w'
      go_simp
      try with_reducible rfl
    rotate_left
    · simp only [sx]
      rfl
    refine pure_ (i := 3) (N := some 43) (v := ?_) (a' := ?_) (bm 8 15) rfl rfl (any_of HT_.out kr) qi (Or.inl ⟨by rfl, ?_⟩) ?_ ?_
    rotate_left
    · intro w'
      go_simp
      try with_reducible rfl
    rotate_left
    · simp only [sx]
      rfl
    refine take_ (i := 4) (N := some 44) (v := ?_) (a' := ?_) (bm 8 31) rfl rfl (take_ofW HT_.out HW_.out kr) qi (Or.inl ⟨by rfl, ?_⟩) hHeld ?_ ?_
    rotate_left
    · rintro w' ⟨s0, s1, s2⟩
      go_simp
      with_reducible rfl
    rotate_left
    · simp only [sx]
      rfl
    refine one_ (i := 5) (N := some 45) (bm 8 63) rfl rfl (one_of HT_.out kr) (by decide) (fun K hK => ?_)
    refine goes_ Tryd.func47 kr rfl #[.int .i64 x.f2] (by rfl) rfl rfl mpw ?_
    refine ((impl_boolText.calls x.f2 _ w7 (impl_boolText_eq x.f2)).mono (fun e w' h => And.intro h.1 h.2.below)).mono ?_
    rintro e w8 ⟨rfl, hb⟩
    refine ⟨_, rfl, ?_⟩
    replace HBE := am (blk_below HBE.out hb)
    replace HBO := am (blk_below HBO.out hb)
    replace HBP := am (blk_below HBP.out hb)
    replace HBA := am (blk_below HBA.out hb)
    replace HB := am (HB.out.below hb)
    replace HW := am (below_step HW.out hb)
    replace HK := am (HK.out.below hb)
    clear hb
    refine hK.out _ _ ⟨(blk_cell HBP.out 0).trans rfl, (blk_cell HBE.out 0).trans rfl, pw_cell_below HW.out HP.out.2.2.1⟩ (fun hHeld => ?_)
    clear hK K
    refine norm_ (a' := ?_) ?_ ?_
    rotate_left
    · show Act.put _ (some 45) _ = _
      simp only [sx]
      rfl
    refine one_ (i := 6) (N := some 46) (bm 8 127) rfl rfl (one_of HT_.out kr) (by decide) (fun K hK => ?_)
    refine value_ (w1 := ?_) (v := ?_) (by rfl) rfl ?_ ?_
    rotate_left 2
    · go_simp
      constructor
      · rfl
      · rfl
    refine hK.out _ _ ⟨(blk_cell (blk_alloc HBP.out _) 0).trans rfl, (blk_cell (blk_alloc HBE.out _) 0).trans rfl, pw_cell_below (below_alloc HW.out _) HP.out.2.2.1⟩ (fun hHeld => ?_)
    clear hK K
    refine norm_ (a' := ?_) ?_ ?_
    rotate_left
    · show Act.put _ (some 46) _ = _
      simp only [sx]
      rfl
    refine one_ (i := 7) (N := some 47) (bm 8 255) rfl rfl (one_of HT_.out kr) (by decide) (fun K hK => ?_)
    refine goesC1_ 40 rfl Tryd.func41 kr rfl #[.slice (some ⟨w8.heap.size, 0, none⟩) 1 1, .pointer (some ⟨bo, 0, none⟩)] (by rfl) rfl rfl mpw ?_
    refine (putX w0 b bo [(boolB x.f2)] (bb (boolB x.f2)) _ w8 (by simp [cat, bb]) (by simp) HB.out HW.out HBO.out (by have := HL.out; simp only [List.length_append] at this ⊢; omega)).mono ?_
    rintro e w9 ⟨rfl, hB, hb, hk⟩
    refine ⟨_, rfl, ?_⟩
    have mHBE := am (hk.box HB.out HBE.out (by decide) (by decide))
    have mHBO := am (hk.box HB.out HBO.out (by decide) (by decide))
    have mHBP := am (hk.box HB.out HBP.out (by decide) (by decide))
    have mHBA := am (hk.box HB.out HBA.out (by decide) (by decide))
    replace HK := am (HK.out.trans hk)
    clear HB HW HBE HBO HBP HBA
    have HBE := mHBE
    have HBO := mHBO
    have HBP := mHBP
    have HBA := mHBA
    have HB := am hB; have HW := am hb
    clear hB hb hk mHBE mHBO mHBP mHBA
    refine hK.out _ _ ⟨(blk_cell HBP.out 0).trans rfl, (blk_cell HBE.out 0).trans rfl, pw_cell_below HW.out HP.out.2.2.1⟩ (fun hHeld => ?_)
    clear hK K
    refine norm_ (a' := ?_) ?_ ?_
    rotate_left
    · show Act.put _ (some 47) _ = _
      simp only [sx]
      rfl
    refine done_ (done_of HT_.out kr) ?_
    clear HT_ HW_
    clear hHeld
    try go_wp2
    (first | go_ret | go_end0 | refine bodyPost_ret (results_none rfl _ _ _) rfl ?_)
    exact ⟨rfl, by rw [HF.out]; exact HB.out, HW.out, HK.out⟩
  rcases hk with hk | hk
  · have HKx := am hk
    have hc0 : w6.cell? ad0 = some (.int .i64 12) := by have := pw_cell_below HW.out HP.out.1; rwa [hk] at this
    clear hk
    have HF := am (show l ++ txL x = l ++ (bb ⟨#[64]⟩ ++ bb x.f1) by rw [txL_eq]; unfold bodyL; simp [HKx.out, gt_map, bb, List.append_assoc])
    replace HL := am (show (l ++ (bb ⟨#[64]⟩ ++ bb x.f1)).length ≤ 140737488355328 by rw [← HF.out, List.length_append]; exact HL.out)
    go_wp2
    clear hxp hxa hxe hc0
    replace HBE := am (blk_drew HBE.out)
    replace HBO := am (blk_drew HBO.out)
    replace HBP := am (blk_drew HBP.out)
    replace HBA := am (blk_drew HBA.out)
    replace HB := am (HB.out.below (below_drew1 (Below.refl _ _)))
    replace HW := am (below_drew1 HW.out)
    replace HK := am (HK.out.below (below_drew1 (Below.refl _ _)))
    refine start_ (n := 7) (S := fun w' => w'.cell? ⟨bp, 0, none⟩ = some (.func (.func 41) #[] #[.pointer (some ⟨bo, 0, none⟩)]) ∧ w'.cell? ⟨be, 0, none⟩ = some (.pointer (some ad0)) ∧ w'.cell? ⟨ad0.block, ad0.off + 1, none⟩ = some (.string x.f1)) (ds := []) #[false,false,false,false,false,false,false] kr rfl rfl ⟨(blk_cell HBP.out 0).trans rfl, (blk_cell HBE.out 0).trans rfl, pw_cell_below HW.out HP.out.2.1⟩ (fun hHeld => ?_); refine with_tabW tabX.tab13 tabX.bits13 (fun HT_ HW_ => ?_)
    generalize w6.drew = w7 at HBE HBO HBP HBA HB HW HK hHeld ⊢
    refine take_ (i := 0) (N := some 50) (v := ?_) (a' := ?_) (bm 7 1) rfl rfl (take_ofW HT_.out HW_.out kr) qi (Or.inl ⟨by rfl, ?_⟩) hHeld ?_ ?_
    rotate_left
    · rintro w' ⟨s0, s1, s2⟩
      go_simp
      with_reducible rfl
    rotate_left
    · simp only [sx]
      rfl
    refine take_ (i := 1) (N := some 51) (v := ?_) (a' := ?_) (bm 7 3) rfl rfl (take_ofW HT_.out HW_.out kr) qi (Or.inl ⟨by rfl, ?_⟩) hHeld ?_ ?_
    rotate_left
    · rintro w' ⟨s0, s1, s2⟩
      go_simp
      with_reducible rfl
    rotate_left
    · simp only [sx]
      rfl
    refine pure_ (i := 2) (N := some 52) (v := ?_) (a' := ?_) (bm 7 7) rfl rfl (any_of HT_.out kr) qi (Or.inl ⟨by rfl, ?_⟩) ?_ ?_
    rotate_left
    · intro w'
      go_simp
      try with_reducible rfl
    rotate_left
    · simp only [sx]
      rfl
    refine pure_ (i := 3) (N := some 53) (v := ?_) (a' := ?_) (bm 7 15) rfl rfl (any_of HT_.out kr) qi (Or.inl ⟨by rfl, ?_⟩) ?_ ?_
    rotate_left
    · intro w'
      go_simp
      try with_reducible rfl
    rotate_left
    · simp only [sx]
      rfl
    refine take_ (i := 4) (N := some 54) (v := ?_) (a' := ?_) (bm 7 31) rfl rfl (take_ofW HT_.out HW_.out kr) qi (Or.inl ⟨by rfl, ?_⟩) hHeld ?_ ?_
    rotate_left
    · rintro w' ⟨s0, s1, s2⟩
      go_simp
      with_reducible rfl
    rotate_left
    · simp only [sx]
      rfl
    refine one_ (i := 5) (N := some 55) (bm 7 63) rfl rfl (one_of HT_.out kr) (by decide) (fun K hK => ?_)
    refine value_ (w1 := ?_) (v := ?_) (by rfl) rfl ?_ ?_
    rotate_left 2
    · go_simp
      constructor
      · rfl
      · rfl
    refine hK.out _ _ ⟨(blk_cell (blk_alloc HBP.out _) 0).trans rfl, (blk_cell (blk_alloc HBE.out _) 0).trans rfl, pw_cell_below (below_alloc HW.out _) HP.out.2.1⟩ (fun hHeld => ?_)
    clear hK K
    refine norm_ (a' := ?_) ?_ ?_
    rotate_left
    · show Act.put _ (some 55) _ = _
      simp only [sx]
      rfl
    refine one_ (i := 6) (N := some 56) (bm 7 127) rfl rfl (one_of HT_.out kr) (by decide) (fun K hK => ?_)
    refine goesC1_ 50 rfl Tryd.func41 kr rfl #[.slice (some ⟨w7.heap.size, 0, none⟩) 2 2, .pointer (some ⟨bo, 0, none⟩)] (by rfl) rfl rfl mpw ?_
    refine (putX w0 b bo [⟨#[64]⟩, x.f1] (bb ⟨#[64]⟩ ++ bb x.f1) _ w7 (by simp [cat, bb]) (by simp) HB.out HW.out HBO.out (by have := HL.out; simp only [List.length_append] at this ⊢; omega)).mono ?_
    rintro e w8 ⟨rfl, hB, hb, hk⟩
    refine ⟨_, rfl, ?_⟩
    have mHBE := am (hk.box HB.out HBE.out (by decide) (by decide))
    have mHBO := am (hk.box HB.out HBO.out (by decide) (by decide))
    have mHBP := am (hk.box HB.out HBP.out (by decide) (by decide))
    have mHBA := am (hk.box HB.out HBA.out (by decide) (by decide))
    replace HK := am (HK.out.trans hk)
    clear HB HW HBE HBO HBP HBA
    have HBE := mHBE
    have HBO := mHBO
    have HBP := mHBP
    have HBA := mHBA
    have HB := am hB; have HW := am hb
    clear hB hb hk mHBE mHBO mHBP mHBA
    refine hK.out _ _ ⟨(blk_cell HBP.out 0).trans rfl, (blk_cell HBE.out 0).trans rfl, pw_cell_below HW.out HP.out.2.1⟩ (fun hHeld => ?_)
    clear hK K
    refine norm_ (a' := ?_) ?_ ?_
    rotate_left
    · show Act.put _ (some 56) _ = _
      simp only [sx]
      rfl
    refine done_ (done_of HT_.out kr) ?_
    clear HT_ HW_
    clear hHeld
    try go_wp2
    (first | go_ret | go_end0 | refine bodyPost_ret (results_none rfl _ _ _) rfl ?_)
    exact ⟨rfl, by rw [HF.out]; exact HB.out, HW.out, HK.out⟩
  rcases hk with hk | hk
  · have HKx := am hk
    have hc0 : w6.cell? ad0 = some (.int .i64 7) := by have := pw_cell_below HW.out HP.out.1; rwa [hk] at this
    clear hk
    have HF := am (show l ++ txL x = l ++ (bb ⟨#[91, 58]⟩ ++ bb (txT x.f3) ++ bb ⟨#[93]⟩) by rw [txL_eq]; unfold bodyL; simp [HKx.out, gt_map, bb, List.append_assoc])
    replace HL := am (show (l ++ (bb ⟨#[91, 58]⟩ ++ bb (txT x.f3) ++ bb ⟨#[93]⟩)).length ≤ 140737488355328 by rw [← HF.out, List.length_append]; exact HL.out)
    obtain ⟨kt, htk⟩ := HTY.out (Or.inl HKx.out)
    have HTYk := am htk
    clear htk
    go_wp2
    clear hxp hxa hxe hc0
    replace HBE := am (blk_drew HBE.out)
    replace HBO := am (blk_drew HBO.out)
    replace HBP := am (blk_drew HBP.out)
    replace HBA := am (blk_drew HBA.out)
    replace HB := am (HB.out.below (below_drew1 (Below.refl _ _)))
    replace HW := am (below_drew1 HW.out)
    replace HK := am (HK.out.below (below_drew1 (Below.refl _ _)))
    refine start_ (n := 7) (S := fun w' => w'.cell? ⟨bp, 0, none⟩ = some (.func (.func 41) #[] #[.pointer (some ⟨bo, 0, none⟩)]) ∧ w'.cell? ⟨be, 0, none⟩ = some (.pointer (some ad0))) (ds := []) #[false,false,false,false,false,false,false] kr rfl rfl ⟨(blk_cell HBP.out 0).trans rfl, (blk_cell HBE.out 0).trans rfl⟩ (fun hHeld => ?_); refine with_tabW tabX.tab31 tabX.bits31 (fun HT_ HW_ => ?_)
    generalize w6.drew = w7 at HBE HBO HBP HBA HB HW HK hHeld ⊢
    refine take_ (i := 0) (N := some 108) (v := ?_) (a' := ?_) (bm 7 1) rfl rfl (take_ofW HT_.out HW_.out kr) qi (Or.inl ⟨by rfl, ?_⟩) hHeld ?_ ?_
    rotate_left
    · rintro w' ⟨s0, s1⟩
      go_simp
      with_reducible rfl
    rotate_left
    · simp only [sx]
      rfl
    refine take_ (i := 1) (N := some 109) (v := ?_) (a' := ?_) (bm 7 3) rfl rfl (take_ofW HT_.out HW_.out kr) qi (Or.inl ⟨by rfl, ?_⟩) hHeld ?_ ?_
    rotate_left
    · rintro w' ⟨s0, s1⟩
      go_simp
      with_reducible rfl
    rotate_left
    · simp only [sx]
      rfl
    refine pure_ (i := 2) (N := some 110) (v := ?_) (a' := ?_) (bm 7 7) rfl rfl (any_of HT_.out kr) qi (Or.inl ⟨by rfl, ?_⟩) ?_ ?_
    rotate_left
    · intro w'
      go_simp
      try with_reducible rfl
    rotate_left
    · simp only [sx]
      rfl
    refine pure_ (i := 3) (N := some 111) (v := ?_) (a' := ?_) (bm 7 15) rfl rfl (any_of HT_.out kr) qi (Or.inl ⟨by rfl, ?_⟩) ?_ ?_
    rotate_left
    · intro w'
      go_simp
      try with_reducible rfl
    rotate_left
    · simp only [sx]
      rfl
    refine one_ (i := 4) (N := some 112) (bm 7 31) rfl rfl (one_of HT_.out kr) (by decide) (fun K hK => ?_)
    refine goes_ Tryd.func48 kr rfl #[.pointer (some ⟨ad0.block, ad0.off + 3, none⟩)] (by rfl) rfl rfl mpw ?_
    refine (impl_typeText.calls _ ⟨ad0.block, ad0.off + 3, none⟩ x.f3.f0 A4 c4 x.f3.f1 A5 c5 x.f3.f2 _ w7 ⟨pw_cell_below HW.out HP.out.2.2.2.1, pw_cell_below HW.out HP.out.2.2.2.2.1, pw_cell_below HW.out HP.out.2.2.2.2.2.1, trivial⟩ (Kd.C_below HR4.out.1 HW.out) HR4.out.2 (Kd.C_below HR5.out.1 HW.out) HR5.out.2 HTYk.out).mono ?_
    rintro e w8 ⟨rfl, hb⟩
    refine ⟨_, rfl, ?_⟩
    replace HBE := am (blk_below HBE.out hb)
    replace HBO := am (blk_below HBO.out hb)
    replace HBP := am (blk_below HBP.out hb)
    replace HBA := am (blk_below HBA.out hb)
    replace HB := am (HB.out.below hb)
    replace HW := am (below_step HW.out hb)
    replace HK := am (HK.out.below hb)
    clear hb
    refine hK.out _ _ ⟨(blk_cell HBP.out 0).trans rfl, (blk_cell HBE.out 0).trans rfl⟩ (fun hHeld => ?_)
    clear hK K
    refine norm_ (a' := ?_) ?_ ?_
    rotate_left
    · show Act.put _ (some 112) _ = _
      simp only [sx]
      rfl
    refine one_ (i := 5) (N := some 113) (bm 7 63) rfl rfl (one_of HT_.out kr) (by decide) (fun K hK => ?_)
    refine value_ (w1 := ?_) (v := ?_) (by rfl) rfl ?_ ?_
    rotate_left 2
    · go_simp
      constructor
      · rfl
      · rfl
    refine hK.out _ _ ⟨(blk_cell (blk_alloc HBP.out _) 0).trans rfl, (blk_cell (blk_alloc HBE.out _) 0).trans rfl⟩ (fun hHeld => ?_)
    clear hK K
    refine norm_ (a' := ?_) ?_ ?_
    rotate_left
    · show Act.put _ (some 113) _ = _
      simp only [sx]
      rfl
    refine one_ (i := 6) (N := some 114) (bm 7 127) rfl rfl (one_of HT_.out kr) (by decide) (fun K hK => ?_)
    refine goesC1_ 108 rfl Tryd.func41 kr rfl #[.slice (some ⟨w8.heap.size, 0, none⟩) 3 3, .pointer (some ⟨bo, 0, none⟩)] (by rfl) rfl rfl mpw ?_
    refine (putX w0 b bo [⟨#[91, 58]⟩, (txT x.f3), ⟨#[93]⟩] (bb ⟨#[91, 58]⟩ ++ bb (txT x.f3) ++ bb ⟨#[93]⟩) _ w8 (by simp [cat, bb]) (by simp) HB.out HW.out HBO.out (by have := HL.out; simp only [List.length_append] at this ⊢; omega)).mono ?_
    rintro e w9 ⟨rfl, hB, hb, hk⟩
    refine ⟨_, rfl, ?_⟩
    have mHBE := am (hk.box HB.out HBE.out (by decide) (by decide))
    have mHBO := am (hk.box HB.out HBO.out (by decide) (by decide))
    have mHBP := am (hk.box HB.out HBP.out (by decide) (by decide))
    have mHBA := am (hk.box HB.out HBA.out (by decide) (by decide))
    replace HK := am (HK.out.trans hk)
    clear HB HW HBE HBO HBP HBA
    have HBE := mHBE
    have HBO := mHBO
    have HBP := mHBP
    have HBA := mHBA
    have HB := am hB; have HW := am hb
    clear hB hb hk mHBE mHBO mHBP mHBA
    refine hK.out _ _ ⟨(blk_cell HBP.out 0).trans rfl, (blk_cell HBE.out 0).trans rfl⟩ (fun hHeld => ?_)
    clear hK K
    refine norm_ (a' := ?_) ?_ ?_
    rotate_left
    · show Act.put _ (some 114) _ = _
      simp only [sx]
      rfl
    refine done_ (done_of HT_.out kr) ?_
    clear HT_ HW_
    clear hHeld
    try go_wp2
    (first | go_ret | go_end0 | refine bodyPost_ret (results_none rfl _ _ _) rfl ?_)
    exact ⟨rfl, by rw [HF.out]; exact HB.out, HW.out, HK.out⟩
  rcases hk with hk | hk
  · have HKx := am hk
    have hc0 : w6.cell? ad0 = some (.int .i64 13) := by have := pw_cell_below HW.out HP.out.1; rwa [hk] at this
    clear hk
    have H2 : Aside0 (manyL 13 ≤ x.f5.length) := ⟨by have := HMA.out; rwa [HKx.out] at this⟩
    replace H2 := am (show 1 ≤ x.f5.length by simpa [manyL] using H2.out)
    have g0 := gt_map (show 0 < x.f5.length by have := H2.out; omega)
    have HF := am (show l ++ txL x = l ++ bb (((((⟨#[40, 92]⟩ : ByteArray) ++ x.f1) ++ (⟨#[58]⟩ : ByteArray)) ++ txT x.f3) ++ (⟨#[46]⟩ : ByteArray)) ++ txL (x.f5.getD 0 z36) ++ bb ⟨#[41]⟩ by rw [txL_eq]; unfold bodyL; simp [HKx.out, gt_map, bb, List.append_assoc, g0])
    replace HL := am (show (l ++ bb (((((⟨#[40, 92]⟩ : ByteArray) ++ x.f1) ++ (⟨#[58]⟩ : ByteArray)) ++ txT x.f3) ++ (⟨#[46]⟩ : ByteArray)) ++ txL (x.f5.getD 0 z36) ++ bb ⟨#[41]⟩).length ≤ 140737488355328 by rw [← HF.out, List.length_append]; exact HL.out)
    clear g0
    have HL' := am (show (l ++ bb (((((⟨#[40, 92]⟩ : ByteArray) ++ x.f1) ++ (⟨#[58]⟩ : ByteArray)) ++ txT x.f3) ++ (⟨#[46]⟩ : ByteArray)) ++ txL (x.f5.getD 0 z36) ++ bb ⟨#[41]⟩).length ≤ 140737488355328 by have := HL.out; simp only [List.length_append] at this ⊢; omega)
    obtain ⟨kt, htk⟩ := HTY.out (Or.inr HKx.out)
    have HTYk := am htk
    clear htk
    have q0 : 2 + x.f1.size ≤ 9223372036854775807 := by have := HNM.out; have := HTS.out; omega
    have q0t := eq_true q0; have q0d := decide_eq_true q0; have q0n := eq_false (Nat.not_lt.2 q0)
    have q1 : 2 + x.f1.size + 1 ≤ 9223372036854775807 := by have := HNM.out; have := HTS.out; omega
    have q1t := eq_true q1; have q1d := decide_eq_true q1; have q1n := eq_false (Nat.not_lt.2 q1)
    have q2 : 2 + x.f1.size + 1 + (txT x.f3).size ≤ 9223372036854775807 := by have := HNM.out; have := HTS.out; omega
    have q2t := eq_true q2; have q2d := decide_eq_true q2; have q2n := eq_false (Nat.not_lt.2 q2)
    have q3 : 2 + x.f1.size + 1 + (txT x.f3).size + 1 ≤ 9223372036854775807 := by have := HNM.out; have := HTS.out; omega
    have q3t := eq_true q3; have q3d := decide_eq_true q3; have q3n := eq_false (Nat.not_lt.2 q3)
    go_wp2
    clear hxp hxa hxe hc0
    replace HBE := am (blk_drew HBE.out)
    replace HBO := am (blk_drew HBO.out)
    replace HBP := am (blk_drew HBP.out)
    replace HBA := am (blk_drew HBA.out)
    replace HB := am (HB.out.below (below_drew1 (Below.refl _ _)))
    replace HW := am (below_drew1 HW.out)
    replace HK := am (HK.out.below (below_drew1 (Below.refl _ _)))
    refine start_ (n := 14) (S := fun w' => w'.cell? ⟨be, 0, none⟩ = some (.pointer (some ad0)) ∧ w'.cell? ⟨ad0.block, ad0.off + 1, none⟩ = some (.string x.f1)) (ds := []) #[false,false,false,false,false,false,false,false,false,false,false,false,false,false] kr rfl rfl ⟨(blk_cell HBE.out 0).trans rfl, pw_cell_below HW.out HP.out.2.1⟩ (fun hHeld => ?_); refine with_tabW tabX.tab43 tabX.bits43 (fun HT_ HW_ => ?_)
    generalize w6.drew = w7 at HBE HBO HBP HBA HB HW HK hHeld ⊢
    refine pure_ (i := 0) (N := some 144) (v := ?_) (a' := ?_) (bm 14 1) rfl rfl (any_of HT_.out kr) qi (Or.inl ⟨by rfl, ?_⟩) ?_ ?_
    rotate_left
    · intro w'
      go_simp
      try with_reducible rfl
    rotate_left
    · simp only [sx]
      rfl
    refine take_ (i := 1) (N := some 145) (v := ?_) (a' := ?_) (bm 14 3) rfl rfl (take_ofW HT_.out HW_.out kr) qi (Or.inl ⟨by rfl, ?_⟩) hHeld ?_ ?_
    rotate_left
    · rintro w' ⟨s0, s1⟩
      go_simp
      with_reducible rfl
    rotate_left
    · simp only [sx]
      rfl
    refine pure_ (i := 2) (N := some 146) (v := ?_) (a' := ?_) (bm 14 7) rfl rfl (any_of HT_.out kr) qi (Or.inl ⟨by rfl, ?_⟩) ?_ ?_
    rotate_left
    · intro w'
      go_simp
      try with_reducible rfl
    rotate_left
    · simp only [sx]
      rfl
    refine pure_ (i := 3) (N := some 147) (v := ?_) (a' := ?_) (bm 14 15) rfl rfl (any_of HT_.out kr) qi (Or.inl ⟨by rfl, ?_⟩) ?_ ?_
    rotate_left
    · intro w'
      go_simp
      try with_reducible rfl
    rotate_left
    · simp only [sx]
      rfl
    refine take_ (i := 4) (N := some 148) (v := ?_) (a' := ?_) (bm 14 31) rfl rfl (take_ofW HT_.out HW_.out kr) qi (Or.inl ⟨by rfl, ?_⟩) hHeld ?_ ?_
    rotate_left
    · rintro w' ⟨s0, s1⟩
      go_simp
      with_reducible rfl
    rotate_left
    · simp only [sx]
      rfl
    refine pure_ (i := 5) (N := some 149) (v := ?_) (a' := ?_) (bm 14 63) rfl rfl (any_of HT_.out kr) qi (Or.inl ⟨by rfl, ?_⟩) ?_ ?_
    rotate_left
    · intro w'
      go_simp
      try with_reducible rfl
    rotate_left
    · simp only [sx]
      rfl
    refine pure_ (i := 6) (N := some 150) (v := ?_) (a' := ?_) (bm 14 127) rfl rfl (any_of HT_.out kr) qi (Or.inl ⟨by rfl, ?_⟩) ?_ ?_
    rotate_left
    · intro w'
      go_simp
      try with_reducible rfl
    rotate_left
    · simp only [sx]
      rfl
    refine take_ (i := 7) (N := some 151) (v := ?_) (a' := ?_) (bm 14 255) rfl rfl (take_ofW HT_.out HW_.out kr) qi (Or.inl ⟨by rfl, ?_⟩) hHeld ?_ ?_
    rotate_left
    · rintro w' ⟨s0, s1⟩
      go_simp
      with_reducible rfl
    rotate_left
    · simp only [sx]
      rfl
    refine pure_ (i := 8) (N := some 152) (v := ?_) (a' := ?_) (bm 14 511) rfl rfl (any_of HT_.out kr) qi (Or.inl ⟨by rfl, ?_⟩) ?_ ?_
    rotate_left
    · intro w'
      go_simp
      try with_reducible rfl
    rotate_left
    · simp only [sx]
      rfl
    refine pure_ (i := 9) (N := some 153) (v := ?_) (a' := ?_) (bm 14 1023) rfl rfl (any_of HT_.out kr) qi (Or.inl ⟨by rfl, ?_⟩) ?_ ?_
    rotate_left
    · intro w'
      go_simp
      try with_reducible rfl
    rotate_left
    · simp only [sx]
      rfl
    refine one_ (i := 10) (N := some 154) (bm 14 2047) rfl rfl (one_of HT_.out kr) (by decide) (fun K hK => ?_)
    refine goes_ Tryd.func48 kr rfl #[.pointer (some ⟨ad0.block, ad0.off + 3, none⟩)] (by rfl) rfl rfl mpw ?_
    refine (impl_typeText.calls _ ⟨ad0.block, ad0.off + 3, none⟩ x.f3.f0 A4 c4 x.f3.f1 A5 c5 x.f3.f2 _ w7 ⟨pw_cell_below HW.out HP.out.2.2.2.1, pw_cell_below HW.out HP.out.2.2.2.2.1, pw_cell_below HW.out HP.out.2.2.2.2.2.1, trivial⟩ (Kd.C_below HR4.out.1 HW.out) HR4.out.2 (Kd.C_below HR5.out.1 HW.out) HR5.out.2 HTYk.out).mono ?_
    rintro e w8 ⟨rfl, hb⟩
    refine ⟨_, rfl, ?_⟩
    replace HBE := am (blk_below HBE.out hb)
    replace HBO := am (blk_below HBO.out hb)
    replace HBP := am (blk_below HBP.out hb)
    replace HBA := am (blk_below HBA.out hb)
    replace HB := am (HB.out.below hb)
    replace HW := am (below_step HW.out hb)
    replace HK := am (HK.out.below hb)
    clear hb
    refine hK.out _ _ ⟨(blk_cell HBE.out 0).trans rfl, pw_cell_below HW.out HP.out.2.1⟩ (fun hHeld => ?_)
    clear hK K
    refine norm_ (a' := ?_) ?_ ?_
    rotate_left
    · show Act.put _ (some 154) _ = _
      simp only [sx]
      rfl
    refine pure_ (i := 11) (N := some 155) (v := ?_) (a' := ?_) (bm 14 4095) rfl rfl (any_of HT_.out kr) qi (Or.inl ⟨by rfl, ?_⟩) ?_ ?_
    rotate_left
    · intro w'
      go_simp
      try with_reducible rfl
    rotate_left
    · simp only [sx]
      rfl
    refine pure_ (i := 12) (N := some 156) (v := ?_) (a' := ?_) (bm 14 8191) rfl rfl (any_of HT_.out kr) qi (Or.inl ⟨by rfl, ?_⟩) ?_ ?_
    rotate_left
    · intro w'
      go_simp
      try with_reducible rfl
    rotate_left
    · simp only [sx]
      rfl
    refine one_ (i := 13) (N := some 157) (bm 14 16383) rfl rfl (one_of HT_.out kr) (by decide) (fun K hK => ?_)
    refine goesC1_ 144 rfl Tryd.func45 kr rfl #[.string (((((⟨#[40, 92]⟩ : ByteArray) ++ x.f1) ++ (⟨#[58]⟩ : ByteArray)) ++ txT x.f3) ++ (⟨#[46]⟩ : ByteArray)), .string ⟨#[41]⟩, .pointer (some ⟨bp, 0, none⟩), .pointer (some ⟨ba, 0, none⟩)] (by rfl) rfl rfl mpw ?_
    refine (around_go x HX.out ad0 w0 w8 b be bo bp ba _ (((((⟨#[40, 92]⟩ : ByteArray) ++ x.f1) ++ (⟨#[58]⟩ : ByteArray)) ++ txT x.f3) ++ (⟨#[46]⟩ : ByteArray)) ⟨#[41]⟩ HT.out HLD.out HB.out HW.out HBE.out HBO.out HBP.out HBA.out (by have := H2.out; omega) HL'.out).mono ?_
    rintro e w9 ⟨rfl, hB, hb, hk⟩
    refine ⟨_, rfl, ?_⟩
    have mHBE := am (hk.box HB.out HBE.out (by decide) (by decide))
    have mHBO := am (hk.box HB.out HBO.out (by decide) (by decide))
    have mHBP := am (hk.box HB.out HBP.out (by decide) (by decide))
    have mHBA := am (hk.box HB.out HBA.out (by decide) (by decide))
    replace HK := am (HK.out.trans hk)
    clear HB HW HBE HBO HBP HBA
    have HBE := mHBE
    have HBO := mHBO
    have HBP := mHBP
    have HBA := mHBA
    have HB := am hB; have HW := am hb
    clear hB hb hk mHBE mHBO mHBP mHBA
    refine hK.out _ _ ⟨(blk_cell HBE.out 0).trans rfl, pw_cell_below HW.out HP.out.2.1⟩ (fun hHeld => ?_)
    clear hK K
    refine norm_ (a' := ?_) ?_ ?_
    rotate_left
    · show Act.put _ (some 157) _ = _
      simp only [sx]
      rfl
    refine done_ (done_of HT_.out kr) ?_
    clear HT_ HW_
    clear hHeld
    try go_wp2
    (first | go_ret | go_end0 | refine bodyPost_ret (results_none rfl _ _ _) rfl ?_)
    exact ⟨rfl, by rw [HF.out]; exact HB.out, HW.out, HK.out⟩
  rcases hk with hk | hk
  · have HKx := am hk
    have hc0 : w6.cell? ad0 = some (.int .i64 4) := by have := pw_cell_below HW.out HP.out.1; rwa [hk] at this
    clear hk
    rcases H4.out HKx.out with h1 | h1
    · have H2 := am (show 1 ≤ x.f5.length by omega)
      have g0 := gt_map (show 0 < x.f5.length by have := H2.out; omega)
      have HF := am (show l ++ txL x = l ++ bb ⟨#[40, 33]⟩ ++ txL (x.f5.getD 0 z36) ++ bb ⟨#[41]⟩ by rw [txL_eq]; unfold bodyL; simp [HKx.out, gt_map, bb, List.append_assoc, h1, g0])
      replace HL := am (show (l ++ bb ⟨#[40, 33]⟩ ++ txL (x.f5.getD 0 z36) ++ bb ⟨#[41]⟩).length ≤ 140737488355328 by rw [← HF.out, List.length_append]; exact HL.out)
      clear g0
      have HL' := am (show (l ++ bb ⟨#[40, 33]⟩ ++ txL (x.f5.getD 0 z36) ++ bb ⟨#[41]⟩).length ≤ 140737488355328 by have := HL.out; simp only [List.length_append] at this ⊢; omega)
      have hc7 : w6.cell? ⟨ad0.block, ad0.off + 7, none⟩ = some (.slice A7 1 c7) := by have := pw_cell_below HW.out HP.out.2.2.2.2.2.2.2.1; rwa [h1] at this
      clear h1
      go_wp2_with (first | ((with_reducible refine gate_calleev (t := 65) rfl ?_); refine goesV1_ 65 (some 66) rfl rfl rfl Tryd.func45 kr rfl #[.string ⟨#[40, 33]⟩, .string ⟨#[41]⟩, .pointer (some ⟨bp, 0, none⟩), .pointer (some ⟨ba, 0, none⟩)] rfl mpw ?_; refine (around_go x HX.out ad0 w0 w6 b be bo bp ba _ ⟨#[40, 33]⟩ ⟨#[41]⟩ HT.out HLD.out HB.out HW.out HBE.out HBO.out HBP.out HBA.out (by have := H2.out; omega) HL'.out).mono ?_; rintro e v1 ⟨rfl, hB, hb, hk⟩; refine ⟨_, rfl, ?_⟩; have mHBE := am (hk.box HB.out HBE.out (by decide) (by decide)); have mHBO := am (hk.box HB.out HBO.out (by decide) (by decide)); have mHBP := am (hk.box HB.out HBP.out (by decide) (by decide)); have mHBA := am (hk.box HB.out HBA.out (by decide) (by decide)); replace HK := am (HK.out.trans hk); clear HB HW HBE HBO HBP HBA; have HBE := mHBE; have HBO := mHBO; have HBP := mHBP; have HBA := mHBA; have HB := am hB; have HW := am hb; clear hB hb hk mHBE mHBO mHBP mHBA))
      (first | go_ret | go_end0 | refine bodyPost_ret (results_none rfl _ _ _) rfl ?_)
      exact ⟨rfl, by rw [HF.out]; exact HB.out, HW.out, HK.out⟩
    · have H2 := am (show 2 ≤ x.f5.length by omega)
      have g0 := gt_map (show 0 < x.f5.length by have := H2.out; omega)
      have g1 := gt_map (show 1 < x.f5.length by have := H2.out; omega)
      have HF := am (show l ++ txL x = l ++ bb ⟨#[40]⟩ ++ txL (x.f5.getD 0 z36) ++ bb x.f1 ++ txL (x.f5.getD 1 z36) ++ bb ⟨#[41]⟩ by rw [txL_eq]; unfold bodyL; simp [HKx.out, gt_map, bb, List.append_assoc, h1, g0, g1])
      replace HL := am (show (l ++ bb ⟨#[40]⟩ ++ txL (x.f5.getD 0 z36) ++ bb x.f1 ++ txL (x.f5.getD 1 z36) ++ bb ⟨#[41]⟩).length ≤ 140737488355328 by rw [← HF.out, List.length_append]; exact HL.out)
      clear g0 g1
      have HL' := am (show (l ++ bb ⟨#[40]⟩ ++ txL (x.f5.getD 0 z36) ++ bb x.f1 ++ txL (x.f5.getD 1 z36) ++ bb ⟨#[41]⟩).length ≤ 140737488355328 by have := HL.out; simp only [List.length_append] at this ⊢; omega)
      have hc7 : w6.cell? ⟨ad0.block, ad0.off + 7, none⟩ = some (.slice A7 2 c7) := by have := pw_cell_below HW.out HP.out.2.2.2.2.2.2.2.1; rwa [h1] at this
      clear h1
      have hc1 : w6.cell? ⟨ad0.block, ad0.off + 1, none⟩ = some (.string x.f1) := pw_cell_below HW.out HP.out.2.1
      go_wp2_with (first | ((with_reducible refine gate_calleev (t := 67) rfl ?_); refine goesV1_ 67 (some 72) rfl rfl rfl Tryd.func44 kr rfl #[.string ⟨#[40]⟩, .string x.f1, .string ⟨#[41]⟩, .pointer (some ⟨bp, 0, none⟩), .pointer (some ⟨ba, 0, none⟩)] rfl mpw ?_; refine (between_go x HX.out ad0 w0 w6 b be bo bp ba _ ⟨#[40]⟩ x.f1 ⟨#[41]⟩ HT.out HLD.out HB.out HW.out HBE.out HBO.out HBP.out HBA.out (by have := H2.out; omega) HL'.out).mono ?_; rintro e v1 ⟨rfl, hB, hb, hk⟩; refine ⟨_, rfl, ?_⟩; have mHBE := am (hk.box HB.out HBE.out (by decide) (by decide)); have mHBO := am (hk.box HB.out HBO.out (by decide) (by decide)); have mHBP := am (hk.box HB.out HBP.out (by decide) (by decide)); have mHBA := am (hk.box HB.out HBA.out (by decide) (by decide)); replace HK := am (HK.out.trans hk); clear HB HW HBE HBO HBP HBA; have HBE := mHBE; have HBO := mHBO; have HBP := mHBP; have HBA := mHBA; have HB := am hB; have HW := am hb; clear hB hb hk mHBE mHBO mHBP mHBA))
      (first | go_ret | go_end0 | refine bodyPost_ret (results_none rfl _ _ _) rfl ?_)
      exact ⟨rfl, by rw [HF.out]; exact HB.out, HW.out, HK.out⟩
  rcases hk with hk | hk
  · have HKx := am hk
    have hc0 : w6.cell? ad0 = some (.int .i64 5) := by have := pw_cell_below HW.out HP.out.1; rwa [hk] at this
    clear hk
    obtain ⟨hn, hn2⟩ := H5.out HKx.out
    have HE := am hn; have HM := am hn2
    clear hn hn2
    have HF := am (show l ++ txL x = l ++ recL [123] x.f4 (x.f5.map txL) ++ bb ⟨#[125]⟩ by rw [txL_eq]; unfold bodyL; simp [HKx.out, gt_map, bb, List.append_assoc])
    replace HL := am (show (l ++ recL [123] x.f4 (x.f5.map txL) ++ bb ⟨#[125]⟩).length ≤ 140737488355328 by rw [← HF.out, List.length_append]; exact HL.out)
    have hc6 : w6.cell? ⟨ad0.block, ad0.off + 6, none⟩ = some (.slice A6 x.f4.length c6) := pw_cell_below HW.out HP.out.2.2.2.2.2.2.1
    go_wp2
    go_loopg [8, 9, 10, 80] x.f4.length (fun gq v8 v9 v10 v80 w' => ∃ (i : Nat), v80 = .int .i64 (i : Int) ∧ v8 = .string (mkB i) ∧ Aside0 (i + gq = x.f4.length) ∧ Aside0 (Bl w0 b (l ++ recL [123] (x.f4.take i) ((x.f5.map txL).take i)) w') ∧ Aside0 (Below w0.heap.size w0 w') ∧ Aside0 (Kp b w w') ∧ Aside0 (w'.heap[be]? = some (.cells #[.pointer (some ad0)] 59 (0, 0))) ∧ Aside0 (w'.heap[bo]? = some (.cells #[.pointer (some ⟨b, 0, none⟩)] 61 (0, 0))) ∧ Aside0 (w'.heap[bp]? = some (.cells #[.func (.func 41) #[] #[.pointer (some ⟨bo, 0, none⟩)]] 73 (0, 0))) ∧ Aside0 (w'.heap[ba]? = some (.cells #[.func (.func 43) #[] #[.pointer (some ⟨be, 0, none⟩), .pointer (some ⟨bo, 0, none⟩)]] 74 (0, 0))))
    case atStart => exact ⟨0, rfl, rfl, ⟨by omega⟩, ⟨by rw [List.take_zero]; simpa [recL] using HB.out⟩, HW, HK, HBE, HBO, HBP, HBA⟩
    case round =>
      clear HB HW HK HBE HBO HBP HBA hxp hxa hxe hc0 hc6
      obtain ⟨i, rfl, rfl, HI, HB, HW, HK, HBE, HBO, HBP, HBA⟩ := hrel
      by_cases d1 : i < x.f4.length
      case neg =>
        have d3 : decide ((i : Int) < (x.f4.length : Int)) = false := decide_eq_false (by omega)
        have d4 : ((i : Int) < (x.f4.length : Int)) = False := eq_false (by omega)
        have e1 : x.f4.take i = x.f4 := List.take_of_length_le (by omega)
        have e2 : (x.f5.map txL).take i = x.f5.map txL := List.take_of_length_le (by have := HE.out; rw [List.length_map]; omega)
        rw [e1, e2] at HB
        clear d1 e1 e2
        have hxp : wr.cell? ⟨bp, 0, none⟩ = some (.func (.func 41) #[] #[.pointer (some ⟨bo, 0, none⟩)]) := (blk_cell HBP.out 0).trans rfl
        have hxa : wr.cell? ⟨ba, 0, none⟩ = some (.func (.func 43) #[] #[.pointer (some ⟨be, 0, none⟩), .pointer (some ⟨bo, 0, none⟩)]) := (blk_cell HBA.out 0).trans rfl
        go_wp2_with (first | ((with_reducible refine gate_calleev (t := 94) rfl ?_); refine goesV1_ 94 (some 96) rfl rfl rfl Tryd.func41 kr rfl #[.slice (some ⟨wr.heap.size, 0, none⟩) 1 1, .pointer (some ⟨bo, 0, none⟩)] rfl mpw ?_; refine (putX w0 b bo [⟨#[125]⟩] (bb ⟨#[125]⟩) _ wr (by simp [cat, bb]) (by simp) HB.out HW.out HBO.out (by have := HL.out; simp only [List.length_append] at this ⊢; omega)).mono ?_; rintro e v1 ⟨rfl, hB, hb, hk⟩; refine ⟨_, rfl, ?_⟩; have mHBE := am (hk.box HB.out HBE.out (by decide) (by decide)); have mHBO := am (hk.box HB.out HBO.out (by decide) (by decide)); have mHBP := am (hk.box HB.out HBP.out (by decide) (by decide)); have mHBA := am (hk.box HB.out HBA.out (by decide) (by decide)); replace HK := am (HK.out.trans hk); clear HB HW HBE HBO HBP HBA; have HBE := mHBE; have HBO := mHBO; have HBP := mHBP; have HBA := mHBA; have HB := am hB; have HW := am hb; clear hB hb hk mHBE mHBO mHBP mHBA; clear hxp hxa; have hxp : v1.cell? ⟨bp, 0, none⟩ = some (.func (.func 41) #[] #[.pointer (some ⟨bo, 0, none⟩)]) := (blk_cell HBP.out 0).trans rfl; have hxa : v1.cell? ⟨ba, 0, none⟩ = some (.func (.func 43) #[] #[.pointer (some ⟨be, 0, none⟩), .pointer (some ⟨bo, 0, none⟩)]) := (blk_cell HBA.out 0).trans rfl))
        (first | go_ret | go_end0 | refine bodyPost_ret (results_none rfl _ _ _) rfl ?_)
        exact ⟨rfl, by rw [HF.out]; exact HB.out, HW.out, HK.out⟩
      have HD := am d1
      have d2 : (i : Int) < (x.f4.length : Int) := by omega
      have d3 : decide ((i : Int) < (x.f4.length : Int)) = true := decide_eq_true d2
      have d4 := eq_true d2
      have d5 : (0 ≤ (i : Int)) = True := eq_true (by omega)
      obtain ⟨ad, eA, hx⟩ := Kd.at_string (Kd.C_below HR6.out.1 HW.out) (i : Int) (by omega) d2
      subst eA
      have hwi : wrap64 ((i : Int) + 1) = ((i + 1 : Nat) : Int) := by have := HM.out; unfold wrap64; omega
      rw [rdOf_str] at hx
      simp only [Int.toNat_natCast] at hx
      clear d1 d2
      have hxp : wr.cell? ⟨bp, 0, none⟩ = some (.func (.func 41) #[] #[.pointer (some ⟨bo, 0, none⟩)]) := (blk_cell HBP.out 0).trans rfl
      have hxa : wr.cell? ⟨ba, 0, none⟩ = some (.func (.func 43) #[] #[.pointer (some ⟨be, 0, none⟩), .pointer (some ⟨bo, 0, none⟩)]) := (blk_cell HBA.out 0).trans rfl
      have H2 := am (show i + 1 ≤ x.f5.length by have := HD.out; have := HE.out; omega)
      have HS := am (rec_step [123] x.f4 x.f5 i HD.out H2.out)
      replace HL := am (show (l ++ recL [123] (x.f4.take i) ((x.f5.map txL).take i) ++ (bb (mkB i) ++ bb (x.f4.getD i ByteArray.empty) ++ bb ⟨#[61]⟩) ++ txL (x.f5.getD i z36)).length ≤ 140737488355328 by have h_ := HL.out; have s_ := rec_le [123] x.f4 x.f5 i HD.out H2.out; rw [← mkB_bb] at s_; simp only [List.length_append, List.length_cons, List.length_nil, bb] at h_ s_ ⊢; omega)
      go_wp2_with (first | ((with_reducible refine gate_calleev (t := 85) rfl ?_); refine goesV1_ 85 (some 89) rfl rfl rfl Tryd.func41 kr rfl #[.slice (some ⟨wr.heap.size, 0, none⟩) 3 3, .pointer (some ⟨bo, 0, none⟩)] rfl mpw ?_; refine (putX w0 b bo [(mkB i), (x.f4.getD i ByteArray.empty), ⟨#[61]⟩] (bb (mkB i) ++ bb (x.f4.getD i ByteArray.empty) ++ bb ⟨#[61]⟩) _ wr (by simp [cat, bb]) (by simp) HB.out HW.out HBO.out (by have := HL.out; simp only [List.length_append] at this ⊢; omega)).mono ?_; rintro e v1 ⟨rfl, hB, hb, hk⟩; refine ⟨_, rfl, ?_⟩; have mHBE := am (hk.box HB.out HBE.out (by decide) (by decide)); have mHBO := am (hk.box HB.out HBO.out (by decide) (by decide)); have mHBP := am (hk.box HB.out HBP.out (by decide) (by decide)); have mHBA := am (hk.box HB.out HBA.out (by decide) (by decide)); replace HK := am (HK.out.trans hk); clear HB HW HBE HBO HBP HBA; have HBE := mHBE; have HBO := mHBO; have HBP := mHBP; have HBA := mHBA; have HB := am hB; have HW := am hb; clear hB hb hk mHBE mHBO mHBP mHBA; clear hxp hxa; have hxp : v1.cell? ⟨bp, 0, none⟩ = some (.func (.func 41) #[] #[.pointer (some ⟨bo, 0, none⟩)]) := (blk_cell HBP.out 0).trans rfl; have hxa : v1.cell? ⟨ba, 0, none⟩ = some (.func (.func 43) #[] #[.pointer (some ⟨be, 0, none⟩), .pointer (some ⟨bo, 0, none⟩)]) := (blk_cell HBA.out 0).trans rfl) | ((with_reducible refine gate_calleev (t := 90) rfl ?_); refine goesV1_ 90 (some 92) rfl rfl rfl Tryd.func43 kr rfl #[.int .i64 i, .pointer (some ⟨be, 0, none⟩), .pointer (some ⟨bo, 0, none⟩)] rfl mpw ?_; refine (arg_go x HX.out ad0 w0 v1 b be bo _ i HT.out HLD.out HB.out HW.out HBE.out HBO.out (by have := H2.out; omega) (by have := HL.out; simp only [List.length_append] at this ⊢; omega)).mono ?_; rintro e v2 ⟨rfl, hB, hb, hk⟩; refine ⟨_, rfl, ?_⟩; have mHBE := am (hk.box HB.out HBE.out (by decide) (by decide)); have mHBO := am (hk.box HB.out HBO.out (by decide) (by decide)); have mHBP := am (hk.box HB.out HBP.out (by decide) (by decide)); have mHBA := am (hk.box HB.out HBA.out (by decide) (by decide)); replace HK := am (HK.out.trans hk); clear HB HW HBE HBO HBP HBA; have HBE := mHBE; have HBO := mHBO; have HBP := mHBP; have HBA := mHBA; have HB := am hB; have HW := am hb; clear hB hb hk mHBE mHBO mHBP mHBA; clear hxp hxa; have hxp : v2.cell? ⟨bp, 0, none⟩ = some (.func (.func 41) #[] #[.pointer (some ⟨bo, 0, none⟩)]) := (blk_cell HBP.out 0).trans rfl; have hxa : v2.cell? ⟨ba, 0, none⟩ = some (.func (.func 43) #[] #[.pointer (some ⟨be, 0, none⟩), .pointer (some ⟨bo, 0, none⟩)]) := (blk_cell HBA.out 0).trans rfl))
      clear hx hxp hxa
      go_roundg (gk - 1)
      case measure => have := HI.out; have := HD.out; omega
      case rel => exact ⟨i + 1, (by first | rfl | rw [hwi] | simp [hwi]), rfl, ⟨by have := HI.out; have := HD.out; omega⟩, ⟨by rw [HS.out, ← mkB_bb]; simpa [bb, List.append_assoc] using HB.out⟩, HW, HK, HBE, HBO, HBP, HBA⟩
  rcases hk with hk | hk
  · have HKx := am hk
    have hc0 : w6.cell? ad0 = some (.int .i64 8) := by have := pw_cell_below HW.out HP.out.1; rwa [hk] at this
    clear hk
    have H2 : Aside0 (manyL 8 ≤ x.f5.length) := ⟨by have := HMA.out; rwa [HKx.out] at this⟩
    replace H2 := am (show 1 ≤ x.f5.length by simpa [manyL] using H2.out)
    have g0 := gt_map (show 0 < x.f5.length by have := H2.out; omega)
    have HF := am (show l ++ txL x = l ++ bb ⟨#[91]⟩ ++ txL (x.f5.getD 0 z36) ++ bb ⟨#[93]⟩ by rw [txL_eq]; unfold bodyL; simp [HKx.out, gt_map, bb, List.append_assoc, g0])
    replace HL := am (show (l ++ bb ⟨#[91]⟩ ++ txL (x.f5.getD 0 z36) ++ bb ⟨#[93]⟩).length ≤ 140737488355328 by rw [← HF.out, List.length_append]; exact HL.out)
    clear g0
    have HL' := am (show (l ++ bb ⟨#[91]⟩ ++ txL (x.f5.getD 0 z36) ++ bb ⟨#[93]⟩).length ≤ 140737488355328 by have := HL.out; simp only [List.length_append] at this ⊢; omega)
    go_wp2_with (first | ((with_reducible refine gate_calleev (t := 117) rfl ?_); refine goesV1_ 117 (some 118) rfl rfl rfl Tryd.func45 kr rfl #[.string ⟨#[91]⟩, .string ⟨#[93]⟩, .pointer (some ⟨bp, 0, none⟩), .pointer (some ⟨ba, 0, none⟩)] rfl mpw ?_; refine (around_go x HX.out ad0 w0 w6 b be bo bp ba _ ⟨#[91]⟩ ⟨#[93]⟩ HT.out HLD.out HB.out HW.out HBE.out HBO.out HBP.out HBA.out (by have := H2.out; omega) HL'.out).mono ?_; rintro e v1 ⟨rfl, hB, hb, hk⟩; refine ⟨_, rfl, ?_⟩; have mHBE := am (hk.box HB.out HBE.out (by decide) (by decide)); have mHBO := am (hk.box HB.out HBO.out (by decide) (by decide)); have mHBP := am (hk.box HB.out HBP.out (by decide) (by decide)); have mHBA := am (hk.box HB.out HBA.out (by decide) (by decide)); replace HK := am (HK.out.trans hk); clear HB HW HBE HBO HBP HBA; have HBE := mHBE; have HBO := mHBO; have HBP := mHBP; have HBA := mHBA; have HB := am hB; have HW := am hb; clear hB hb hk mHBE mHBO mHBP mHBA))
    (first | go_ret | go_end0 | refine bodyPost_ret (results_none rfl _ _ _) rfl ?_)
    exact ⟨rfl, by rw [HF.out]; exact HB.out, HW.out, HK.out⟩
  rcases hk with hk | hk
  · have HKx := am hk
    have hc0 : w6.cell? ad0 = some (.int .i64 15) := by have := pw_cell_below HW.out HP.out.1; rwa [hk] at this
    clear hk
    have H2 : Aside0 (manyL 15 ≤ x.f5.length) := ⟨by have := HMA.out; rwa [HKx.out] at this⟩
    replace H2 := am (show 1 ≤ x.f5.length by simpa [manyL] using H2.out)
    have g0 := gt_map (show 0 < x.f5.length by have := H2.out; omega)
    have HF := am (show l ++ txL x = l ++ bb ⟨#[40, 101, 109, 112, 116, 121, 32]⟩ ++ txL (x.f5.getD 0 z36) ++ bb ⟨#[41]⟩ by rw [txL_eq]; unfold bodyL; simp [HKx.out, gt_map, bb, List.append_assoc, g0])
    replace HL := am (show (l ++ bb ⟨#[40, 101, 109, 112, 116, 121, 32]⟩ ++ txL (x.f5.getD 0 z36) ++ bb ⟨#[41]⟩).length ≤ 140737488355328 by rw [← HF.out, List.length_append]; exact HL.out)
    clear g0
    have HL' := am (show (l ++ bb ⟨#[40, 101, 109, 112, 116, 121, 32]⟩ ++ txL (x.f5.getD 0 z36) ++ bb ⟨#[41]⟩).length ≤ 140737488355328 by have := HL.out; simp only [List.length_append] at this ⊢; omega)
    go_wp2_with (first | ((with_reducible refine gate_calleev (t := 164) rfl ?_); refine goesV1_ 164 (some 165) rfl rfl rfl Tryd.func45 kr rfl #[.string ⟨#[40, 101, 109, 112, 116, 121, 32]⟩, .string ⟨#[41]⟩, .pointer (some ⟨bp, 0, none⟩), .pointer (some ⟨ba, 0, none⟩)] rfl mpw ?_; refine (around_go x HX.out ad0 w0 w6 b be bo bp ba _ ⟨#[40, 101, 109, 112, 116, 121, 32]⟩ ⟨#[41]⟩ HT.out HLD.out HB.out HW.out HBE.out HBO.out HBP.out HBA.out (by have := H2.out; omega) HL'.out).mono ?_; rintro e v1 ⟨rfl, hB, hb, hk⟩; refine ⟨_, rfl, ?_⟩; have mHBE := am (hk.box HB.out HBE.out (by decide) (by decide)); have mHBO := am (hk.box HB.out HBO.out (by decide) (by decide)); have mHBP := am (hk.box HB.out HBP.out (by decide) (by decide)); have mHBA := am (hk.box HB.out HBA.out (by decide) (by decide)); replace HK := am (HK.out.trans hk); clear HB HW HBE HBO HBP HBA; have HBE := mHBE; have HBO := mHBO; have HBP := mHBP; have HBA := mHBA; have HB := am hB; have HW := am hb; clear hB hb hk mHBE mHBO mHBP mHBA))
    (first | go_ret | go_end0 | refine bodyPost_ret (results_none rfl _ _ _) rfl ?_)
    exact ⟨rfl, by rw [HF.out]; exact HB.out, HW.out, HK.out⟩
  rcases hk with hk | hk
  · have HKx := am hk
    have hc0 : w6.cell? ad0 = some (.int .i64 16) := by have := pw_cell_below HW.out HP.out.1; rwa [hk] at this
    clear hk
    have H2 : Aside0 (manyL 16 ≤ x.f5.length) := ⟨by have := HMA.out; rwa [HKx.out] at this⟩
    replace H2 := am (show 1 ≤ x.f5.length by simpa [manyL] using H2.out)
    have g0 := gt_map (show 0 < x.f5.length by have := H2.out; omega)
    have HF := am (show l ++ txL x = l ++ bb ⟨#[40, 99, 111, 117, 110, 116, 32]⟩ ++ txL (x.f5.getD 0 z36) ++ bb ⟨#[41]⟩ by rw [txL_eq]; unfold bodyL; simp [HKx.out, gt_map, bb, List.append_assoc, g0])
    replace HL := am (show (l ++ bb ⟨#[40, 99, 111, 117, 110, 116, 32]⟩ ++ txL (x.f5.getD 0 z36) ++ bb ⟨#[41]⟩).length ≤ 140737488355328 by rw [← HF.out, List.length_append]; exact HL.out)
    clear g0
    have HL' := am (show (l ++ bb ⟨#[40, 99, 111, 117, 110, 116, 32]⟩ ++ txL (x.f5.getD 0 z36) ++ bb ⟨#[41]⟩).length ≤ 140737488355328 by have := HL.out; simp only [List.length_append] at this ⊢; omega)
    go_wp2_with (first | ((with_reducible refine gate_calleev (t := 168) rfl ?_); refine goesV1_ 168 (some 169) rfl rfl rfl Tryd.func45 kr rfl #[.string ⟨#[40, 99, 111, 117, 110, 116, 32]⟩, .string ⟨#[41]⟩, .pointer (some ⟨bp, 0, none⟩), .pointer (some ⟨ba, 0, none⟩)] rfl mpw ?_; refine (around_go x HX.out ad0 w0 w6 b be bo bp ba _ ⟨#[40, 99, 111, 117, 110, 116, 32]⟩ ⟨#[41]⟩ HT.out HLD.out HB.out HW.out HBE.out HBO.out HBP.out HBA.out (by have := H2.out; omega) HL'.out).mono ?_; rintro e v1 ⟨rfl, hB, hb, hk⟩; refine ⟨_, rfl, ?_⟩; have mHBE := am (hk.box HB.out HBE.out (by decide) (by decide)); have mHBO := am (hk.box HB.out HBO.out (by decide) (by decide)); have mHBP := am (hk.box HB.out HBP.out (by decide) (by decide)); have mHBA := am (hk.box HB.out HBA.out (by decide) (by decide)); replace HK := am (HK.out.trans hk); clear HB HW HBE HBO HBP HBA; have HBE := mHBE; have HBO := mHBO; have HBP := mHBP; have HBA := mHBA; have HB := am hB; have HW := am hb; clear hB hb hk mHBE mHBO mHBP mHBA))
    (first | go_ret | go_end0 | refine bodyPost_ret (results_none rfl _ _ _) rfl ?_)
    exact ⟨rfl, by rw [HF.out]; exact HB.out, HW.out, HK.out⟩
  rcases hk with hk | hk
  · have HKx := am hk
    have hc0 : w6.cell? ad0 = some (.int .i64 6) := by have := pw_cell_below HW.out HP.out.1; rwa [hk] at this
    clear hk
    have H2 : Aside0 (manyL 6 ≤ x.f5.length) := ⟨by have := HMA.out; rwa [HKx.out] at this⟩
    replace H2 := am (show 1 ≤ x.f5.length by simpa [manyL] using H2.out)
    have g0 := gt_map (show 0 < x.f5.length by have := H2.out; omega)
    have HF := am (show l ++ txL x = l ++ bb ⟨#[]⟩ ++ txL (x.f5.getD 0 z36) ++ bb ((⟨#[46]⟩ : ByteArray) ++ x.f1) by rw [txL_eq]; unfold bodyL; simp [HKx.out, gt_map, bb, List.append_assoc, g0])
    replace HL := am (show (l ++ bb ⟨#[]⟩ ++ txL (x.f5.getD 0 z36) ++ bb ((⟨#[46]⟩ : ByteArray) ++ x.f1)).length ≤ 140737488355328 by rw [← HF.out, List.length_append]; exact HL.out)
    clear g0
    have HL' := am (show (l ++ bb ⟨#[]⟩ ++ txL (x.f5.getD 0 z36) ++ bb ((⟨#[46]⟩ : ByteArray) ++ x.f1)).length ≤ 140737488355328 by have := HL.out; simp only [List.length_append] at this ⊢; omega)
    have hc1 : w6.cell? ⟨ad0.block, ad0.off + 1, none⟩ = some (.string x.f1) := pw_cell_below HW.out HP.out.2.1
    have q0 : 1 + x.f1.size ≤ 9223372036854775807 := by have := HNM.out; have := HTS.out; omega
    have q0t := eq_true q0; have q0d := decide_eq_true q0; have q0n := eq_false (Nat.not_lt.2 q0)
    go_wp2_with (first | ((with_reducible refine gate_calleev (t := 99) rfl ?_); refine goesV1_ 99 (some 105) rfl rfl rfl Tryd.func45 kr rfl #[.string ⟨#[]⟩, .string ((⟨#[46]⟩ : ByteArray) ++ x.f1), .pointer (some ⟨bp, 0, none⟩), .pointer (some ⟨ba, 0, none⟩)] rfl mpw ?_; refine (around_go x HX.out ad0 w0 w6 b be bo bp ba _ ⟨#[]⟩ ((⟨#[46]⟩ : ByteArray) ++ x.f1) HT.out HLD.out HB.out HW.out HBE.out HBO.out HBP.out HBA.out (by have := H2.out; omega) HL'.out).mono ?_; rintro e v1 ⟨rfl, hB, hb, hk⟩; refine ⟨_, rfl, ?_⟩; have mHBE := am (hk.box HB.out HBE.out (by decide) (by decide)); have mHBO := am (hk.box HB.out HBO.out (by decide) (by decide)); have mHBP := am (hk.box HB.out HBP.out (by decide) (by decide)); have mHBA := am (hk.box HB.out HBA.out (by decide) (by decide)); replace HK := am (HK.out.trans hk); clear HB HW HBE HBO HBP HBA; have HBE := mHBE; have HBO := mHBO; have HBP := mHBP; have HBA := mHBA; have HB := am hB; have HW := am hb; clear hB hb hk mHBE mHBO mHBP mHBA))
    (first | go_ret | go_end0 | refine bodyPost_ret (results_none rfl _ _ _) rfl ?_)
    exact ⟨rfl, by rw [HF.out]; exact HB.out, HW.out, HK.out⟩
  rcases hk with hk | hk
  · have HKx := am hk
    have hc0 : w6.cell? ad0 = some (.int .i64 9) := by have := pw_cell_below HW.out HP.out.1; rwa [hk] at this
    clear hk
    have H2 : Aside0 (manyL 9 ≤ x.f5.length) := ⟨by have := HMA.out; rwa [HKx.out] at this⟩
    replace H2 := am (show 2 ≤ x.f5.length by simpa [manyL] using H2.out)
    have g0 := gt_map (show 0 < x.f5.length by have := H2.out; omega)
    have g1 := gt_map (show 1 < x.f5.length by have := H2.out; omega)
    have HF := am (show l ++ txL x = l ++ bb ⟨#[40]⟩ ++ txL (x.f5.getD 0 z36) ++ bb ⟨#[43, 43]⟩ ++ txL (x.f5.getD 1 z36) ++ bb ⟨#[41]⟩ by rw [txL_eq]; unfold bodyL; simp [HKx.out, gt_map, bb, List.append_assoc, g0, g1])
    replace HL := am (show (l ++ bb ⟨#[40]⟩ ++ txL (x.f5.getD 0 z36) ++ bb ⟨#[43, 43]⟩ ++ txL (x.f5.getD 1 z36) ++ bb ⟨#[41]⟩).length ≤ 140737488355328 by rw [← HF.out, List.length_append]; exact HL.out)
    clear g0 g1
    have HL' := am (show (l ++ bb ⟨#[40]⟩ ++ txL (x.f5.getD 0 z36) ++ bb ⟨#[43, 43]⟩ ++ txL (x.f5.getD 1 z36) ++ bb ⟨#[41]⟩).length ≤ 140737488355328 by have := HL.out; simp only [List.length_append] at this ⊢; omega)
    go_wp2_with (first | ((with_reducible refine gate_calleev (t := 121) rfl ?_); refine goesV1_ 121 (some 122) rfl rfl rfl Tryd.func44 kr rfl #[.string ⟨#[40]⟩, .string ⟨#[43, 43]⟩, .string ⟨#[41]⟩, .pointer (some ⟨bp, 0, none⟩), .pointer (some ⟨ba, 0, none⟩)] rfl mpw ?_; refine (between_go x HX.out ad0 w0 w6 b be bo bp ba _ ⟨#[40]⟩ ⟨#[43, 43]⟩ ⟨#[41]⟩ HT.out HLD.out HB.out HW.out HBE.out HBO.out HBP.out HBA.out (by have := H2.out; omega) HL'.out).mono ?_; rintro e v1 ⟨rfl, hB, hb, hk⟩; refine ⟨_, rfl, ?_⟩; have mHBE := am (hk.box HB.out HBE.out (by decide) (by decide)); have mHBO := am (hk.box HB.out HBO.out (by decide) (by decide)); have mHBP := am (hk.box HB.out HBP.out (by decide) (by decide)); have mHBA := am (hk.box HB.out HBA.out (by decide) (by decide)); replace HK := am (HK.out.trans hk); clear HB HW HBE HBO HBP HBA; have HBE := mHBE; have HBO := mHBO; have HBP := mHBP; have HBA := mHBA; have HB := am hB; have HW := am hb; clear hB hb hk mHBE mHBO mHBP mHBA))
    (first | go_ret | go_end0 | refine bodyPost_ret (results_none rfl _ _ _) rfl ?_)
    exact ⟨rfl, by rw [HF.out]; exact HB.out, HW.out, HK.out⟩
  rcases hk with hk | hk
  · have HKx := am hk
    have hc0 : w6.cell? ad0 = some (.int .i64 14) := by have := pw_cell_below HW.out HP.out.1; rwa [hk] at this
    clear hk
    have H2 : Aside0 (manyL 14 ≤ x.f5.length) := ⟨by have := HMA.out; rwa [HKx.out] at this⟩
    replace H2 := am (show 2 ≤ x.f5.length by simpa [manyL] using H2.out)
    have g0 := gt_map (show 0 < x.f5.length by have := H2.out; omega)
    have g1 := gt_map (show 1 < x.f5.length by have := H2.out; omega)
    have HF := am (show l ++ txL x = l ++ bb ⟨#[40]⟩ ++ txL (x.f5.getD 0 z36) ++ bb ⟨#[32]⟩ ++ txL (x.f5.getD 1 z36) ++ bb ⟨#[41]⟩ by rw [txL_eq]; unfold bodyL; simp [HKx.out, gt_map, bb, List.append_assoc, g0, g1])
    replace HL := am (show (l ++ bb ⟨#[40]⟩ ++ txL (x.f5.getD 0 z36) ++ bb ⟨#[32]⟩ ++ txL (x.f5.getD 1 z36) ++ bb ⟨#[41]⟩).length ≤ 140737488355328 by rw [← HF.out, List.length_append]; exact HL.out)
    clear g0 g1
    have HL' := am (show (l ++ bb ⟨#[40]⟩ ++ txL (x.f5.getD 0 z36) ++ bb ⟨#[32]⟩ ++ txL (x.f5.getD 1 z36) ++ bb ⟨#[41]⟩).length ≤ 140737488355328 by have := HL.out; simp only [List.length_append] at this ⊢; omega)
    go_wp2_with (first | ((with_reducible refine gate_calleev (t := 160) rfl ?_); refine goesV1_ 160 (some 161) rfl rfl rfl Tryd.func44 kr rfl #[.string ⟨#[40]⟩, .string ⟨#[32]⟩, .string ⟨#[41]⟩, .pointer (some ⟨bp, 0, none⟩), .pointer (some ⟨ba, 0, none⟩)] rfl mpw ?_; refine (between_go x HX.out ad0 w0 w6 b be bo bp ba _ ⟨#[40]⟩ ⟨#[32]⟩ ⟨#[41]⟩ HT.out HLD.out HB.out HW.out HBE.out HBO.out HBP.out HBA.out (by have := H2.out; omega) HL'.out).mono ?_; rintro e v1 ⟨rfl, hB, hb, hk⟩; refine ⟨_, rfl, ?_⟩; have mHBE := am (hk.box HB.out HBE.out (by decide) (by decide)); have mHBO := am (hk.box HB.out HBO.out (by decide) (by decide)); have mHBP := am (hk.box HB.out HBP.out (by decide) (by decide)); have mHBA := am (hk.box HB.out HBA.out (by decide) (by decide)); replace HK := am (HK.out.trans hk); clear HB HW HBE HBO HBP HBA; have HBE := mHBE; have HBO := mHBO; have HBP := mHBP; have HBA := mHBA; have HB := am hB; have HW := am hb; clear hB hb hk mHBE mHBO mHBP mHBA))
    (first | go_ret | go_end0 | refine bodyPost_ret (results_none rfl _ _ _) rfl ?_)
    exact ⟨rfl, by rw [HF.out]; exact HB.out, HW.out, HK.out⟩
  rcases hk with hk | hk
  · have HKx := am hk
    have hc0 : w6.cell? ad0 = some (.int .i64 10) := by have := pw_cell_below HW.out HP.out.1; rwa [hk] at this
    clear hk
    have H2 : Aside0 (manyL 10 ≤ x.f5.length) := ⟨by have := HMA.out; rwa [HKx.out] at this⟩
    replace H2 := am (show 2 ≤ x.f5.length by simpa [manyL] using H2.out)
    have g0 := gt_map (show 0 < x.f5.length by have := H2.out; omega)
    have g1 := gt_map (show 1 < x.f5.length by have := H2.out; omega)
    have HF := am (show l ++ txL x = l ++ bb (((⟨#[40, 102, 111, 114, 32]⟩ : ByteArray) ++ x.f1) ++ (⟨#[60, 45]⟩ : ByteArray)) ++ txL (x.f5.getD 0 z36) ++ bb ⟨#[32]⟩ ++ txL (x.f5.getD 1 z36) ++ bb ⟨#[41]⟩ by rw [txL_eq]; unfold bodyL; simp [HKx.out, gt_map, bb, List.append_assoc, g0, g1])
    replace HL := am (show (l ++ bb (((⟨#[40, 102, 111, 114, 32]⟩ : ByteArray) ++ x.f1) ++ (⟨#[60, 45]⟩ : ByteArray)) ++ txL (x.f5.getD 0 z36) ++ bb ⟨#[32]⟩ ++ txL (x.f5.getD 1 z36) ++ bb ⟨#[41]⟩).length ≤ 140737488355328 by rw [← HF.out, List.length_append]; exact HL.out)
    clear g0 g1
    have HL' := am (show (l ++ bb (((⟨#[40, 102, 111, 114, 32]⟩ : ByteArray) ++ x.f1) ++ (⟨#[60, 45]⟩ : ByteArray)) ++ txL (x.f5.getD 0 z36) ++ bb ⟨#[32]⟩ ++ txL (x.f5.getD 1 z36) ++ bb ⟨#[41]⟩).length ≤ 140737488355328 by have := HL.out; simp only [List.length_append] at this ⊢; omega)
    have hc1 : w6.cell? ⟨ad0.block, ad0.off + 1, none⟩ = some (.string x.f1) := pw_cell_below HW.out HP.out.2.1
    have q0 : 5 + x.f1.size ≤ 9223372036854775807 := by have := HNM.out; have := HTS.out; omega
    have q0t := eq_true q0; have q0d := decide_eq_true q0; have q0n := eq_false (Nat.not_lt.2 q0)
    have q1 : 5 + x.f1.size + 2 ≤ 9223372036854775807 := by have := HNM.out; have := HTS.out; omega
    have q1t := eq_true q1; have q1d := decide_eq_true q1; have q1n := eq_false (Nat.not_lt.2 q1)
    go_wp2_with (first | ((with_reducible refine gate_calleev (t := 125) rfl ?_); refine goesV1_ 125 (some 132) rfl rfl rfl Tryd.func44 kr rfl #[.string (((⟨#[40, 102, 111, 114, 32]⟩ : ByteArray) ++ x.f1) ++ (⟨#[60, 45]⟩ : ByteArray)), .string ⟨#[32]⟩, .string ⟨#[41]⟩, .pointer (some ⟨bp, 0, none⟩), .pointer (some ⟨ba, 0, none⟩)] rfl mpw ?_; refine (between_go x HX.out ad0 w0 w6 b be bo bp ba _ (((⟨#[40, 102, 111, 114, 32]⟩ : ByteArray) ++ x.f1) ++ (⟨#[60, 45]⟩ : ByteArray)) ⟨#[32]⟩ ⟨#[41]⟩ HT.out HLD.out HB.out HW.out HBE.out HBO.out HBP.out HBA.out (by have := H2.out; omega) HL'.out).mono ?_; rintro e v1 ⟨rfl, hB, hb, hk⟩; refine ⟨_, rfl, ?_⟩; have mHBE := am (hk.box HB.out HBE.out (by decide) (by decide)); have mHBO := am (hk.box HB.out HBO.out (by decide) (by decide)); have mHBP := am (hk.box HB.out HBP.out (by decide) (by decide)); have mHBA := am (hk.box HB.out HBA.out (by decide) (by decide)); replace HK := am (HK.out.trans hk); clear HB HW HBE HBO HBP HBA; have HBE := mHBE; have HBO := mHBO; have HBP := mHBP; have HBA := mHBA; have HB := am hB; have HW := am hb; clear hB hb hk mHBE mHBO mHBP mHBA))
    (first | go_ret | go_end0 | refine bodyPost_ret (results_none rfl _ _ _) rfl ?_)
    exact ⟨rfl, by rw [HF.out]; exact HB.out, HW.out, HK.out⟩
  have HKx := am hk
  have hc0 : w6.cell? ad0 = some (.int .i64 11) := by have := pw_cell_below HW.out HP.out.1; rwa [hk] at this
  clear hk
  have H2 : Aside0 (manyL 11 ≤ x.f5.length) := ⟨by have := HMA.out; rwa [HKx.out] at this⟩
  replace H2 := am (show 3 ≤ x.f5.length by simpa [manyL] using H2.out)
  have g0 := gt_map (show 0 < x.f5.length by have := H2.out; omega)
  have g1 := gt_map (show 1 < x.f5.length by have := H2.out; omega)
  have g2 := gt_map (show 2 < x.f5.length by have := H2.out; omega)
  have HF := am (show l ++ txL x = l ++ bb ⟨#[40, 105, 102, 32]⟩ ++ txL (x.f5.getD 0 z36) ++ bb ⟨#[32]⟩ ++ txL (x.f5.getD 1 z36) ++ bb ⟨#[32]⟩ ++ txL (x.f5.getD 2 z36) ++ bb ⟨#[41]⟩ by rw [txL_eq]; unfold bodyL; simp [HKx.out, gt_map, bb, List.append_assoc, g0, g1, g2])
  replace HL := am (show (l ++ bb ⟨#[40, 105, 102, 32]⟩ ++ txL (x.f5.getD 0 z36) ++ bb ⟨#[32]⟩ ++ txL (x.f5.getD 1 z36) ++ bb ⟨#[32]⟩ ++ txL (x.f5.getD 2 z36) ++ bb ⟨#[41]⟩).length ≤ 140737488355328 by rw [← HF.out, List.length_append]; exact HL.out)
  clear g0 g1 g2
  have HL' := am (show (l ++ bb ⟨#[40, 105, 102, 32]⟩ ++ txL (x.f5.getD 0 z36) ++ bb ⟨#[32]⟩ ++ txL (x.f5.getD 1 z36) ++ bb ⟨#[32]⟩).length ≤ 140737488355328 by have := HL.out; simp only [List.length_append] at this ⊢; omega)
  go_wp2_with (first | ((with_reducible refine gate_calleev (t := 135) rfl ?_); refine goesV1_ 135 (some 136) rfl rfl rfl Tryd.func44 kr rfl #[.string ⟨#[40, 105, 102, 32]⟩, .string ⟨#[32]⟩, .string ⟨#[32]⟩, .pointer (some ⟨bp, 0, none⟩), .pointer (some ⟨ba, 0, none⟩)] rfl mpw ?_; refine (between_go x HX.out ad0 w0 w6 b be bo bp ba _ ⟨#[40, 105, 102, 32]⟩ ⟨#[32]⟩ ⟨#[32]⟩ HT.out HLD.out HB.out HW.out HBE.out HBO.out HBP.out HBA.out (by have := H2.out; omega) HL'.out).mono ?_; rintro e v1 ⟨rfl, hB, hb, hk⟩; refine ⟨_, rfl, ?_⟩; have mHBE := am (hk.box HB.out HBE.out (by decide) (by decide)); have mHBO := am (hk.box HB.out HBO.out (by decide) (by decide)); have mHBP := am (hk.box HB.out HBP.out (by decide) (by decide)); have mHBA := am (hk.box HB.out HBA.out (by decide) (by decide)); replace HK := am (HK.out.trans hk); clear HB HW HBE HBO HBP HBA; have HBE := mHBE; have HBO := mHBO; have HBP := mHBP; have HBA := mHBA; have HB := am hB; have HW := am hb; clear hB hb hk mHBE mHBO mHBP mHBA; clear hxp hxa; have hxp : v1.cell? ⟨bp, 0, none⟩ = some (.func (.func 41) #[] #[.pointer (some ⟨bo, 0, none⟩)]) := (blk_cell HBP.out 0).trans rfl; have hxa : v1.cell? ⟨ba, 0, none⟩ = some (.func (.func 43) #[] #[.pointer (some ⟨be, 0, none⟩), .pointer (some ⟨bo, 0, none⟩)]) := (blk_cell HBA.out 0).trans rfl) | ((with_reducible refine gate_calleev (t := 137) rfl ?_); refine goesV1_ 137 (some 138) rfl rfl rfl Tryd.func43 kr rfl #[.int .i64 2, .pointer (some ⟨be, 0, none⟩), .pointer (some ⟨bo, 0, none⟩)] rfl mpw ?_; refine (arg_go x HX.out ad0 w0 v1 b be bo _ 2 HT.out HLD.out HB.out HW.out HBE.out HBO.out (by have := H2.out; omega) (by have := HL.out; simp only [List.length_append] at this ⊢; omega)).mono ?_; rintro e v2 ⟨rfl, hB, hb, hk⟩; refine ⟨_, rfl, ?_⟩; have mHBE := am (hk.box HB.out HBE.out (by decide) (by decide)); have mHBO := am (hk.box HB.out HBO.out (by decide) (by decide)); have mHBP := am (hk.box HB.out HBP.out (by decide) (by decide)); have mHBA := am (hk.box HB.out HBA.out (by decide) (by decide)); replace HK := am (HK.out.trans hk); clear HB HW HBE HBO HBP HBA; have HBE := mHBE; have HBO := mHBO; have HBP := mHBP; have HBA := mHBA; have HB := am hB; have HW := am hb; clear hB hb hk mHBE mHBO mHBP mHBA; clear hxp hxa; have hxp : v2.cell? ⟨bp, 0, none⟩ = some (.func (.func 41) #[] #[.pointer (some ⟨bo, 0, none⟩)]) := (blk_cell HBP.out 0).trans rfl; have hxa : v2.cell? ⟨ba, 0, none⟩ = some (.func (.func 43) #[] #[.pointer (some ⟨be, 0, none⟩), .pointer (some ⟨bo, 0, none⟩)]) := (blk_cell HBA.out 0).trans rfl) | ((with_reducible refine gate_calleev (t := 139) rfl ?_); refine goesV1_ 139 (some 141) rfl rfl rfl Tryd.func41 kr rfl #[.slice (some ⟨v2.heap.size, 0, none⟩) 1 1, .pointer (some ⟨bo, 0, none⟩)] rfl mpw ?_; refine (putX w0 b bo [⟨#[41]⟩] (bb ⟨#[41]⟩) _ v2 (by simp [cat, bb]) (by simp) HB.out HW.out HBO.out (by have := HL.out; simp only [List.length_append] at this ⊢; omega)).mono ?_; rintro e v3 ⟨rfl, hB, hb, hk⟩; refine ⟨_, rfl, ?_⟩; have mHBE := am (hk.box HB.out HBE.out (by decide) (by decide)); have mHBO := am (hk.box HB.out HBO.out (by decide) (by decide)); have mHBP := am (hk.box HB.out HBP.out (by decide) (by decide)); have mHBA := am (hk.box HB.out HBA.out (by decide) (by decide)); replace HK := am (HK.out.trans hk); clear HB HW HBE HBO HBP HBA; have HBE := mHBE; have HBO := mHBO; have HBP := mHBP; have HBA := mHBA; have HB := am hB; have HW := am hb; clear hB hb hk mHBE mHBO mHBP mHBA; clear hxp hxa; have hxp : v3.cell? ⟨bp, 0, none⟩ = some (.func (.func 41) #[] #[.pointer (some ⟨bo, 0, none⟩)]) := (blk_cell HBP.out 0).trans rfl; have hxa : v3.cell? ⟨ba, 0, none⟩ = some (.func (.func 43) #[] #[.pointer (some ⟨be, 0, none⟩), .pointer (some ⟨bo, 0, none⟩)]) := (blk_cell HBA.out 0).trans rfl))
  (first | go_ret | go_end0 | refine bodyPost_ret (results_none rfl _ _ _) rfl ?_)
  exact ⟨rfl, by rw [HF.out]; exact HB.out, HW.out, HK.out⟩
end Go.Proofs.YtgplgphchdgedaaDoor.Px
end
section
namespace Go.Proofs.YtgplgphchdgedaaDoor.Px
open Go.RowKit Go.Proofs.YtgplgphchdgedaaDoorW.PrintWords Go.Proofs.YtgplgphchdgedaaDoorW.PrintLast Go.Proofs.YtgplgphchdgedaaDoorW.PrintMore Go.Proofs.YtgplgphchdgedaaDoor.Pl Go.Proofs.YtgplgphchdgedaaDoor.Ext
set_option linter.unusedVariables false
set_option linter.unusedSimpArgs false
theorem text_go : ∀ x : S36, GoodE x → TextOK x := by
  refine indTermI fun x ih hg => ?_
  have hx : ∀ y ∈ x.f5, TextOK y := fun y hy => ih y hy (by cases hg; rename_i h9 _ _ _ _ _ _ _ h; exact h y hy)
  have hk : x.f0 = 1 ∨ x.f0 = 2 ∨ x.f0 = 3 ∨ x.f0 = 4 ∨ x.f0 = 5 ∨ x.f0 = 6 ∨ x.f0 = 7 ∨ x.f0 = 8 ∨ x.f0 = 9 ∨ x.f0 = 10 ∨ x.f0 = 11 ∨ x.f0 = 12 ∨ x.f0 = 13 ∨ x.f0 = 14 ∨ x.f0 = 15 ∨ x.f0 = 16 := by cases hg; assumption
  rcases hk with hk | hk | hk | hk | hk | hk | hk | hk | hk | hk | hk | hk | hk | hk | hk | hk
  · exact text_k0 x hx hg (Or.inl hk)
  · exact text_k0 x hx hg (Or.inr (Or.inl hk))
  · exact text_k0 x hx hg (Or.inr (Or.inr (Or.inl hk)))
  · exact text_k0 x hx hg (Or.inr (Or.inr (Or.inr (Or.inr (Or.inr (Or.inr (Or.inl hk)))))))
  · exact text_k0 x hx hg (Or.inr (Or.inr (Or.inr (Or.inr (Or.inr (Or.inr (Or.inr (Or.inl hk))))))))
  · exact text_k0 x hx hg (Or.inr (Or.inr (Or.inr (Or.inr (Or.inr (Or.inr (Or.inr (Or.inr (Or.inr (Or.inr (Or.inr (Or.inl hk))))))))))))
  · exact text_k0 x hx hg (Or.inr (Or.inr (Or.inr (Or.inr (Or.inl hk)))))
  · exact text_k0 x hx hg (Or.inr (Or.inr (Or.inr (Or.inr (Or.inr (Or.inr (Or.inr (Or.inr (Or.inl hk)))))))))
  · exact text_k0 x hx hg (Or.inr (Or.inr (Or.inr (Or.inr (Or.inr (Or.inr (Or.inr (Or.inr (Or.inr (Or.inr (Or.inr (Or.inr (Or.inl hk)))))))))))))
  · exact text_k0 x hx hg (Or.inr (Or.inr (Or.inr (Or.inr (Or.inr (Or.inr (Or.inr (Or.inr (Or.inr (Or.inr (Or.inr (Or.inr (Or.inr (Or.inr (Or.inl hk)))))))))))))))
  · exact text_k0 x hx hg (Or.inr (Or.inr (Or.inr (Or.inr (Or.inr (Or.inr (Or.inr (Or.inr (Or.inr (Or.inr (Or.inr (Or.inr (Or.inr (Or.inr (Or.inr hk)))))))))))))))
  · exact text_k0 x hx hg (Or.inr (Or.inr (Or.inr (Or.inl hk))))
  · exact text_k0 x hx hg (Or.inr (Or.inr (Or.inr (Or.inr (Or.inr (Or.inl hk))))))
  · exact text_k0 x hx hg (Or.inr (Or.inr (Or.inr (Or.inr (Or.inr (Or.inr (Or.inr (Or.inr (Or.inr (Or.inr (Or.inr (Or.inr (Or.inr (Or.inl hk))))))))))))))
  · exact text_k0 x hx hg (Or.inr (Or.inr (Or.inr (Or.inr (Or.inr (Or.inr (Or.inr (Or.inr (Or.inr (Or.inl hk))))))))))
  · exact text_k0 x hx hg (Or.inr (Or.inr (Or.inr (Or.inr (Or.inr (Or.inr (Or.inr (Or.inr (Or.inr (Or.inr (Or.inl hk)))))))))))
end Go.Proofs.YtgplgphchdgedaaDoor.Px
end
