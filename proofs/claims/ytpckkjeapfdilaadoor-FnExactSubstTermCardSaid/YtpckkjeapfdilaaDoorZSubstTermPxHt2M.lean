/- Trees of rows: an element of a row, read and put anew. No condition. -/
import Derived.Test.YtpckkjeapfdilaaDoorZSubstTermSh
import Derived.Test.YtpckkjeapfdilaaDoorZSubstTermPx0M
import Derived.Test.YtpckkjeapfdilaaDoorZSubstTermPlM
import Derived.Test.YtpckkjeapfdilaaDoorZSubstTermPx5M
import Derived.Test.YtpckkjeapfdilaaDoorZSubstTermPx6M
import Derived.Test.YtpckkjeapfdilaaDoorZSubstTermWLastM
import Derived.Test.YtpckkjeapfdilaaDoorZSubstTermPx14M
import Derived.Test.YtpckkjeapfdilaaDoorZSubstTermWWords
section
namespace Go.Proofs.YtpckkjeapfdilaaDoor.Px
open Go.RowKit Go.Proofs.YtpckkjeapfdilaaDoorW.PrintWords Go.Proofs.YtpckkjeapfdilaaDoorW.PrintLast Go.Proofs.YtpckkjeapfdilaaDoor.Pl Go.Proofs.YtpckkjeapfdilaaDoor.Ext
set_option linter.unusedVariables false
set_option linter.unusedSimpArgs false
theorem TeES_join : ∀ (xs ys : List S35) (a b : List HT), TeES xs a → TeES ys b → TeES (xs ++ ys) (a ++ b)
 | [], ys, a, b, h, h2 => by
  simp only [TeES] at h
  subst h
  exact h2
 | x :: r, ys, a, b, h, h2 => by
  simp only [TeES] at h
  obtain ⟨p, q, rfl, hp, hq⟩ := h
  simp only [List.cons_append, TeES]
  exact ⟨p, q ++ b, by simp [List.append_assoc], hp, TeES_join r ys q b hq h2⟩
theorem TeES_split : ∀ (xs : List S35) (cs : List HT) (i : Nat), TeES xs cs → i < xs.length → ∃ a c b, cs = a ++ c ++ b ∧ a.length = i * 8 ∧ TeES (xs.take i) a ∧ TeE (xs.getD i z35) c ∧ TeES (xs.drop (i + 1)) b
 | [], cs, i, _, hi => by simp at hi
 | x :: r, cs, 0, h, _ => by
  simp only [TeES] at h
  obtain ⟨p, q, rfl, hp, hq⟩ := h
  exact ⟨[], p, q, by simp, by simp, by simp [TeES], by simpa using hp, by simpa using hq⟩
 | x :: r, cs, i + 1, h, hi => by
  simp only [TeES] at h
  obtain ⟨p, q, rfl, hp, hq⟩ := h
  obtain ⟨a, c, b, rfl, h1, h2, h3, h4⟩ := TeES_split r q i hq (by simpa using hi)
  refine ⟨p ++ a, c, b, by simp [List.append_assoc], by rw [List.length_append, h1, TeE_len hp, Nat.add_mul]; omega, ?_, by simpa using h3, by simpa using h4⟩
  simp only [List.take_succ_cons, TeES]
  exact ⟨p, a, rfl, hp, h2⟩
theorem TeES_put {xs : List S35} {i : Nat} {a c b : List HT} {t : S35} (hi : i < xs.length) (h1 : TeES (xs.take i) a) (h2 : TeE t c) (h3 : TeES (xs.drop (i + 1)) b) : TeES (xs.set i t) (a ++ c ++ b) := by
 rw [List.set_eq_take_append_cons_drop, if_pos hi, List.append_assoc]
 refine TeES_join _ _ _ _ h1 ?_
 simp only [TeES]
 exact ⟨c, b, rfl, h2, h3⟩
theorem own_sets {base n cap g : Nat} {e : TypeId} {size : Nat} : ∀ (us old : List Value) {w : World} (pre post : List Value), us.length = old.length → w.ownsRow base e size (.slice (some ⟨g, 0, none⟩) n cap) n (pre ++ old ++ post) → (w.setCells g pre.length us).ownsRow base e size (.slice (some ⟨g, 0, none⟩) n cap) n (pre ++ us ++ post)
 | [], old, w, pre, post, hl, h => by
  obtain rfl : old = [] := List.length_eq_zero_iff.1 (by simpa using hl.symm)
  exact h
 | u :: us, old, w, pre, post, hl, h => by
  cases old with
  | nil => simp at hl
  | cons c old =>
   have h1 := (h.stored pre.length u).1
   have e1 : (pre ++ (c :: old) ++ post).set pre.length u = (pre ++ [u]) ++ old ++ post := by simp [List.set_append]
   rw [e1] at h1
   have h2 := own_sets us old (pre ++ [u]) post (by simpa using hl) h1
   simp only [List.length_append, List.length_cons, List.length_nil, List.append_assoc, List.cons_append, List.nil_append] at h2 ⊢
   exact h2
theorem row_tail {w : World} {base : Nat} {p q : List HT} (h : Apt w base (p ++ q)) : Apt w base q := (Apt_parts h).2.1
theorem Apt_tl {w : World} {base : Nat} {v : Value} {l : List HT} (h : Apt w base (.lf v :: l)) : Apt w base l := row_tail (p := [.lf v]) h
theorem row_at {w : World} {base e sz n : Nat} {v : Value} {p a c b : List HT} (h : Apt w base (p ++ [.row e sz n v (a ++ c ++ b)])) (hc : 0 < c.length) (hsz : n = 0 → (a ++ c ++ b).length = 0) :
  ∃ g cap, v = .slice (some ⟨g, 0, none⟩) n cap ∧ base ≤ g ∧ g < w.heap.size ∧ (∀ x ∈ blS p, x ≠ g) ∧ (∀ x ∈ blS (a ++ c ++ b), x ≠ g) := by
 have h1 := Apt_parts h
 have h2 := row_cells h1.2.1
 obtain ⟨e1, h3⟩ := h2
 rcases h3 with ⟨rfl, h0⟩ | ⟨g, cap, cur, rfl, hg, hb, _⟩
 ·have := hsz h0
  simp only [List.length_append] at this
  omega
 ·have h4 := h1.2.1.2
  simp only [blS, HT.bl, List.append_nil, List.nodup_append] at h4
  refine ⟨g, cap, rfl, hg, (Array.getElem?_eq_some_iff.1 hb).1, fun x hx => h1.2.2 x hx g (row_own rfl), fun x hx => ?_⟩
  exact fun he => h4.2.2 g (by simp [Value.ownBlock]) x hx he.symm
theorem row_part {w : World} {base e sz n : Nat} {v : Value} {p a c b : List HT} (h : Apt w base (p ++ [.row e sz n v (a ++ c ++ b)])) : Apt w base c := by
 have h1 := row_tail h
 obtain ⟨h2, h3⟩ := h1
 simp only [OkS, HT.Ok, and_true] at h2
 simp only [blS, HT.bl, List.append_nil, List.nodup_append] at h3
 exact (Apt_parts (Apt_parts (a := a ++ c) (b := b) ⟨h2.2, h3.2.1⟩).1).2.1
theorem row_cell {w : World} {base e sz n g cap : Nat} {p a c b : List HT} (h : Apt w base (p ++ [.row e sz n (.slice (some ⟨g, 0, none⟩) n cap) (a ++ c ++ b)])) {o : Nat} (ho : a.length = o) (j : Nat) {u : Value} (hu : (c.map HT.val)[j]? = some u) : w.cell? ⟨g, o + j, none⟩ = some u := by
 have h2 := row_cells (row_tail h)
 have hj : j < (c.map HT.val).length := (List.getElem?_eq_some_iff.1 hu).1
 have hk : o + j < n * sz := by
  rw [← h2.1]
  simp only [List.map_append, List.length_append, List.length_map] at hj ⊢
  omega
 have h4 := World.ownsRow.cellAt h2 (o + j) hk
 rw [h4, List.map_append, List.map_append, List.append_assoc, List.getElem?_append_right (by rw [List.length_map]; omega), List.length_map, ho, Nat.add_sub_cancel_left, List.getElem?_append_left hj]
 exact hu
theorem row_frozen {w : World} {base e sz n g cap : Nat} {p cs : List HT} (h : Apt w base (p ++ [.row e sz n (.slice (some ⟨g, 0, none⟩) n cap) cs])) (j : Nat) : w.frozen? ⟨g, j, none⟩ = false := World.ownsRow.frozenAt (row_cells (row_tail h)) j
theorem row_put {w : World} {base e sz n g cap m : Nat} {p a c b hs : List HT} (h : Apt w base (p ++ [.row e sz n (.slice (some ⟨g, 0, none⟩) n cap) (a ++ c ++ b)])) (hh : Apt w m hs) (hm : ∀ x ∈ blS (p ++ [HT.row e sz n (.slice (some ⟨g, 0, none⟩) n cap) (a ++ c ++ b)]), x < m) (hbm : base ≤ m) (hl : hs.length = c.length) {o : Nat} (ho : a.length = o) :
  Apt (w.setCells g o (hs.map HT.val)) base (p ++ [.row e sz n (.slice (some ⟨g, 0, none⟩) n cap) (a ++ hs ++ b)]) := by
 subst ho
 have hp := Apt_parts h
 have hr := hp.2.1
 have hown := row_cells hr
 obtain ⟨hok, hnd⟩ := hr
 simp only [OkS, HT.Ok, and_true] at hok
 simp only [blS, HT.bl, List.append_nil] at hnd
 have hg : (Value.slice (some (⟨g, 0, none⟩ : Addr)) n cap).ownBlock = some g := rfl
 rw [hg] at hnd
 have hab : ∀ x ∈ blS (a ++ c ++ b), x ≠ g := fun x hx he => (List.nodup_append.1 hnd).2.2 g (by simp) x hx he.symm
 have hgm : g < m := hm g (by rw [blS_append]; exact List.mem_append_right _ (row_own hg))
 have hhg : ∀ x ∈ blS hs, x ≠ g := fun x hx he => by have := (OkS_in hs hh.1 x hx).1; omega
 have hmv : ∀ x, x ≠ g → (w.setCells g a.length (hs.map HT.val)).heap[x]? = w.heap[x]? := fun x hx => setCells_far _ _ _ hx
 have hcs := (List.nodup_append.1 hnd).2.1
 have q1 := (OkS_append (a ++ c) b).1 hok.2
 have q2 := (OkS_append a c).1 q1.1
 have pm : ∀ x ∈ blS p, x ≠ g := fun x hx => hp.2.2 x hx g (row_own hg)
 have am : ∀ x ∈ blS a, x ∈ blS (a ++ c ++ b) := fun x hx => by rw [blS_append, blS_append]; exact List.mem_append_left _ (List.mem_append_left _ hx)
 have bm : ∀ x ∈ blS b, x ∈ blS (a ++ c ++ b) := fun x hx => by rw [blS_append]; exact List.mem_append_right _ hx
 have lo : ∀ x ∈ blS (a ++ c ++ b), x < m := fun x hx => hm x (by rw [blS_append]; refine List.mem_append_right _ ?_; simp only [blS, HT.bl, List.append_nil]; exact List.mem_append_right _ hx)
 have hi : ∀ x ∈ blS hs, m ≤ x := fun x hx => (OkS_in hs hh.1 x hx).1
 have nd3 : (blS (a ++ hs ++ b)).Nodup := by
  rw [blS_append, blS_append] at hcs ⊢
  have n1 := List.nodup_append.1 hcs
  have n2 := List.nodup_append.1 n1.1
  refine List.nodup_append.2 ⟨List.nodup_append.2 ⟨n2.1, hh.2, fun x hx y hy he => ?_⟩, n1.2.1, fun x hx y hy he => ?_⟩
  ·have := lo x (am x hx); have := hi y hy; omega
  ·rcases List.mem_append.1 hx with hx | hx
   ·exact n1.2.2 x (List.mem_append_left _ hx) y hy he
   ·have := hi x hx; have := lo y (bm y hy); omega
 have nw : ∀ x ∈ blS (a ++ hs ++ b), x ≠ g := fun x hx => by
  rw [blS_append, blS_append] at hx
  rcases List.mem_append.1 hx with hx | hx
  ·rcases List.mem_append.1 hx with hx | hx
   ·exact hab x (am x hx)
   ·exact hhg x hx
  ·exact hab x (bm x hx)
 refine ⟨(OkS_append _ _).2 ⟨OkS_move p (fun x hx => hmv x (pm x hx)) hp.1.1, ?_⟩, ?_⟩
 ·simp only [OkS, HT.Ok, and_true]
  refine ⟨?_, ?_⟩
  ·have h3 := own_sets (hs.map HT.val) (c.map HT.val) (a.map HT.val) (b.map HT.val) (by simpa using hl) (by simpa only [List.map_append] using hown)
   rw [List.length_map] at h3
   simpa only [List.map_append] using h3
  ·refine (OkS_append (a ++ hs) b).2 ⟨(OkS_append a hs).2 ⟨OkS_move a (fun x hx => hmv x (hab x (am x hx))) q2.1, OkS_lower hbm hs (OkS_move hs (fun x hx => hmv x (hhg x hx)) hh.1)⟩, OkS_move b (fun x hx => hmv x (hab x (bm x hx))) q1.2⟩
 ·rw [blS_append]
  simp only [blS, HT.bl, List.append_nil]
  rw [hg]
  refine List.nodup_append.2 ⟨hp.1.2, List.nodup_append.2 ⟨by simp, nd3, fun x hx y hy he => ?_⟩, fun x hx y hy he => ?_⟩
  ·obtain rfl : x = g := by simpa using hx
   exact nw y hy he.symm
  ·subst he
   rcases List.mem_append.1 hy with hy | hy
   ·obtain rfl : x = g := by simpa using hy
    exact pm x hx rfl
   ·have hx0 : x < m := hm x (by rw [blS_append]; exact List.mem_append_left _ hx)
    rw [blS_append, blS_append] at hy
    have old : x ∈ blS (a ++ c ++ b) → False := fun h5 => hp.2.2 x hx x (by simp only [blS, HT.bl, List.append_nil]; exact List.mem_append_right _ h5) rfl
    rcases List.mem_append.1 hy with hy | hy
    ·rcases List.mem_append.1 hy with hy | hy
     ·exact old (am x hy)
     ·have := hi x hy; omega
    ·exact old (bm x hy)
noncomputable def midF (sub : S35 → ByteArray → S35 → S35) (x : S35) (nm : ByteArray) (z : S35) (j : Nat) : S35 := if (j : Int) = bdAt x ∧ renB x nm z = true then sub (x.f5.getD j z35) x.f1 (varT (freshN (frL x nm z))) else x.f5.getD j z35
theorem midF_no (sub : S35 → ByteArray → S35 → S35) {x : S35} {nm : ByteArray} {z : S35} (h : renB x nm z = false) (j : Nat) : midF sub x nm z j = x.f5.getD j z35 := by unfold midF; rw [if_neg (by rw [h]; exact fun c => Bool.false_ne_true c.2)]
theorem argF_mid (sub : S35 → ByteArray → S35 → S35) {x : S35} {nm : ByteArray} {z : S35} {i : Nat} (h : ¬ ((i : Int) = bdAt x ∧ x.f1 = nm)) : argF sub x nm z i (x.f5.getD i z35) = sub (midF sub x nm z i) nm z := by
 unfold argF midF
 by_cases c : (i : Int) = bdAt x
 ·have d : ¬ x.f1 = nm := fun e => h ⟨c, e⟩
  rw [if_pos c, if_neg d]
  by_cases r : renB x nm z = true
  ·rw [if_pos r, if_pos ⟨c, r⟩]
  ·rw [if_neg r, if_neg (fun e => r e.2)]
 ·rw [if_neg c, if_neg (fun e => c e.1)]
theorem argF_keep (sub : S35 → ByteArray → S35 → S35) {x : S35} {nm : ByteArray} {z : S35} {i : Nat} (h : (i : Int) = bdAt x) (h2 : x.f1 = nm) : argF sub x nm z i (x.f5.getD i z35) = midF sub x nm z i := by
 rw [argF_same sub z _ h h2, midF_no sub (renB_same z h2)]
def Row (sub : S35 → ByteArray → S35 → S35) (x : S35) (nm : ByteArray) (z : S35) (i : Nat) (ys : List S35) : Prop := ys.length = x.f5.length ∧ ∀ j, j < x.f5.length → ys.getD j z35 = if j < i then argF sub x nm z j (x.f5.getD j z35) else midF sub x nm z j
theorem getD_set {α : Type} (xs : List α) (i j : Nat) (t d : α) (h : i < xs.length) : (xs.set i t).getD j d = if i = j then t else xs.getD j d := by
 rw [List.getD_eq_getElem?_getD, List.getD_eq_getElem?_getD, List.getElem?_set]
 split
 ·subst_vars
  simp [h]
 ·rfl
theorem Row_start (sub : S35 → ByteArray → S35 → S35) {x : S35} {nm : ByteArray} {z : S35} (h : renB x nm z = false) : Row sub x nm z 0 x.f5 := ⟨rfl, fun j _ => by rw [if_neg (Nat.not_lt_zero j), midF_no sub h]⟩
theorem Row_ren (sub : S35 → ByteArray → S35 → S35) {x : S35} {nm : ByteArray} {z : S35} {i : Nat} (h : (i : Int) = bdAt x) (hr : renB x nm z = true) (hi : i < x.f5.length) : Row sub x nm z 0 (x.f5.set i (sub (x.f5.getD i z35) x.f1 (varT (freshN (frL x nm z))))) := by
 refine ⟨by simp, fun j _ => ?_⟩
 rw [if_neg (Nat.not_lt_zero j), getD_set _ _ _ _ _ hi]
 unfold midF
 by_cases e : i = j
 ·subst e
  rw [if_pos rfl, if_pos ⟨h, hr⟩]
 ·rw [if_neg e, if_neg (fun c => e (by have := c.1; omega))]
theorem Row_at {sub : S35 → ByteArray → S35 → S35} {x : S35} {nm : ByteArray} {z : S35} {i : Nat} {ys : List S35} (h : Row sub x nm z i ys) (hi : i < x.f5.length) : ys.getD i z35 = midF sub x nm z i := by rw [h.2 i hi, if_neg (Nat.lt_irrefl i)]
theorem Row_keep {sub : S35 → ByteArray → S35 → S35} {x : S35} {nm : ByteArray} {z : S35} {i : Nat} {ys : List S35} (h : Row sub x nm z i ys) (hk : argF sub x nm z i (x.f5.getD i z35) = midF sub x nm z i) : Row sub x nm z (i + 1) ys := by
 refine ⟨h.1, fun j hj => ?_⟩
 rw [h.2 j hj]
 by_cases c : j < i
 ·rw [if_pos c, if_pos (by omega)]
 ·rw [if_neg c]
  by_cases e : j = i
  ·subst e; rw [if_pos (by omega), hk]
  ·rw [if_neg (by omega)]
theorem Row_step {sub : S35 → ByteArray → S35 → S35} {x : S35} {nm : ByteArray} {z : S35} {i : Nat} {ys : List S35} (h : Row sub x nm z i ys) (hi : i < x.f5.length) : Row sub x nm z (i + 1) (ys.set i (argF sub x nm z i (x.f5.getD i z35))) := by
 refine ⟨by simpa using h.1, fun j hj => ?_⟩
 rw [getD_set _ _ _ _ _ (by rw [h.1]; exact hi)]
 by_cases e : i = j
 ·subst e; rw [if_pos rfl, if_pos (by omega)]
 ·rw [if_neg e, h.2 j hj]
  by_cases c : j < i
  ·rw [if_pos c, if_pos (by omega)]
  ·rw [if_neg c, if_neg (by omega)]
theorem Row_end {sub : S35 → ByteArray → S35 → S35} {x : S35} {nm : ByteArray} {z : S35} {ys : List S35} (h : Row sub x nm z x.f5.length ys) : ys = argsF sub x nm z := by
 refine List.ext_getElem (by rw [h.1, argsF_len]) (fun j h1 h2 => ?_)
 have hj : j < x.f5.length := by rw [← h.1]; exact h1
 have e1 := h.2 j hj
 rw [if_pos hj, ← argsF_get sub x nm z j hj] at e1
 simpa [List.getD_eq_getElem?_getD, h1, h2] using e1
theorem mid_ok (k : Nat) {x : S35} (nm : ByteArray) {z : S35} {i : Nat} (hx : SmTerm x) (hn : ndTerm x + ndTerm z ≤ 1048578) (hi : i < x.f5.length) : SmTerm (midF (subF k) x nm z i) ∧ ndTerm (midF (subF k) x nm z i) + 1 ≤ ndTerm x := by
 have h1 := hx.p5.2 _ (mem_getD x.f5 z35 i hi)
 have h2 := nd_arg x i hi
 have hz := nd_pos z
 unfold midF
 generalize x.f5.getD i z35 = y at *
 split
 ·rename_i c
  have h3 := (fresh_ev (frL x nm z) (by have := frL_len x nm z (renB_bd c.2); omega)).2.2
  have h4 := nd_subV k y x.f1 (freshN (frL x nm z))
  exact ⟨sm_subF k y x.f1 _ h1 (sm_varT _ (by omega)) (by rw [nd_varT]; omega), by omega⟩
 ·exact ⟨h1, h2⟩
theorem renB_nb {x : S35} {nm : ByteArray} (z : S35) (h : ¬ (0 ≤ bdAt x ∧ ¬ x.f1 = nm)) : renB x nm z = false := by
 unfold renB
 by_cases c : 0 ≤ bdAt x
 ·have d : x.f1 = nm := Classical.byContradiction fun e => h ⟨c, e⟩
  rw [decide_eq_false (show ¬ x.f1 ≠ nm from fun e => e d), Bool.false_and, Bool.and_false]
 ·rw [decide_eq_false c, Bool.false_and]
theorem own_tail {e sz n : Nat} {v : Value} {p cs : List HT} {k : Nat} (h : v.ownBlock = some k) : k ∈ blS (p ++ [HT.row e sz n v cs]) := by
 rw [blS_append]
 exact List.mem_append_right _ (row_own h)
theorem uni_mem : ∀ (l acc : List ByteArray) (s : ByteArray), s ∈ uni acc l ↔ s ∈ acc ∨ s ∈ l
 | [], acc, s => by simp [uni]
 | t :: r, acc, s => by
  by_cases c : hasB acc t = true
  ·rw [uni_step_t r c, uni_mem r acc s, List.mem_cons]
   have := (hasB_iff acc t).1 c
   constructor
   ·rintro (h | h)
    ·exact .inl h
    ·exact .inr (.inr h)
   ·rintro (h | rfl | h)
    ·exact .inl h
    ·exact .inl this
    ·exact .inr h
  ·rw [uni_step_f r c, uni_mem r _ s, List.mem_append]; simp [or_assoc]
theorem frL_uni {x : S35} {nm : ByteArray} (z : S35) {i : Nat} (h : (i : Int) = bdAt x) : freshN (uni [] (sfv z ++ sfv (x.f5.getD i z35)) ++ [nm]) = freshN (frL x nm z) := by
 rw [frL_at z h]
 refine freshN_set (fun s => ?_)
 rw [List.mem_append, List.mem_append, uni_mem]
 simp

end Go.Proofs.YtpckkjeapfdilaaDoor.Px
end
section
namespace Go.Proofs.YtpckkjeapfdilaaDoor.Px
open Go.RowKit Go.Proofs.YtpckkjeapfdilaaDoorW.PrintWords Go.Proofs.YtpckkjeapfdilaaDoorW.PrintLast Go.Proofs.YtpckkjeapfdilaaDoor.Pl Go.Proofs.YtpckkjeapfdilaaDoor.Ext
set_option linter.unusedVariables false
set_option linter.unusedSimpArgs false
theorem TyES_join : ∀ (xs ys : List S32) (a b : List HT), TyES xs a → TyES ys b → TyES (xs ++ ys) (a ++ b)
 | [], ys, a, b, h, h2 => by
  simp only [TyES] at h
  subst h
  exact h2
 | x :: r, ys, a, b, h, h2 => by
  simp only [TyES] at h
  obtain ⟨p, q, rfl, hp, hq⟩ := h
  simp only [List.cons_append, TyES]
  exact ⟨p, q ++ b, by simp [List.append_assoc], hp, TyES_join r ys q b hq h2⟩
theorem TyES_split : ∀ (xs : List S32) (cs : List HT) (i : Nat), TyES xs cs → i < xs.length → ∃ a c b, cs = a ++ c ++ b ∧ a.length = i * 3 ∧ TyES (xs.take i) a ∧ TyE (xs.getD i z32) c ∧ TyES (xs.drop (i + 1)) b
 | [], cs, i, _, hi => by simp at hi
 | x :: r, cs, 0, h, _ => by
  simp only [TyES] at h
  obtain ⟨p, q, rfl, hp, hq⟩ := h
  exact ⟨[], p, q, by simp, by simp, by simp [TyES], by simpa using hp, by simpa using hq⟩
 | x :: r, cs, i + 1, h, hi => by
  simp only [TyES] at h
  obtain ⟨p, q, rfl, hp, hq⟩ := h
  obtain ⟨a, c, b, rfl, h1, h2, h3, h4⟩ := TyES_split r q i hq (by simpa using hi)
  refine ⟨p ++ a, c, b, by simp [List.append_assoc], by rw [List.length_append, h1, TyE_len hp, Nat.add_mul]; omega, ?_, by simpa using h3, by simpa using h4⟩
  simp only [List.take_succ_cons, TyES]
  exact ⟨p, a, rfl, hp, h2⟩
theorem TyES_put {xs : List S32} {i : Nat} {a c b : List HT} {t : S32} (hi : i < xs.length) (h1 : TyES (xs.take i) a) (h2 : TyE t c) (h3 : TyES (xs.drop (i + 1)) b) : TyES (xs.set i t) (a ++ c ++ b) := by
 rw [List.set_eq_take_append_cons_drop, if_pos hi, List.append_assoc]
 refine TyES_join _ _ _ _ h1 ?_
 simp only [TyES]
 exact ⟨c, b, rfl, h2, h3⟩
theorem rowc (e sz n : Nat) (v : Value) (cs : List HT) : blS [HT.row e sz n v cs] = v.ownBlock.toList ++ blS cs := by simp [blS, HT.bl]
theorem row_get {w : World} {base e sz n : Nat} {v : Value} {cs p q s : List HT} (h : Apt w base [.row e sz n v cs]) (hcs : cs = p ++ q ++ s) : Apt w base q := by
 subst hcs
 exact row_part (p := []) h
theorem sub_mem {e sz n : Nat} {v : Value} {cs cs0 p q s : List HT} (hcs : cs = p ++ q ++ s) (hbl : blS cs = blS cs0) : ∀ k ∈ blS q, k ∈ blS [HT.row e sz n v cs0] := fun k hk => by
 rw [rowc, ← hbl, hcs, blS_append, blS_append]
 exact List.mem_append_right _ (List.mem_append_left _ (List.mem_append_right _ hk))
theorem Ok_kept {w w' : World} {base : Nat} {l : List HT} {S : Nat → Prop} (h : OkS w base l) (hk : Kept w w' S) (hd : ∀ x ∈ blS l, ¬ S x) : OkS w' base l := OkS_move l (fun b hb => hk.2 b (OkS_in l h b hb).2 (hd b hb)) h
theorem row_sub {w w' : World} {base e sz n : Nat} {v : Value} {cs cs' p q s q' : List HT} (h : Apt w base [.row e sz n v cs]) (hcs : cs = p ++ q ++ s) (hcs' : cs' = p ++ q' ++ s) (hv : q'.map HT.val = q.map HT.val) (hb : blS q' = blS q) (hq : Apt w' base q') (hk : Kept w w' (fun k => k ∈ blS q)) :
  Apt w' base [.row e sz n v cs'] ∧ blS cs' = blS cs := by
 subst hcs hcs'
 obtain ⟨h1, h2⟩ := h
 simp only [OkS, HT.Ok, and_true] at h1
 have eb : blS (p ++ q' ++ s) = blS (p ++ q ++ s) := by rw [blS_append, blS_append, blS_append, blS_append, hb]
 have nd := h2
 rw [rowc, List.nodup_append] at nd
 have nd2 := nd.2.1
 rw [blS_append, blS_append, List.nodup_append] at nd2
 have nd3 := List.nodup_append.1 nd2.1
 have q1 := (OkS_append (p ++ q) s).1 h1.2
 have q2 := (OkS_append p q).1 q1.1
 refine ⟨⟨?_, by rw [rowc, eb, ← rowc e sz n]; exact h2⟩, eb⟩
 simp only [OkS, HT.Ok, and_true]
 refine ⟨?_, ?_⟩
 ·have hm : (p ++ q' ++ s).map HT.val = (p ++ q ++ s).map HT.val := by simp only [List.map_append, hv]
  rw [hm]
  refine own_move h1.1 (fun k hk' => hk.2 k (own_lt h1.1 k hk') (fun hin => ?_))
  exact nd.2.2 k (by simp [hk']) k (by rw [blS_append, blS_append]; exact List.mem_append_left _ (List.mem_append_right _ hin)) rfl
 ·refine (OkS_append (p ++ q') s).2 ⟨(OkS_append p q').2 ⟨Ok_kept q2.1 hk (fun x hx hin => nd3.2.2 x hx x hin rfl), hq.1⟩, Ok_kept q1.2 hk (fun x hx hin => nd2.2.2 x (List.mem_append_right _ hin) x hx rfl)⟩
theorem row_lf {w : World} {base e sz n g cap o : Nat} {cs cs' p s : List HT} {old u : Value} (h : Apt w base [.row e sz n (.slice (some ⟨g, 0, none⟩) n cap) cs]) (hcs : cs = p ++ [.lf old] ++ s) (hcs' : cs' = p ++ [.lf u] ++ s) (hu : u.oneCell' = true) (ho : p.length = o) :
  Apt (w.setCell ⟨g, o, none⟩ u) base [.row e sz n (.slice (some ⟨g, 0, none⟩) n cap) cs'] ∧ blS cs' = blS cs := by
 subst hcs hcs' ho
 obtain ⟨h1, h2⟩ := h
 simp only [OkS, HT.Ok, and_true] at h1
 have eb : blS (p ++ [.lf u] ++ s) = blS (p ++ [.lf old] ++ s) := by rw [blS_append, blS_append, blS_append, blS_append]; simp [blS, HT.bl]
 have nd := h2
 rw [rowc, List.nodup_append] at nd
 have mv : ∀ x ∈ blS (p ++ [.lf old] ++ s), (w.setCell ⟨g, p.length, none⟩ u).heap[x]? = w.heap[x]? := fun x hx => Below.heap_setCell w ⟨g, p.length, none⟩ u x (fun he => nd.2.2 g (by simp [Value.ownBlock]) x hx he.symm)
 have q1 := (OkS_append (p ++ [.lf old]) s).1 (OkS_move _ mv h1.2)
 have q2 := (OkS_append p [.lf old]).1 q1.1
 refine ⟨⟨?_, by rw [rowc, eb, ← rowc e sz n]; exact h2⟩, eb⟩
 simp only [OkS, HT.Ok, and_true]
 refine ⟨?_, (OkS_append (p ++ [.lf u]) s).2 ⟨(OkS_append p [.lf u]).2 ⟨q2.1, by simp only [OkS, HT.Ok]; exact ⟨hu, trivial⟩⟩, q1.2⟩⟩
 have h3 := own_sets [u] [old] (p.map HT.val) (s.map HT.val) rfl (by simpa only [List.map_append, List.map_cons, List.map_nil, HT.val] using h1.1)
 rw [List.length_map] at h3
 simp only [List.map_append, List.map_cons, List.map_nil, HT.val]
 exact h3
theorem row_at0 {w : World} {base e sz n : Nat} {v : Value} {cs p q s : List HT} (h : Apt w base [.row e sz n v cs]) (hcs : cs = p ++ q ++ s) (hc : 0 < q.length) (hn : 0 < n) : ∃ g cap, v = .slice (some ⟨g, 0, none⟩) n cap ∧ base ≤ g := by
 subst hcs
 obtain ⟨g, cap, e1, h1, _⟩ := row_at (p := []) h hc (fun h0 => absurd hn (by omega))
 exact ⟨g, cap, e1, h1⟩
theorem row_cell0 {w : World} {base e sz n g cap : Nat} {cs : List HT} (h : Apt w base [.row e sz n (.slice (some ⟨g, 0, none⟩) n cap) cs]) {a c b : List HT} (hcs : cs = a ++ c ++ b) {o : Nat} (ho : a.length = o) (j : Nat) {u : Value} (hu : (c.map HT.val)[j]? = some u) : w.cell? ⟨g, o + j, none⟩ = some u := by
 subst hcs
 exact row_cell (p := []) h ho j hu
theorem row_frozen0 {w : World} {base e sz n g cap : Nat} {cs : List HT} (h : Apt w base [.row e sz n (.slice (some ⟨g, 0, none⟩) n cap) cs]) (j : Nat) : w.frozen? ⟨g, j, none⟩ = false := row_frozen (p := []) h j
theorem strR_ap {v : Value} (l l' : List ByteArray) : blS [strR v l'] = blS [strR v l] := by simp only [blS, List.append_nil, strR_bl]
theorem strR_R {w : World} {base : Nat} {v : Value} {l : List ByteArray} (h : Apt w base [strR v l]) : Kd.R Kd.string 9 w base (fun k => v.ownBlock = some k) v l := R_of_strR (by have := h.1; simp only [OkS, and_true] at this; exact this)
theorem lst_get {w : World} {base : Nat} {p q s : List HT} (h : Apt w base (p ++ q ++ s)) : Apt w base q := (Apt_parts (Apt_parts h).1).2.1
theorem lst_sub {w w' : World} {base : Nat} {p q s q' : List HT} (h : Apt w base (p ++ q ++ s)) (hb : blS q' = blS q) (hq : Apt w' base q') (hk : Kept w w' (fun k => k ∈ blS q)) : Apt w' base (p ++ q' ++ s) ∧ blS (p ++ q' ++ s) = blS (p ++ q ++ s) := by
 have eb : blS (p ++ q' ++ s) = blS (p ++ q ++ s) := by rw [blS_append, blS_append, blS_append, blS_append, hb]
 have h1 := Apt_parts h
 have h2 := Apt_parts h1.1
 refine ⟨⟨(OkS_append (p ++ q') s).2 ⟨(OkS_append p q').2 ⟨Ok_kept h2.1.1 hk (fun x hx hin => h2.2.2 x hx x hin rfl), hq.1⟩, Ok_kept h1.2.1.1 hk (fun x hx hin => h1.2.2 x (by rw [blS_append]; exact List.mem_append_right _ hin) x hx rfl)⟩, by rw [eb]; exact h.2⟩, eb⟩
theorem lst_mem {p q s : List HT} {k : Nat} (h : k ∈ blS q) : k ∈ blS (p ++ q ++ s) := by
 rw [blS_append, blS_append]
 exact List.mem_append_left _ (List.mem_append_right _ h)
theorem Apt_kept {w w' : World} {base : Nat} {l : List HT} {S : Nat → Prop} (h : Apt w base l) (hk : Kept w w' S) (hd : ∀ x ∈ blS l, ¬ S x) : Apt w' base l := ⟨Ok_kept h.1 hk hd, h.2⟩
theorem TeE_C4 {w : World} {base : Nat} {y : S35} {P1 P2 P3 P4 : Option Addr} {q1 q2 q3 q4 : Nat} {us cs : List HT}
  (h : Apt w base [strR (.slice P1 y.f3.f1.length q1) y.f3.f1, .row 32 3 y.f3.f2.length (.slice P2 y.f3.f2.length q2) us, strR (.slice P3 y.f4.length q3) y.f4, .row 35 8 y.f5.length (.slice P4 y.f5.length q4) cs])
  (hu : TyES y.f3.f2 us) (hc : TeES y.f5 cs) :
  (Kd.C Kd.string w P1 y.f3.f1.length y.f3.f1 ∧ y.f3.f1.length ≤ q1) ∧ (Kd.C k32 w P2 y.f3.f2.length y.f3.f2 ∧ y.f3.f2.length ≤ q2) ∧ (Kd.C Kd.string w P3 y.f4.length y.f4 ∧ y.f4.length ≤ q3) ∧ (Kd.C k35 w P4 y.f5.length y.f5 ∧ y.f5.length ≤ q4) :=
 TeE_C (Apt_lf (.int .i64 y.f0) rfl (Apt_lf (.string y.f1) rfl (Apt_lf (.int .i64 y.f2) rfl (Apt_lf (.int .i64 y.f3.f0) rfl h)))) hu hc

end Go.Proofs.YtpckkjeapfdilaaDoor.Px
end
section
namespace Go.Proofs.YtpckkjeapfdilaaDoor.Px
open Go.RowKit Go.Proofs.YtpckkjeapfdilaaDoorW.PrintWords Go.Proofs.YtpckkjeapfdilaaDoorW.PrintLast Go.Proofs.YtpckkjeapfdilaaDoor.Pl Go.Proofs.YtpckkjeapfdilaaDoor.Ext
set_option linter.unusedVariables false
set_option linter.unusedSimpArgs false
theorem strOne (n : Int) : (strOfNums [n]).size = 1 := by simp [strOfNums]; rfl
theorem markLoop_ex : ∀ (m : Nat) (x : Int) (s : ByteArray), 0 ≤ x → x ≤ 4611686018427387904 → x < (10 : Int) ^ m → s.size + m ≤ 1000 → ∃ r, Ev (fun k => laws_markText.l0 k x s) r := by
  intro m
  induction m with
  | zero =>
    intro x s h0 hb h1 hs
    refine ⟨(⟨#[109]⟩ : ByteArray) ++ s, Ev.up ?_⟩
    simp only [laws_markText.l0]
    exact Ev.neg (by simp at h1; omega) (Ev.pos (by omega) (Ev.now _))
  | succ m ih =>
    intro x s h0 hb h1 hs
    by_cases hx : x > 0
    · have ht : Int.tdiv x 10 = x / 10 := Int.tdiv_eq_ediv_of_nonneg h0
      have hw : wrap64 (Int.tdiv x 10) = x / 10 := by rw [ht]; exact w64 (by omega) (by omega)
      have hl : x / 10 < (10 : Int) ^ m := by
        rw [Int.pow_succ] at h1
        omega
      obtain ⟨r, hr⟩ := ih (x / 10) (strOfNums [(wrap64 (48 + (Int.tmod x 10))) % 256] ++ s) (by omega) (by omega) hl (by rw [ByteArray.size_append, strOne]; omega)
      refine ⟨r, Ev.up ?_⟩
      simp only [laws_markText.l0]
      refine Ev.pos hx ?_
      refine Ev.none_bind (Ev.pos (by rw [strOne]; omega) ?_)
      rw [hw]
      exact hr
    · refine ⟨(⟨#[109]⟩ : ByteArray) ++ s, Ev.up ?_⟩
      simp only [laws_markText.l0]
      exact Ev.neg hx (Ev.pos (by omega) (Ev.now _))
theorem markText_ex (a : Int) (hb : a ≤ 4611686018427387904) : ∃ r, Ev (fun k => laws_markText.f k a) r := by
  by_cases h : a ≤ 0
  · refine ⟨(⟨#[109, 48]⟩ : ByteArray), ?_⟩
    simp only [laws_markText.f]
    exact Ev.pos h (Ev.now _)
  · obtain ⟨r, hr⟩ := markLoop_ex 19 a ⟨#[]⟩ (by omega) hb (by omega) (by decide)
    refine ⟨r, ?_⟩
    simp only [laws_markText.f]
    exact Ev.neg h hr
open Classical in
noncomputable def mt (a : Int) : ByteArray := if h : ∃ r, Ev (fun k => laws_markText.f k a) r then h.choose else ⟨#[]⟩
theorem mt_ev (a : Int) (hb : a ≤ 4611686018427387904) : Ev (fun k => laws_markText.f k a) (mt a) := by
  have h := markText_ex a hb
  unfold mt
  rw [dif_pos h]
  exact h.choose_spec
noncomputable def mtS (a : Int) : Nat → List ByteArray
  | 0 => []
  | n + 1 => mt a :: mtS (a + 1) n
theorem mtS_length : ∀ (n : Nat) (a : Int), (mtS a n).length = n
  | 0, _ => rfl
  | n + 1, a => by simp [mtS, mtS_length n]
theorem markLoopS_ev (xs : List ByteArray) (hx : xs.length ≤ 2097152) : ∀ (m i : Nat) (out : List ByteArray) (a : Int), i + m = xs.length → out.length = xs.length → 0 ≤ a → a + m ≤ 4611686018427387904 →
    Ev (fun k => laws_markStringS.l0 k out a (i : Int)) (a + m, out.take i ++ mtS a m) := by
  intro m
  induction m with
  | zero =>
    intro i out a hi hl h0 hb
    refine Ev.up ?_
    simp only [laws_markStringS.l0]
    refine Ev.neg (by omega) (Ev.const ?_)
    rw [List.take_of_length_le (by omega)]
    simp [mtS]
  | succ m ih =>
    intro i out a hi hl h0 hb
    refine Ev.up ?_
    simp only [laws_markStringS.l0]
    refine Ev.pos (by omega) (Ev.bind (mt_ev a (by omega)) (Ev.pos (by omega) ?_))
    rw [w1 (show i < xs.length by omega) (by unfold maxLen; omega), show wrap64 (a + 1) = a + 1 from w64 (by omega) (by omega)]
    refine Ev.eq (ih (i + 1) (out.set i (mt a)) (a + 1) (by omega) (by simpa using hl) (by omega) (by omega)) ?_
    rw [List.take_succ_eq_append_getElem (by simp; omega)]
    simp only [List.getElem_set_self, List.take_set_of_le (Nat.le_refl i), mtS, List.append_assoc, List.singleton_append, Prod.mk.injEq, and_true]
    omega
theorem markStringS_ev (xs : List ByteArray) (hx : xs.length ≤ 2097152) (a : Int) (h0 : 0 ≤ a) (hb : a + xs.length ≤ 4611686018427387904) : Ev (fun k => laws_markStringS.f k xs a) (a + xs.length, mtS a xs.length) := by
  simp only [laws_markStringS.f]
  simpa using markLoopS_ev xs hx xs.length 0 xs a (by omega) rfl h0 hb
theorem mtS_getD (d : ByteArray) : ∀ (n i : Nat) (a : Int), i < n → (mtS a n).getD i d = mt (a + i)
  | 0, i, _, h => by omega
  | n + 1, 0, a, _ => by simp [mtS]
  | n + 1, i + 1, a, h => by
    have := mtS_getD d n i (a + 1) (by omega)
    simp only [mtS, List.getD_cons_succ, this]
    congr 1
    omega
theorem heldStringS_ev (n : Nat) (hn : n ≤ 2097152) (a : Int) (h0 : 0 ≤ a) (hb : a + n ≤ 4611686018427387904) : Ev (fun k => laws_heldStringS.f k (mtS a n) a) (a + n) := by
  suffices h : ∀ (m i : Nat), i + m = n → Ev (fun k => laws_heldStringS.l0 k (mtS a n) (a + i) (i : Int)) (a + n) by
    simp only [laws_heldStringS.f]
    simpa using h n 0 (by omega)
  intro m
  induction m with
  | zero =>
    intro i hi
    refine Ev.up ?_
    simp only [laws_heldStringS.l0, mtS_length]
    exact Ev.neg (by omega) (Ev.const (by omega))
  | succ m ih =>
    intro i hi
    refine Ev.up ?_
    simp only [laws_heldStringS.l0, mtS_length]
    refine Ev.pos (by omega) (Ev.pos (by omega) (Ev.bind (mt_ev (a + i) (by omega)) (Ev.pos ?_ ?_)))
    · rw [rdOf_str, mtS_getD _ n i a (by omega)]
    · rw [w1 (show i < n by omega) (by unfold maxLen; omega), show wrap64 (a + i + 1) = a + ((i + 1 : Nat) : Int) from by rw [w64 (by omega) (by omega)]; omega]
      exact ih (i + 1) (by omega)
theorem markStringS_own (xs : List ByteArray) (hx : xs.length ≤ 2097152) (a : Int) (h0 : 0 ≤ a) (hb : a + xs.length ≤ 4611686018427387904) (v : Value) (ok : Nat → Prop) (w0 w : World) (hB : Below w0.heap.size w0 w) (ho : Kd.R Kd.string 9 w w0.heap.size ok v xs) :
    Calls Tryd.prog 36 #[v, .int .i64 a] w fun e w' => e = .returned (.int .i64 (a + xs.length)) ∧ Kd.R Kd.string 9 w' w0.heap.size ok v (mtS a xs.length) ∧ Below w0.heap.size w0 w' ∧ Kept w w' ok := by
  obtain ⟨K, hK⟩ := markStringS_ev xs hx a h0 hb
  refine (laws_markStringS.calls K ok v xs a _ _ w0 w hB ho (hK K (Nat.le_refl K))).mono ?_
  rintro e w' ⟨he, hr, hb', hk⟩
  exact ⟨he, Kd.R_reok rfl hr ho.1, hb', hk⟩
theorem markText_own (a : Int) (hb : a ≤ 4611686018427387904) (w : World) : Calls Tryd.prog 51 #[.int .i64 a] w fun e w' => e = .returned (.string (mt a)) ∧ Below w.heap.size w w' := by
  obtain ⟨K, hK⟩ := mt_ev a hb
  exact laws_markText.calls K a _ w (hK K (Nat.le_refl K))

end Go.Proofs.YtpckkjeapfdilaaDoor.Px
end
section
namespace Go.Proofs.YtpckkjeapfdilaaDoor.Px
open Go.RowKit Go.Proofs.YtpckkjeapfdilaaDoorW.PrintWords Go.Proofs.YtpckkjeapfdilaaDoorW.PrintLast Go.Proofs.YtpckkjeapfdilaaDoor.Pl Go.Proofs.YtpckkjeapfdilaaDoor.Ext
set_option linter.unusedVariables false
set_option linter.unusedSimpArgs false
structure Sw (S : Nat → Prop) (w w' : World) : Prop where
  kept : Kept w w' S
  num : ∀ a n, w.cell? a = some (.int .i64 n) → ∃ m, w'.cell? a = some (.int .i64 m)
  str : ∀ a s, w.cell? a = some (.string s) → ∃ t, w'.cell? a = some (.string t)
  row : ∀ a A n c, w.cell? a = some (.slice A n c) → w'.cell? a = some (.slice A n c)
  fro : ∀ a : Addr, a.block < w.heap.size → w'.frozen? a = w.frozen? a
  still : Below 0 w w'
theorem Sw.refl (S : Nat → Prop) (w : World) : Sw S w w := ⟨Kept.refl w S, fun _ n h => ⟨n, h⟩, fun _ s h => ⟨s, h⟩, fun _ _ _ _ h => h, fun _ _ => rfl, Below.refl 0 w⟩
theorem Sw.then_ {S : Nat → Prop} {w w1 w2 : World} (h : Sw S w w1) (h2 : Sw S w1 w2) : Sw S w w2 where
  kept := h.kept.then_ h2.kept (fun _ hk => .inl hk)
  num := fun a n hn => by obtain ⟨m, hm⟩ := h.num a n hn; exact h2.num a m hm
  str := fun a n hn => by obtain ⟨m, hm⟩ := h.str a n hn; exact h2.str a m hm
  row := fun a A n c hc => h2.row a A n c (h.row a A n c hc)
  fro := fun a ha => (h2.fro a (Nat.lt_of_lt_of_le ha h.kept.1)).trans (h.fro a ha)
  still := ⟨h2.still.os.trans h.still.os, h2.still.tape.trans h.still.tape, h2.still.output.trans h.still.output, Nat.le_trans h.still.size h2.still.size, fun _ hk => absurd hk (Nat.not_lt_zero _)⟩
theorem Sw.of_below {w w1 : World} (S : Nat → Prop) (hb : Below w.heap.size w w1) : Sw S w w1 where
  kept := Kept.of_below hb S
  num := fun a n hn => ⟨n, pw_cell_below hb hn⟩
  str := fun a n hn => ⟨n, pw_cell_below hb hn⟩
  row := fun a A n c hc => pw_cell_below hb hc
  fro := fun a ha => by simp only [World.frozen?, hb.block a.block ha]
  still := ⟨hb.os, hb.tape, hb.output, hb.size, fun _ hk => absurd hk (Nat.not_lt_zero _)⟩
theorem Sw.below {S : Nat → Prop} {w w1 w2 : World} (h : Sw S w w1) (hb : Below w1.heap.size w1 w2) : Sw S w w2 := h.then_ (Sw.of_below S hb)
theorem Sw.set_num {S : Nat → Prop} {w : World} {p : Addr} {n : Int} (h : w.cell? p = some (.int .i64 n)) (hS : S p.block) (m : Int) : Sw S w (w.setCell p (.int .i64 m)) where
  kept := (Kept.refl w S).setCell (.inl hS) _
  num := fun a k hk => by
    by_cases e : p = a
    · subst e; exact ⟨m, World.cell?_setCell_same _ _ _ h⟩
    · exact ⟨k, (World.cell?_setCell_other _ _ _ _ e).trans hk⟩
  str := fun a k hk => by
    have e : p ≠ a := by rintro rfl; rw [h] at hk; cases hk
    exact ⟨k, (World.cell?_setCell_other _ _ _ _ e).trans hk⟩
  row := fun a A k c hk => by
    have e : p ≠ a := by rintro rfl; rw [h] at hk; cases hk
    exact (World.cell?_setCell_other _ _ _ _ e).trans hk
  fro := fun a _ => World.frozen?_setCell _ _ _ _
  still := (Below.refl 0 w).setCell (Nat.zero_le _) _
theorem Sw.set_str {S : Nat → Prop} {w : World} {p : Addr} {s : ByteArray} (h : w.cell? p = some (.string s)) (hS : S p.block) (t : ByteArray) : Sw S w (w.setCell p (.string t)) where
  kept := (Kept.refl w S).setCell (.inl hS) _
  str := fun a k hk => by
    by_cases e : p = a
    · subst e; exact ⟨t, World.cell?_setCell_same _ _ _ h⟩
    · exact ⟨k, (World.cell?_setCell_other _ _ _ _ e).trans hk⟩
  num := fun a k hk => by
    have e : p ≠ a := by rintro rfl; rw [h] at hk; cases hk
    exact ⟨k, (World.cell?_setCell_other _ _ _ _ e).trans hk⟩
  row := fun a A k c hk => by
    have e : p ≠ a := by rintro rfl; rw [h] at hk; cases hk
    exact (World.cell?_setCell_other _ _ _ _ e).trans hk
  fro := fun a _ => World.frozen?_setCell _ _ _ _
  still := (Below.refl 0 w).setCell (Nat.zero_le _) _
theorem Sw.old {S : Nat → Prop} {w0 w w' : World} (h : Below w0.heap.size w0 w) (hs : Sw S w w') (hS : ∀ k, S k → w0.heap.size ≤ k) : Below w0.heap.size w0 w' :=
  ⟨hs.still.os.trans h.os, hs.still.tape.trans h.tape, hs.still.output.trans h.output, Nat.le_trans h.size hs.kept.1, fun k hk => (hs.kept.2 k (Nat.lt_of_lt_of_le hk h.size) (fun h2 => absurd (hS k h2) (Nat.not_le_of_lt hk))).trans (h.block k hk)⟩
def NumAt (S : Nat → Prop) (w : World) (g j : Nat) : Prop := S g ∧ (∃ n, w.cell? ⟨g, j, none⟩ = some (.int .i64 n)) ∧ w.frozen? ⟨g, j, none⟩ = false
def StrAt (S : Nat → Prop) (w : World) (g j : Nat) : Prop := S g ∧ (∃ s, w.cell? ⟨g, j, none⟩ = some (.string s)) ∧ w.frozen? ⟨g, j, none⟩ = false
theorem NumAt.step {S S' S0 : Nat → Prop} {w w' : World} {g j : Nat} (hS : ∀ k, S k → S' k) (hw : Sw S0 w w') (h : NumAt S w g j) : NumAt S' w' g j := by
  obtain ⟨h1, ⟨n, h2⟩, h3⟩ := h
  exact ⟨hS _ h1, hw.num _ _ h2, (hw.fro _ (World.block_lt_of_cell? _ _ h2)).trans h3⟩
theorem StrAt.step {S S' S0 : Nat → Prop} {w w' : World} {g j : Nat} (hS : ∀ k, S k → S' k) (hw : Sw S0 w w') (h : StrAt S w g j) : StrAt S' w' g j := by
  obtain ⟨h1, ⟨n, h2⟩, h3⟩ := h
  exact ⟨hS _ h1, hw.str _ _ h2, (hw.fro _ (World.block_lt_of_cell? _ _ h2)).trans h3⟩
def ShL (S : Nat → Prop) (w : World) (A : Option Addr) (n : Nat) : Prop := ∀ i, i < n → ∃ g, A = some ⟨g, 0, none⟩ ∧ StrAt S w g i
theorem ShL.step {S S' S0 : Nat → Prop} {w w' : World} {A : Option Addr} {n : Nat} (hS : ∀ k, S k → S' k) (hw : Sw S0 w w') (h : ShL S w A n) : ShL S' w' A n := by
  intro i hi
  obtain ⟨g, hA, h1⟩ := h i hi
  exact ⟨g, hA, h1.step hS hw⟩
mutual
def ShT (S : Nat → Prop) (w : World) : S32 → Nat → Nat → Prop
  | ⟨_, ls, xs⟩, g, j => NumAt S w g j ∧ (∃ A c, w.cell? ⟨g, j + 1, none⟩ = some (.slice A ls.length c) ∧ ShL S w A ls.length) ∧ (∃ A c, w.cell? ⟨g, j + 2, none⟩ = some (.slice A xs.length c) ∧ ShTS S w xs A 0)
def ShTS (S : Nat → Prop) (w : World) : List S32 → Option Addr → Nat → Prop
  | [], _, _ => True
  | x :: r, A, i => (∃ g, A = some ⟨g, 0, none⟩ ∧ ShT S w x g (i * 3)) ∧ ShTS S w r A (i + 1)
end
mutual
def ShE (S : Nat → Prop) (w : World) : S35 → Nat → Nat → Prop
  | ⟨_, _, _, ⟨_, ls, ts⟩, ms, xs⟩, g, j => NumAt S w g j ∧ StrAt S w g (j + 1) ∧ NumAt S w g (j + 2) ∧ NumAt S w g (j + 3) ∧ (∃ A c, w.cell? ⟨g, j + 4, none⟩ = some (.slice A ls.length c) ∧ ShL S w A ls.length) ∧ (∃ A c, w.cell? ⟨g, j + 5, none⟩ = some (.slice A ts.length c) ∧ ShTS S w ts A 0) ∧ (∃ A c, w.cell? ⟨g, j + 6, none⟩ = some (.slice A ms.length c) ∧ ShL S w A ms.length) ∧ (∃ A c, w.cell? ⟨g, j + 7, none⟩ = some (.slice A xs.length c) ∧ ShES S w xs A 0)
def ShES (S : Nat → Prop) (w : World) : List S35 → Option Addr → Nat → Prop
  | [], _, _ => True
  | x :: r, A, i => (∃ g, A = some ⟨g, 0, none⟩ ∧ ShE S w x g (i * 8)) ∧ ShES S w r A (i + 1)
end
mutual
theorem ShT.step {S S' S0 : Nat → Prop} {w w' : World} (hS : ∀ k, S k → S' k) (hw : Sw S0 w w') : ∀ {x : S32} {g j : Nat}, ShT S w x g j → ShT S' w' x g j
  | ⟨_, ls, xs⟩, g, j, h => by
    rw [ShT] at h ⊢
    obtain ⟨h0, ⟨A1, c1, h1, g1⟩, A2, c2, h2, g2⟩ := h
    exact ⟨h0.step hS hw, ⟨A1, c1, hw.row _ _ _ _ h1, g1.step hS hw⟩, A2, c2, hw.row _ _ _ _ h2, ShTS.step hS hw g2⟩
theorem ShTS.step {S S' S0 : Nat → Prop} {w w' : World} (hS : ∀ k, S k → S' k) (hw : Sw S0 w w') : ∀ {xs : List S32} {A : Option Addr} {i : Nat}, ShTS S w xs A i → ShTS S' w' xs A i
  | [], A, i, h => by rw [ShTS]; trivial
  | x :: r, A, i, h => by
    rw [ShTS] at h ⊢
    obtain ⟨⟨g, hA, h1⟩, h2⟩ := h
    exact ⟨⟨g, hA, ShT.step hS hw h1⟩, ShTS.step hS hw h2⟩
end
mutual
theorem ShE.step {S S' S0 : Nat → Prop} {w w' : World} (hS : ∀ k, S k → S' k) (hw : Sw S0 w w') : ∀ {x : S35} {g j : Nat}, ShE S w x g j → ShE S' w' x g j
  | ⟨_, _, _, ⟨_, ls, ts⟩, ms, xs⟩, g, j, h => by
    rw [ShE] at h ⊢
    obtain ⟨h0, h1, h2, h3, ⟨A4, c4, h4, g4⟩, ⟨A5, c5, h5, g5⟩, ⟨A6, c6, h6, g6⟩, A7, c7, h7, g7⟩ := h
    exact ⟨h0.step hS hw, h1.step hS hw, h2.step hS hw, h3.step hS hw, ⟨A4, c4, hw.row _ _ _ _ h4, g4.step hS hw⟩, ⟨A5, c5, hw.row _ _ _ _ h5, ShTS.step hS hw g5⟩, ⟨A6, c6, hw.row _ _ _ _ h6, g6.step hS hw⟩, A7, c7, hw.row _ _ _ _ h7, ShES.step hS hw g7⟩
theorem ShES.step {S S' S0 : Nat → Prop} {w w' : World} (hS : ∀ k, S k → S' k) (hw : Sw S0 w w') : ∀ {xs : List S35} {A : Option Addr} {i : Nat}, ShES S w xs A i → ShES S' w' xs A i
  | [], A, i, h => by rw [ShES]; trivial
  | x :: r, A, i, h => by
    rw [ShES] at h ⊢
    obtain ⟨⟨g, hA, h1⟩, h2⟩ := h
    exact ⟨⟨g, hA, ShE.step hS hw h1⟩, ShES.step hS hw h2⟩
end
theorem ShTS.at_ {S : Nat → Prop} {w : World} : ∀ {xs : List S32} {A : Option Addr} {i0 : Nat}, ShTS S w xs A i0 → ∀ i, i < xs.length → ∃ g, A = some ⟨g, 0, none⟩ ∧ ShT S w (xs.getD i z32) g ((i0 + i) * 3)
  | [], _, _, _, i, hi => absurd hi (by simp)
  | x :: r, A, i0, h, 0, _ => by rw [ShTS] at h; exact h.1
  | x :: r, A, i0, h, i + 1, hi => by
    rw [ShTS] at h
    have := ShTS.at_ h.2 i (by simpa using hi)
    rw [show i0 + 1 + i = i0 + (i + 1) by omega] at this
    simpa using this
theorem ShES.at_ {S : Nat → Prop} {w : World} : ∀ {xs : List S35} {A : Option Addr} {i0 : Nat}, ShES S w xs A i0 → ∀ i, i < xs.length → ∃ g, A = some ⟨g, 0, none⟩ ∧ ShE S w (xs.getD i z35) g ((i0 + i) * 8)
  | [], _, _, _, i, hi => absurd hi (by simp)
  | x :: r, A, i0, h, 0, _ => by rw [ShES] at h; exact h.1
  | x :: r, A, i0, h, i + 1, hi => by
    rw [ShES] at h
    have := ShES.at_ h.2 i (by simpa using hi)
    rw [show i0 + 1 + i = i0 + (i + 1) by omega] at this
    simpa using this
theorem ShTS.of {S : Nat → Prop} {w : World} {A : Option Addr} : ∀ {xs : List S32} {i0 : Nat}, (∀ i, i < xs.length → ∃ g, A = some ⟨g, 0, none⟩ ∧ ShT S w (xs.getD i z32) g ((i0 + i) * 3)) → ShTS S w xs A i0
  | [], _, _ => by rw [ShTS]; trivial
  | x :: r, i0, h => by
    rw [ShTS]
    refine ⟨by simpa using h 0 (by simp), ShTS.of fun i hi => ?_⟩
    have := h (i + 1) (by simpa using hi)
    rw [show i0 + 1 + i = i0 + (i + 1) by omega]
    simpa using this
theorem ShES.of {S : Nat → Prop} {w : World} {A : Option Addr} : ∀ {xs : List S35} {i0 : Nat}, (∀ i, i < xs.length → ∃ g, A = some ⟨g, 0, none⟩ ∧ ShE S w (xs.getD i z35) g ((i0 + i) * 8)) → ShES S w xs A i0
  | [], _, _ => by rw [ShES]; trivial
  | x :: r, i0, h => by
    rw [ShES]
    refine ⟨by simpa using h 0 (by simp), ShES.of fun i hi => ?_⟩
    have := h (i + 1) (by simpa using hi)
    rw [show i0 + 1 + i = i0 + (i + 1) by omega]
    simpa using this
theorem shL_of {w : World} {base : Nat} {ok : Nat → Prop} {v : Value} {xs : List ByteArray} (h : Kd.R Kd.string 9 w base ok v xs) : ∃ A c, v = .slice A xs.length c ∧ ShL ok w A xs.length := by
  obtain ⟨A, c, rfl⟩ := Kd.R_slice h
  refine ⟨A, c, rfl, fun i hi => ?_⟩
  obtain ⟨g, cap, e, _⟩ := Kd.R_form h (by omega)
  injection e with e1 _ e3
  subst e1
  have h2 := Kd.R_cell (⟨#[]⟩ : ByteArray) h (i : Int) (by omega) (by omega)
  exact ⟨g, rfl, h.1 g rfl, ⟨_, h2.1⟩, h2.2⟩
theorem shT_of : ∀ x : S32, ∀ {w : World} {base : Nat} {ok : Nat → Prop} {g j : Nat} {c : List Value}, k32.M w base ok x c → ok g → (∀ q u, c[q]? = some u → w.cell? ⟨g, j + q, none⟩ = some u) → w.frozen? ⟨g, j, none⟩ = false → ShT ok w x g j := by
  refine indTypeI fun x ih => ?_
  intro w base ok g j c hM hg hc hf
  obtain ⟨v1, v2, rfl, h1, h2⟩ := k32_openM hM
  obtain ⟨A1, c1, rfl, g1⟩ := shL_of h1
  obtain ⟨A2, c2, rfl⟩ := Kd.R_slice h2
  obtain ⟨a, ls, xs⟩ := x
  rw [ShT]
  refine ⟨⟨hg, ⟨_, hc 0 _ rfl⟩, hf⟩, ⟨A1, c1, hc 1 _ rfl, g1⟩, A2, c2, hc 2 _ rfl, ShTS.of fun i hi => ?_⟩
  obtain ⟨g2, cap, e, _⟩ := Kd.R_form h2 (show 0 < xs.length by omega)
  injection e with e1 _ e3
  subst e1
  obtain ⟨c', _, hM', hc', hf'⟩ := Kd.R_elem h2 z32 (i : Int) (by omega) (show (i : Int) < (xs.length : Int) by omega)
  refine ⟨g2, rfl, ?_⟩
  have hm := ih (xs.getD i z32) (mem_getD xs z32 i hi) (g := g2) (j := (0 + i) * 3) (c := c') (ok := ok) (base := base) (k32.M_mono (fun k hk => hk.1) hM') (h2.1 g2 rfl)
  exact hm (fun q u hq => by rw [Nat.zero_add]; exact hc' q u hq) (by rw [Nat.zero_add]; exact hf' 0)
theorem shTS_of {w : World} {base : Nat} {ok : Nat → Prop} {v : Value} {xs : List S32} (h2 : Kd.R k32 32 w base ok v xs) : ∃ A c, v = .slice A xs.length c ∧ ShTS ok w xs A 0 := by
  obtain ⟨A2, c2, rfl⟩ := Kd.R_slice h2
  refine ⟨A2, c2, rfl, ShTS.of fun i hi => ?_⟩
  obtain ⟨g2, cap, e, _⟩ := Kd.R_form h2 (show 0 < xs.length by omega)
  injection e with e1 _ e3
  subst e1
  obtain ⟨c', _, hM', hc', hf'⟩ := Kd.R_elem h2 z32 (i : Int) (by omega) (show (i : Int) < (xs.length : Int) by omega)
  exact ⟨g2, rfl, shT_of _ (k32.M_mono (fun k hk => hk.1) hM') (h2.1 g2 rfl) (fun q u hq => by rw [Nat.zero_add]; exact hc' q u hq) (by rw [Nat.zero_add]; exact hf' 0)⟩
theorem shE_of : ∀ x : S35, ∀ {w : World} {base : Nat} {ok : Nat → Prop} {g j : Nat} {c : List Value}, k35.M w base ok x c → ok g → (∀ q u, c[q]? = some u → w.cell? ⟨g, j + q, none⟩ = some u) → (∀ q, w.frozen? ⟨g, j + q, none⟩ = false) → ShE ok w x g j := by
  refine indTermI fun x ih => ?_
  intro w base ok g j c hM hg hc hf
  obtain ⟨v4, v5, v6, v7, rfl, h4, h5, h6, h7⟩ := k35_openM hM
  obtain ⟨A4, c4, rfl, g4⟩ := shL_of h4
  obtain ⟨A5, c5, rfl, g5⟩ := shTS_of h5
  obtain ⟨A6, c6, rfl, g6⟩ := shL_of h6
  obtain ⟨A7, c7, rfl⟩ := Kd.R_slice h7
  obtain ⟨a, nm, n, ⟨b, ls, ts⟩, ms, xs⟩ := x
  rw [ShE]
  refine ⟨⟨hg, ⟨_, hc 0 _ rfl⟩, hf 0⟩, ⟨hg, ⟨_, hc 1 _ rfl⟩, hf 1⟩, ⟨hg, ⟨_, hc 2 _ rfl⟩, hf 2⟩, ⟨hg, ⟨_, hc 3 _ rfl⟩, hf 3⟩, ⟨A4, c4, hc 4 _ rfl, g4⟩, ⟨A5, c5, hc 5 _ rfl, g5⟩, ⟨A6, c6, hc 6 _ rfl, g6⟩, A7, c7, hc 7 _ rfl, ShES.of fun i hi => ?_⟩
  obtain ⟨g2, cap, e, _⟩ := Kd.R_form h7 (show 0 < xs.length by omega)
  injection e with e1 _ e3
  subst e1
  obtain ⟨c', _, hM', hc', hf'⟩ := Kd.R_elem h7 z35 (i : Int) (by omega) (show (i : Int) < (xs.length : Int) by omega)
  refine ⟨g2, rfl, ?_⟩
  have hm := ih (xs.getD i z35) (mem_getD xs z35 i hi) (g := g2) (j := (0 + i) * 8) (c := c') (ok := ok) (base := base) (k35.M_mono (fun k hk => hk.1) hM') (h7.1 g2 rfl)
  exact hm (fun q u hq => by rw [Nat.zero_add]; exact hc' q u hq) (fun q => by rw [Nat.zero_add]; exact hf' q)
theorem shES_of {w : World} {base : Nat} {ok : Nat → Prop} {v : Value} {xs : List S35} (h7 : Kd.R k35 35 w base ok v xs) : ∃ A c, v = .slice A xs.length c ∧ ShES ok w xs A 0 := by
  obtain ⟨A2, c2, rfl⟩ := Kd.R_slice h7
  refine ⟨A2, c2, rfl, ShES.of fun i hi => ?_⟩
  obtain ⟨g2, cap, e, _⟩ := Kd.R_form h7 (show 0 < xs.length by omega)
  injection e with e1 _ e3
  subst e1
  obtain ⟨c', _, hM', hc', hf'⟩ := Kd.R_elem h7 z35 (i : Int) (by omega) (show (i : Int) < (xs.length : Int) by omega)
  exact ⟨g2, rfl, shE_of _ (k35.M_mono (fun k hk => hk.1) hM') (h7.1 g2 rfl) (fun q u hq => by rw [Nat.zero_add]; exact hc' q u hq) (fun q => by rw [Nat.zero_add]; exact hf' q)⟩
theorem shL_at {w : World} {base n c : Nat} {ok : Nat → Prop} {A : Option Addr} {xs : List ByteArray} (h : Kd.R Kd.string 9 w base ok (.slice A n c) xs) : ShL (fun k => base ≤ k ∧ k < w.heap.size) w A xs.length := by
  obtain ⟨A1, c1, e, g⟩ := shL_of (Kd.R_bound h)
  injection e with e1
  subst e1
  exact g.step (fun k hk => ⟨hk.2.1, hk.2.2.1⟩) (Sw.refl (fun _ => True) w)
theorem shTS_at {w : World} {base n c : Nat} {ok : Nat → Prop} {A : Option Addr} {xs : List S32} (h : Kd.R k32 32 w base ok (.slice A n c) xs) : ShTS (fun k => base ≤ k ∧ k < w.heap.size) w xs A 0 := by
  obtain ⟨A1, c1, e, g⟩ := shTS_of (Kd.R_bound h)
  injection e with e1
  subst e1
  exact ShTS.step (fun k hk => ⟨hk.2.1, hk.2.2.1⟩) (Sw.refl (fun _ => True) w) g
theorem shES_at {w : World} {base n c : Nat} {ok : Nat → Prop} {A : Option Addr} {xs : List S35} (h : Kd.R k35 35 w base ok (.slice A n c) xs) : ShES (fun k => base ≤ k ∧ k < w.heap.size) w xs A 0 := by
  obtain ⟨A1, c1, e, g⟩ := shES_of (Kd.R_bound h)
  injection e with e1
  subst e1
  exact ShES.step (fun k hk => ⟨hk.2.1, hk.2.2.1⟩) (Sw.refl (fun _ => True) w) g

end Go.Proofs.YtpckkjeapfdilaaDoor.Px
end
section
namespace Go.Proofs.YtpckkjeapfdilaaDoor.Px
open Go.RowKit Go.Proofs.YtpckkjeapfdilaaDoorW.PrintWords Go.Proofs.YtpckkjeapfdilaaDoorW.PrintLast Go.Proofs.YtpckkjeapfdilaaDoor.Pl Go.Proofs.YtpckkjeapfdilaaDoor.Ext
set_option linter.unusedVariables false
set_option linter.unusedSimpArgs false
mutual
def cnType : S32 → Nat
  | ⟨_, x1, x2⟩ => 1 + x1.length + cnTypeS x2
def cnTypeS : List S32 → Nat
  | [] => 0
  | x :: r => cnType x + cnTypeS r
end
mutual
def cnTerm : S35 → Nat
  | ⟨_, _, _, ⟨_, ls, ts⟩, ms, xs⟩ => 4 + ls.length + cnTypeS ts + ms.length + cnTermS xs
def cnTermS : List S35 → Nat
  | [] => 0
  | x :: r => cnTerm x + cnTermS r
end
theorem cnTypeS_append : ∀ xs ys : List S32, cnTypeS (xs ++ ys) = cnTypeS xs + cnTypeS ys
  | [], ys => by simp [cnTypeS]
  | x :: r, ys => by simp only [List.cons_append, cnTypeS, cnTypeS_append r ys]; omega
theorem cnTypeS_take (xs : List S32) (i : Nat) (h : i < xs.length) : cnTypeS (xs.take (i + 1)) = cnTypeS (xs.take i) + cnType (xs.getD i z32) := by
  rw [List.take_succ_eq_append_getElem h, cnTypeS_append]
  simp [cnTypeS, List.getD_eq_getElem?_getD, h]
theorem cnTypeS_take_le (xs : List S32) (i : Nat) : cnTypeS (xs.take i) ≤ cnTypeS xs := by
  have := cnTypeS_append (xs.take i) (xs.drop i)
  rw [List.take_append_drop] at this
  omega
theorem cnTermS_append : ∀ xs ys : List S35, cnTermS (xs ++ ys) = cnTermS xs + cnTermS ys
  | [], ys => by simp [cnTermS]
  | x :: r, ys => by simp only [List.cons_append, cnTermS, cnTermS_append r ys]; omega
theorem cnTermS_take (xs : List S35) (i : Nat) (h : i < xs.length) : cnTermS (xs.take (i + 1)) = cnTermS (xs.take i) + cnTerm (xs.getD i z35) := by
  rw [List.take_succ_eq_append_getElem h, cnTermS_append]
  simp [cnTermS, List.getD_eq_getElem?_getD, h]
theorem cnTermS_take_le (xs : List S35) (i : Nat) : cnTermS (xs.take i) ≤ cnTermS xs := by
  have := cnTermS_append (xs.take i) (xs.drop i)
  rw [List.take_append_drop] at this
  omega
def GoL (n : Nat) : Prop := ∀ (a : Int) (A : Option Addr) (c : Nat) (S : Nat → Prop) (w : World), 0 ≤ a → a + n ≤ 4611686018427387000 → ShL S w A n →
    Calls Tryd.prog 36 #[.slice A n c, .int .i64 a] w fun e w' => e = .returned (.int .i64 (a + n)) ∧ Sw S w w'
set_option maxHeartbeats 8000000 in
set_option maxRecDepth 100000 in
theorem goL (n : Nat) (hn : n ≤ 1048576) : GoL n := by
  intro a A c S w h0 hb hsh
  have HSH := Aside0.mk hsh
  have HA := Aside0.mk (And.intro h0 (And.intro hb hn))
  clear hsh h0 hb hn
  go_enter Tryd.func36, Tryd.ntmps36
  go_wp2
  go_loopg [1, 5] n (fun kq v1 v5 w' => ∃ (b i : Int), v1 = .int .i64 b ∧ v5 = .int .i64 i ∧ Aside0 (0 ≤ i ∧ i + kq = n ∧ b = a + i) ∧ Aside0 (Sw S w w'))
  case atStart => exact ⟨a, 0, rfl, rfl, ⟨by omega, by omega, by omega⟩, ⟨Sw.refl S w⟩⟩
  case round =>
    obtain ⟨b, i, rfl, rfl, HI, HW⟩ := hrel
    by_cases hlt : i < (n : Int)
    · have hd : decide (i < (n : Int)) = true := decide_eq_true hlt
      have hi0 : (0 ≤ i) = True := eq_true HI.out.1
      have hi1 : (i < (n : Int)) = True := eq_true hlt
      have HLT := Aside0.mk hlt
      obtain ⟨g, eA, h1⟩ := HSH.out i.toNat (by have := HI.out.1; omega)
      subst eA
      have HX := Aside0.mk h1
      clear h1 hlt
      go_wp2_with (first
        | ((with_reducible refine gate_callee (f := 51) rfl ?_)
           refine goesL_ (some 15) rfl rfl Tryd.func51 (by kernel_rfl) rfl #[.int .i64 b] rfl (by (try simp only [List.map_toArray, List.map_cons, List.map_nil]); first | done | rfl) ?_
           (with_reducible refine (markText_own b (by have := HI.out; have := HA.out; have := HLT.out; omega) _).mono ?_)
           rintro e w2 ⟨rfl, hb⟩
           refine ⟨_, rfl, ?_⟩
           have HW2 := Aside0.mk (HW.out.below hb)
           clear HW hb
           have HX2 := Aside0.mk (HX.out.step (S' := S) (fun _ h => h) HW2.out)
           obtain ⟨s0, hs0⟩ := HX2.out.2.1
           have hx : w2.cell? ⟨g, i.toNat, none⟩ = some (.string s0) := hs0
           have hf : w2.frozen? ⟨g, i.toNat, none⟩ = false := HX2.out.2.2
           have HS0 := Aside0.mk hs0
           clear hs0)
        | ((with_reducible refine gate_store (t := 9) (p := 16) rfl ?_)
           refine store_event (t := 9) (p := 16) (v := ?vo_w3) (w1 := (w2.setCell ⟨g, i.toNat, none⟩ (.string (mt b)))) ?hg ?ho ?hn ?hr ?_; (case ho => rfl); (case hg => rfl); (case hn => rfl); (case hr => first | (go_simp; done) | (go_simp; rfl)); intro w3 hw
           have HW3 := Aside0.mk (show Sw S w w3 by rw [hw]; exact HW2.out.then_ (Sw.set_str HS0.out HX2.out.1 _))
           clear hw hx hf HW2 HX2 HS0))
      obtain ⟨k1, rfl⟩ : ∃ m, gk = m + 1 := ⟨gk - 1, by have := HI.out; have := HLT.out; omega⟩
      go_roundg k1
      case measure => omega
      case rel =>
        have hw1 : wrap64 (i + 1) = i + 1 := by have := HI.out; have := HLT.out; have := HA.out; unfold wrap64; omega
        have hw2 : wrap64 (b + 1) = b + 1 := by have := HI.out; have := HLT.out; have := HA.out; unfold wrap64; omega
        exact ⟨wrap64 (b + 1), wrap64 (i + 1), rfl, rfl, ⟨by have := HI.out; omega, by have := HI.out; omega, by have := HI.out; omega⟩, HW3⟩
    · have hd : decide (i < (n : Int)) = false := decide_eq_false hlt
      have HT := Aside0.mk (show b = a + n by have := HI.out; omega)
      clear hlt
      go_wp2
      go_ret
      exact ⟨by rw [← HT.out]; rfl, HW.out⟩
theorem GoL.go {n : Nat} (h : GoL n) (a : Int) (A : Option Addr) (c : Nat) (S : Nat → Prop) (w : World) (h0 : 0 ≤ a) (h1 : a + n ≤ 4611686018427387000) (h2 : ShL S w A n) :
    Calls Tryd.prog 36 #[.slice A n c, .int .i64 a] w fun e w' => e = .returned (.int .i64 (a + n)) ∧ Sw S w w' := h a A c S w h0 h1 h2
def GoTS (xs : List S32) : Prop := ∀ (a : Int) (A : Option Addr) (c : Nat) (S : Nat → Prop) (w : World), 0 ≤ a → a + cnTypeS xs ≤ 4611686018427387000 → ShTS S w xs A 0 →
    Calls Tryd.prog 50 #[.slice A xs.length c, .int .i64 a] w fun e w' => e = .returned (.int .i64 (a + cnTypeS xs)) ∧ Sw S w w'
theorem GoTS.go {xs : List S32} (h : GoTS xs) (a : Int) (A : Option Addr) (c : Nat) (S : Nat → Prop) (w : World) (h0 : 0 ≤ a) (h1 : a + cnTypeS xs ≤ 4611686018427387000) (h2 : ShTS S w xs A 0) :
    Calls Tryd.prog 50 #[.slice A xs.length c, .int .i64 a] w fun e w' => e = .returned (.int .i64 (a + cnTypeS xs)) ∧ Sw S w w' := h a A c S w h0 h1 h2
theorem shT_open {S : Nat → Prop} {w : World} {x : S32} {g j : Nat} (h : ShT S w x g j) : NumAt S w g j ∧ (∃ A c, w.cell? ⟨g, j + 1, none⟩ = some (.slice A x.f1.length c) ∧ ShL S w A x.f1.length) ∧ (∃ A c, w.cell? ⟨g, j + 2, none⟩ = some (.slice A x.f2.length c) ∧ ShTS S w x.f2 A 0) := by
  obtain ⟨a, ls, xs⟩ := x
  rw [ShT] at h
  exact h
theorem cnType_eq (x : S32) : cnType x = 1 + x.f1.length + cnTypeS x.f2 := by cases x; simp only [cnType]
theorem cnTerm_eq (x : S35) : cnTerm x = 4 + x.f3.f1.length + cnTypeS x.f3.f2 + x.f4.length + cnTermS x.f5 := by obtain ⟨_, _, _, ⟨_, _, _⟩, _, _⟩ := x; simp only [cnTerm]
set_option maxHeartbeats 8000000 in
set_option maxRecDepth 100000 in
theorem goTS_step (xs : List S32) (hn : xs.length ≤ 1048576) (hx : ∀ y ∈ xs, y.f1.length ≤ 1048576 ∧ GoTS y.f2) : GoTS xs := by
  intro a A c S w h0 hb hsh
  have HSH := Aside0.mk hsh
  have HX := Aside0.mk hx
  have HA := Aside0.mk (And.intro h0 (And.intro hb hn))
  clear hsh h0 hb hn hx
  go_enter Tryd.func50, Tryd.ntmps50
  go_wp2
  go_loopg [1, 5] xs.length (fun kq v1 v5 w' => ∃ (b i : Int), v1 = .int .i64 b ∧ v5 = .int .i64 i ∧ Aside0 (0 ≤ i ∧ i + kq = xs.length ∧ b = a + cnTypeS (xs.take i.toNat)) ∧ Aside0 (Sw S w w'))
  case atStart => exact ⟨a, 0, rfl, rfl, ⟨by omega, by omega, by simp [cnTypeS]⟩, ⟨Sw.refl S w⟩⟩
  case round =>
    obtain ⟨b, i, rfl, rfl, HI, HW⟩ := hrel
    by_cases hlt : i < (xs.length : Int)
    · have hd : decide (i < (xs.length : Int)) = true := decide_eq_true hlt
      have hi0 : (0 ≤ i) = True := eq_true HI.out.1
      have hi1 : (i < (xs.length : Int)) = True := eq_true hlt
      have HLT := Aside0.mk (show i.toNat < xs.length by have := HI.out.1; omega)
      obtain ⟨g, eA, h1⟩ := HSH.out.at_ i.toNat HLT.out
      subst eA
      rw [Nat.zero_add] at h1
      generalize hxe : xs.getD i.toNat z32 = x at h1
      have HXL := Aside0.mk (HX.out x (by rw [← hxe]; exact mem_getD xs z32 _ HLT.out))
      have HE := Aside0.mk (show b + cnType x ≤ a + cnTypeS xs ∧ b = a + cnTypeS (xs.take i.toNat) ∧ 0 ≤ b ∧ 0 ≤ a ∧ a + cnTypeS xs ≤ 4611686018427387000 ∧ cnTypeS (xs.take (i.toNat + 1)) = cnTypeS (xs.take i.toNat) + cnType x by
        have e1 := cnTypeS_take xs i.toNat HLT.out
        have e2 := cnTypeS_take_le xs (i.toNat + 1)
        rw [hxe] at e1
        have := HI.out; have := HA.out
        refine ⟨by omega, by omega, by omega, by omega, by omega, e1⟩)
      have HW1 := Aside0.mk (show wrap64 (b + 1) = b + 1 by have := HE.out; have := cnType_eq x; unfold wrap64; omega)
      obtain ⟨hk0, ⟨A1, c1, hk1, g1⟩, A2, c2, hk2, g2⟩ := shT_open h1
      have G0 := Aside0.mk hk0; have K1 := Aside0.mk hk1; have G1 := Aside0.mk g1; have K2 := Aside0.mk hk2; have G2 := Aside0.mk g2
      have P0 := Aside0.mk (G0.out.step (S' := S) (fun _ h => h) HW.out)
      obtain ⟨n0, hn0⟩ := P0.out.2.1
      have hx : wr.cell? ⟨g, i.toNat * 3, none⟩ = some (.int .i64 n0) := hn0
      have hf : wr.frozen? ⟨g, i.toNat * 3, none⟩ = false := P0.out.2.2
      have HN0 := Aside0.mk hn0
      clear h1 hk0 hk1 g1 hk2 g2 hn0 hxe hlt
      go_wp2_with (first
        | ((with_reducible refine gate_store (t := 3) (p := 16) rfl ?_)
           refine store_event (t := 3) (p := 16) (v := ?vo_w3) (w1 := (wr.setCell ⟨g, i.toNat * 3, none⟩ (.int .i64 b))) ?hg ?ho ?hn ?hr ?_; (case ho => rfl); (case hg => rfl); (case hn => rfl); (case hr => first | (go_simp; done) | (go_simp; rfl)); intro w3 hw
           have HW3 := Aside0.mk (show Sw S w w3 by rw [hw]; exact HW.out.then_ (Sw.set_num HN0.out P0.out.1 _))
           clear hw hx hf HW P0 HN0
           have hx : w3.cell? ⟨g, i.toNat * 3 + 1, none⟩ = some (.slice A1 x.f1.length c1) := HW3.out.row _ _ _ _ K1.out)
        | ((with_reducible refine gate_callee (f := 36) rfl ?_)
           refine goesL_ (some 25) rfl rfl Tryd.func36 (by kernel_rfl) rfl #[.slice A1 x.f1.length c1, .int .i64 (wrap64 (b + 1))] rfl (by (try simp only [List.map_toArray, List.map_cons, List.map_nil]); first | done | rfl) ?_
           (with_reducible refine (GoL.go (goL x.f1.length HXL.out.1) (wrap64 (b + 1)) A1 c1 S _ (by rw [HW1.out]; have := HE.out; omega) (by rw [HW1.out]; have := HE.out; have := cnType_eq x; omega) (G1.out.step (fun _ h => h) HW3.out)).mono ?_)
           rintro e w4 ⟨rfl, hb⟩
           refine ⟨_, rfl, ?_⟩
           have HW4 := Aside0.mk (HW3.out.then_ hb)
           clear hb hx HW3
           have hx : w4.cell? ⟨g, i.toNat * 3 + 2, none⟩ = some (.slice A2 x.f2.length c2) := HW4.out.row _ _ _ _ K2.out)
        | ((with_reducible refine gate_callee (f := 50) rfl ?_)
           refine goesL_ (some 32) rfl rfl Tryd.func50 (by kernel_rfl) rfl #[.slice A2 x.f2.length c2, .int .i64 (wrap64 (b + 1) + (x.f1.length : Nat))] rfl (by (try simp only [List.map_toArray, List.map_cons, List.map_nil]); first | done | rfl) ?_
           (with_reducible refine (GoTS.go HXL.out.2 (wrap64 (b + 1) + (x.f1.length : Nat)) A2 c2 S _ (by rw [HW1.out]; have := HE.out; omega) (by rw [HW1.out]; have := HE.out; have := cnType_eq x; omega) (G2.out.step (fun _ h => h) HW4.out)).mono ?_)
           rintro e w5 ⟨rfl, hb⟩
           refine ⟨_, rfl, ?_⟩
           have HW5 := Aside0.mk (HW4.out.then_ hb)
           clear hb hx HW4))
      obtain ⟨k1, rfl⟩ : ∃ m, gk = m + 1 := ⟨gk - 1, by have := HI.out; have := HLT.out; omega⟩
      go_roundg k1
      case measure => omega
      case rel =>
        have hz : i.toNat + 1 = (wrap64 (i + 1)).toNat := by have := HI.out; have := HLT.out; have := HA.out; unfold wrap64; omega
        have hw1 : wrap64 (i + 1) = i + 1 := by have := HI.out; have := HLT.out; have := HA.out; unfold wrap64; omega
        refine ⟨wrap64 (b + 1) + (x.f1.length : Nat) + (cnTypeS x.f2 : Nat), wrap64 (i + 1), rfl, rfl, ⟨by have := HI.out; omega, by have := HI.out; have := HLT.out; omega, ?_⟩, HW5⟩
        rw [← hz, HE.out.2.2.2.2.2, cnType_eq]; (try simp only [HW1.out]); have := HE.out; omega
    · have hd : decide (i < (xs.length : Int)) = false := decide_eq_false hlt
      have HT := Aside0.mk (show i.toNat = xs.length by have := HI.out; omega)
      clear hlt
      go_wp2
      go_ret
      refine ⟨?_, HW.out⟩
      rw [HI.out.2.2, HT.out, List.take_of_length_le (Nat.le_refl _)]
      rfl

end Go.Proofs.YtpckkjeapfdilaaDoor.Px
end
section
namespace Go.Proofs.YtpckkjeapfdilaaDoor.Px
open Go.RowKit Go.Proofs.YtpckkjeapfdilaaDoorW.PrintWords Go.Proofs.YtpckkjeapfdilaaDoorW.PrintLast Go.Proofs.YtpckkjeapfdilaaDoor.Pl Go.Proofs.YtpckkjeapfdilaaDoor.Ext
set_option linter.unusedVariables false
set_option linter.unusedSimpArgs false
theorem shE_open {S : Nat → Prop} {w : World} {x : S35} {g j : Nat} (h : ShE S w x g j) : NumAt S w g j ∧ StrAt S w g (j + 1) ∧ NumAt S w g (j + 2) ∧ NumAt S w g (j + 3) ∧ (∃ A c, w.cell? ⟨g, j + 4, none⟩ = some (.slice A x.f3.f1.length c) ∧ ShL S w A x.f3.f1.length) ∧ (∃ A c, w.cell? ⟨g, j + 5, none⟩ = some (.slice A x.f3.f2.length c) ∧ ShTS S w x.f3.f2 A 0) ∧ (∃ A c, w.cell? ⟨g, j + 6, none⟩ = some (.slice A x.f4.length c) ∧ ShL S w A x.f4.length) ∧ (∃ A c, w.cell? ⟨g, j + 7, none⟩ = some (.slice A x.f5.length c) ∧ ShES S w x.f5 A 0) := by
  obtain ⟨_, _, _, ⟨_, _, _⟩, _, _⟩ := x
  rw [ShE] at h
  exact h
inductive LnType : S32 → Prop
  | mk {x : S32} : x.f1.length ≤ 1048576 → x.f2.length ≤ 1048576 → (∀ y ∈ x.f2, LnType y) → LnType x
theorem lnType_all {x : S32} (h : LnType x) : x.f1.length ≤ 1048576 ∧ x.f2.length ≤ 1048576 ∧ ∀ y ∈ x.f2, LnType y := by cases h; exact ⟨by assumption, by assumption, by assumption⟩
theorem goTS_in : ∀ x : S32, LnType x → GoTS x.f2 := by
  refine indTypeI fun x ih hx => ?_
  exact goTS_step x.f2 (lnType_all hx).2.1 (fun y hy => ⟨(lnType_all ((lnType_all hx).2.2 y hy)).1, ih y hy ((lnType_all hx).2.2 y hy)⟩)
theorem lnType_of : ∀ x : S32, SmType x → LnType x := by
  refine indTypeI fun x ih hx => ?_
  exact LnType.mk hx.p1.1 hx.p2.1 (fun y hy => ih y hy (hx.p2.2 y hy))
theorem goTS_sm (x : S32) (h : SmType x) : GoTS x.f2 := goTS_in x (lnType_of x h)
def GoES (xs : List S35) : Prop := ∀ (a : Int) (A : Option Addr) (c : Nat) (S : Nat → Prop) (w : World), 0 ≤ a → a + cnTermS xs ≤ 4611686018427387000 → ShES S w xs A 0 →
    Calls Tryd.prog 37 #[.slice A xs.length c, .int .i64 a] w fun e w' => e = .returned (.int .i64 (a + cnTermS xs)) ∧ Sw S w w'
theorem GoES.go {xs : List S35} (h : GoES xs) (a : Int) (A : Option Addr) (c : Nat) (S : Nat → Prop) (w : World) (h0 : 0 ≤ a) (h1 : a + cnTermS xs ≤ 4611686018427387000) (h2 : ShES S w xs A 0) :
    Calls Tryd.prog 37 #[.slice A xs.length c, .int .i64 a] w fun e w' => e = .returned (.int .i64 (a + cnTermS xs)) ∧ Sw S w w' := h a A c S w h0 h1 h2
set_option maxHeartbeats 8000000 in
set_option maxRecDepth 100000 in
theorem goES_step (xs : List S35) (hn : xs.length ≤ 1048576) (hx : ∀ y ∈ xs, y.f3.f1.length ≤ 1048576 ∧ GoTS y.f3.f2 ∧ y.f4.length ≤ 1048576 ∧ GoES y.f5) : GoES xs := by
  intro a A c S w h0 hb hsh
  have HSH := Aside0.mk hsh
  have HX := Aside0.mk hx
  have HA := Aside0.mk (And.intro h0 (And.intro hb hn))
  clear hsh h0 hb hn hx
  go_enter Tryd.func37, Tryd.ntmps37
  go_wp2
  go_loopg [1, 5] xs.length (fun kq v1 v5 w' => ∃ (b i : Int), v1 = .int .i64 b ∧ v5 = .int .i64 i ∧ Aside0 (0 ≤ i ∧ i + kq = xs.length ∧ b = a + cnTermS (xs.take i.toNat)) ∧ Aside0 (Sw S w w'))
  case atStart => exact ⟨a, 0, rfl, rfl, ⟨by omega, by omega, by simp [cnTermS]⟩, ⟨Sw.refl S w⟩⟩
  case round =>
    obtain ⟨b, i, rfl, rfl, HI, HW⟩ := hrel
    by_cases hlt : i < (xs.length : Int)
    · have hd : decide (i < (xs.length : Int)) = true := decide_eq_true hlt
      have hi0 : (0 ≤ i) = True := eq_true HI.out.1
      have hi1 : (i < (xs.length : Int)) = True := eq_true hlt
      have HLT := Aside0.mk (show i.toNat < xs.length by have := HI.out.1; omega)
      obtain ⟨g, eA, h1⟩ := HSH.out.at_ i.toNat HLT.out
      subst eA
      rw [Nat.zero_add] at h1
      generalize hxe : xs.getD i.toNat z35 = x at h1
      have HXL := Aside0.mk (HX.out x (by rw [← hxe]; exact mem_getD xs z35 _ HLT.out))
      have HE := Aside0.mk (show b + cnTerm x ≤ a + cnTermS xs ∧ b = a + cnTermS (xs.take i.toNat) ∧ 0 ≤ b ∧ 0 ≤ a ∧ a + cnTermS xs ≤ 4611686018427387000 ∧ cnTermS (xs.take (i.toNat + 1)) = cnTermS (xs.take i.toNat) + cnTerm x ∧ cnTerm x = 4 + x.f3.f1.length + cnTypeS x.f3.f2 + x.f4.length + cnTermS x.f5 by
        have e1 := cnTermS_take xs i.toNat HLT.out
        have e2 := cnTermS_take_le xs (i.toNat + 1)
        rw [hxe] at e1
        have := HI.out; have := HA.out
        refine ⟨by omega, by omega, by omega, by omega, by omega, e1, cnTerm_eq x⟩)
      have HW4 := Aside0.mk (show wrap64 (wrap64 (wrap64 (wrap64 (b + 1) + 1) + 1) + 1) = b + 4 ∧ wrap64 (b + 1) = b + 1 by have := HE.out; have e1 : wrap64 (b + 1) = b + 1 := w64 (by omega) (by omega); have e2 : wrap64 (b + 1 + 1) = b + 2 := (w64 (by omega) (by omega)).trans (by omega); have e3 : wrap64 (b + 2 + 1) = b + 3 := (w64 (by omega) (by omega)).trans (by omega); have e4 : wrap64 (b + 3 + 1) = b + 4 := (w64 (by omega) (by omega)).trans (by omega); rw [e1, e2, e3, e4]; exact ⟨rfl, rfl⟩)
      obtain ⟨q0, q1, q2, q3, ⟨A4, c4, q4, g4⟩, ⟨A5, c5, q5, g5⟩, ⟨A6, c6, q6, g6⟩, A7, c7, q7, g7⟩ := shE_open h1
      have Q0 := Aside0.mk q0; have Q1 := Aside0.mk q1; have Q2 := Aside0.mk q2; have Q3 := Aside0.mk q3; have Q4 := Aside0.mk q4; have G4 := Aside0.mk g4; have Q5 := Aside0.mk q5; have G5 := Aside0.mk g5; have Q6 := Aside0.mk q6; have G6 := Aside0.mk g6; have Q7 := Aside0.mk q7; have G7 := Aside0.mk g7
      have P0 := Aside0.mk (Q0.out.step (S' := S) (fun _ h => h) HW.out)
      obtain ⟨n0, hn0⟩ := P0.out.2.1
      have hx : wr.cell? ⟨g, i.toNat * 8, none⟩ = some (.int .i64 n0) := hn0
      have hf : wr.frozen? ⟨g, i.toNat * 8, none⟩ = false := P0.out.2.2
      have HN0 := Aside0.mk hn0
      clear h1 q0 q1 q2 q3 q4 g4 q5 g5 q6 g6 q7 g7 hn0 hxe hlt
      go_wp2_with (first
        | ((with_reducible refine gate_store (t := 3) (p := 16) rfl ?_)
           refine store_event (t := 3) (p := 16) (v := ?vo_w1) (w1 := (wr.setCell ⟨g, i.toNat * 8, none⟩ (.int .i64 b))) ?hg ?ho ?hn ?hr ?_; (case ho => rfl); (case hg => rfl); (case hn => rfl); (case hr => first | (go_simp; done) | (go_simp; rfl)); intro w1 hw
           have HW2 := Aside0.mk (show Sw S w w1 by rw [hw]; exact HW.out.then_ (Sw.set_num HN0.out P0.out.1 _))
           clear hw hx hf HW P0 HN0
           have HW := HW2
           clear HW2
)
        | ((with_reducible refine gate_callee (f := 51) rfl ?_)
           refine goesL_ (some 22) rfl rfl Tryd.func51 (by kernel_rfl) rfl #[.int .i64 (wrap64 (b + 1))] rfl (by (try simp only [List.map_toArray, List.map_cons, List.map_nil]); first | done | rfl) ?_
           (with_reducible refine (markText_own (wrap64 (b + 1)) (by rw [HW4.out.2]; have := HE.out; omega) _).mono ?_)
           rintro e w2 ⟨rfl, hb⟩
           refine ⟨_, rfl, ?_⟩
           have HW2 := Aside0.mk (HW.out.below hb)
           clear HW hb
           have HW := HW2
           clear HW2
           have P0 := Aside0.mk (Q1.out.step (S' := S) (fun _ h => h) HW.out)
           obtain ⟨n0, hn0⟩ := P0.out.2.1
           have hx : w2.cell? ⟨g, i.toNat * 8 + 1, none⟩ = some (.string n0) := hn0
           have hf : w2.frozen? ⟨g, i.toNat * 8 + 1, none⟩ = false := P0.out.2.2
           have HN0 := Aside0.mk hn0
           clear hn0)
        | ((with_reducible refine gate_store (t := 9) (p := 24) rfl ?_)
           refine store_event (t := 9) (p := 24) (v := ?vo_w3) (w1 := (w2.setCell ⟨g, i.toNat * 8 + 1, none⟩ (.string (mt (wrap64 (b + 1)))))) ?hg ?ho ?hn ?hr ?_; (case ho => rfl); (case hg => rfl); (case hn => rfl); (case hr => first | (go_simp; done) | (go_simp; rfl)); intro w3 hw
           have HW2 := Aside0.mk (show Sw S w w3 by rw [hw]; exact HW.out.then_ (Sw.set_str HN0.out P0.out.1 _))
           clear hw hx hf HW P0 HN0
           have HW := HW2
           clear HW2
           have P0 := Aside0.mk (Q2.out.step (S' := S) (fun _ h => h) HW.out)
           obtain ⟨n0, hn0⟩ := P0.out.2.1
           have hx : w3.cell? ⟨g, i.toNat * 8 + 2, none⟩ = some (.int .i64 n0) := hn0
           have hf : w3.frozen? ⟨g, i.toNat * 8 + 2, none⟩ = false := P0.out.2.2
           have HN0 := Aside0.mk hn0
           clear hn0)
        | ((with_reducible refine gate_store (t := 3) (p := 31) rfl ?_)
           refine store_event (t := 3) (p := 31) (v := ?vo_w4) (w1 := (w3.setCell ⟨g, i.toNat * 8 + 2, none⟩ (.int .i64 (wrap64 (wrap64 (b + 1) + 1))))) ?hg ?ho ?hn ?hr ?_; (case ho => rfl); (case hg => rfl); (case hn => rfl); (case hr => first | (go_simp; done) | (go_simp; rfl)); intro w4 hw
           have HW2 := Aside0.mk (show Sw S w w4 by rw [hw]; exact HW.out.then_ (Sw.set_num HN0.out P0.out.1 _))
           clear hw hx hf HW P0 HN0
           have HW := HW2
           clear HW2
           have P0 := Aside0.mk (Q3.out.step (S' := S) (fun _ h => h) HW.out)
           obtain ⟨n0, hn0⟩ := P0.out.2.1
           have hx : w4.cell? ⟨g, i.toNat * 8 + 3, none⟩ = some (.int .i64 n0) := hn0
           have hf : w4.frozen? ⟨g, i.toNat * 8 + 3, none⟩ = false := P0.out.2.2
           have HN0 := Aside0.mk hn0
           clear hn0)
        | ((with_reducible refine gate_store (t := 3) (p := 39) rfl ?_)
           refine store_event (t := 3) (p := 39) (v := ?vo_w5) (w1 := (w4.setCell ⟨g, i.toNat * 8 + 3, none⟩ (.int .i64 (wrap64 (wrap64 (wrap64 (b + 1) + 1) + 1))))) ?hg ?ho ?hn ?hr ?_; (case ho => rfl); (case hg => rfl); (case hn => rfl); (case hr => first | (go_simp; done) | (go_simp; rfl)); intro w5 hw
           have HW2 := Aside0.mk (show Sw S w w5 by rw [hw]; exact HW.out.then_ (Sw.set_num HN0.out P0.out.1 _))
           clear hw hx hf HW P0 HN0
           have HW := HW2
           clear HW2
           have hx : w5.cell? ⟨g, i.toNat * 8 + 4, none⟩ = some (.slice A4 x.f3.f1.length c4) := HW.out.row _ _ _ _ Q4.out)
        | ((with_reducible refine gate_callee (f := 36) rfl ?_)
           refine goesL_ (some 49) rfl rfl Tryd.func36 (by kernel_rfl) rfl #[.slice A4 x.f3.f1.length c4, .int .i64 (wrap64 (wrap64 (wrap64 (wrap64 (b + 1) + 1) + 1) + 1))] rfl (by (try simp only [List.map_toArray, List.map_cons, List.map_nil]); first | done | rfl) ?_
           (with_reducible refine (GoL.go (goL x.f3.f1.length HXL.out.1) (wrap64 (wrap64 (wrap64 (wrap64 (b + 1) + 1) + 1) + 1)) A4 c4 S _ (by rw [HW4.out.1]; have := HE.out; omega) (by rw [HW4.out.1]; have := HE.out; omega) (G4.out.step (fun _ h => h) HW.out)).mono ?_)
           rintro e w6 ⟨rfl, hb⟩
           refine ⟨_, rfl, ?_⟩
           have HW2 := Aside0.mk (HW.out.then_ hb)
           clear hb hx HW
           have HW := HW2
           clear HW2
           have hx : w6.cell? ⟨g, i.toNat * 8 + 5, none⟩ = some (.slice A5 x.f3.f2.length c5) := HW.out.row _ _ _ _ Q5.out)
        | ((with_reducible refine gate_callee (f := 50) rfl ?_)
           refine goesL_ (some 57) rfl rfl Tryd.func50 (by kernel_rfl) rfl #[.slice A5 x.f3.f2.length c5, .int .i64 (wrap64 (wrap64 (wrap64 (wrap64 (b + 1) + 1) + 1) + 1) + (x.f3.f1.length : Nat))] rfl (by (try simp only [List.map_toArray, List.map_cons, List.map_nil]); first | done | rfl) ?_
           (with_reducible refine (GoTS.go HXL.out.2.1 (wrap64 (wrap64 (wrap64 (wrap64 (b + 1) + 1) + 1) + 1) + (x.f3.f1.length : Nat)) A5 c5 S _ (by rw [HW4.out.1]; have := HE.out; omega) (by rw [HW4.out.1]; have := HE.out; omega) (G5.out.step (fun _ h => h) HW.out)).mono ?_)
           rintro e w7 ⟨rfl, hb⟩
           refine ⟨_, rfl, ?_⟩
           have HW2 := Aside0.mk (HW.out.then_ hb)
           clear hb hx HW
           have HW := HW2
           clear HW2
           have hx : w7.cell? ⟨g, i.toNat * 8 + 6, none⟩ = some (.slice A6 x.f4.length c6) := HW.out.row _ _ _ _ Q6.out)
        | ((with_reducible refine gate_callee (f := 36) rfl ?_)
           refine goesL_ (some 64) rfl rfl Tryd.func36 (by kernel_rfl) rfl #[.slice A6 x.f4.length c6, .int .i64 (wrap64 (wrap64 (wrap64 (wrap64 (b + 1) + 1) + 1) + 1) + (x.f3.f1.length : Nat) + (cnTypeS x.f3.f2 : Nat))] rfl (by (try simp only [List.map_toArray, List.map_cons, List.map_nil]); first | done | rfl) ?_
           (with_reducible refine (GoL.go (goL x.f4.length HXL.out.2.2.1) (wrap64 (wrap64 (wrap64 (wrap64 (b + 1) + 1) + 1) + 1) + (x.f3.f1.length : Nat) + (cnTypeS x.f3.f2 : Nat)) A6 c6 S _ (by rw [HW4.out.1]; have := HE.out; omega) (by rw [HW4.out.1]; have := HE.out; omega) (G6.out.step (fun _ h => h) HW.out)).mono ?_)
           rintro e w8 ⟨rfl, hb⟩
           refine ⟨_, rfl, ?_⟩
           have HW2 := Aside0.mk (HW.out.then_ hb)
           clear hb hx HW
           have HW := HW2
           clear HW2
           have hx : w8.cell? ⟨g, i.toNat * 8 + 7, none⟩ = some (.slice A7 x.f5.length c7) := HW.out.row _ _ _ _ Q7.out)
        | ((with_reducible refine gate_callee (f := 37) rfl ?_)
           refine goesL_ (some 71) rfl rfl Tryd.func37 (by kernel_rfl) rfl #[.slice A7 x.f5.length c7, .int .i64 (wrap64 (wrap64 (wrap64 (wrap64 (b + 1) + 1) + 1) + 1) + (x.f3.f1.length : Nat) + (cnTypeS x.f3.f2 : Nat) + (x.f4.length : Nat))] rfl (by (try simp only [List.map_toArray, List.map_cons, List.map_nil]); first | done | rfl) ?_
           (with_reducible refine (GoES.go HXL.out.2.2.2 (wrap64 (wrap64 (wrap64 (wrap64 (b + 1) + 1) + 1) + 1) + (x.f3.f1.length : Nat) + (cnTypeS x.f3.f2 : Nat) + (x.f4.length : Nat)) A7 c7 S _ (by rw [HW4.out.1]; have := HE.out; omega) (by rw [HW4.out.1]; have := HE.out; omega) (G7.out.step (fun _ h => h) HW.out)).mono ?_)
           rintro e w9 ⟨rfl, hb⟩
           refine ⟨_, rfl, ?_⟩
           have HW2 := Aside0.mk (HW.out.then_ hb)
           clear hb hx HW
           have HW := HW2
           clear HW2
))
      obtain ⟨k1, rfl⟩ : ∃ m, gk = m + 1 := ⟨gk - 1, by have := HI.out; have := HLT.out; omega⟩
      go_roundg k1
      case measure => omega
      case rel =>
        have hz : i.toNat + 1 = (wrap64 (i + 1)).toNat := by have := HI.out; have := HLT.out; have := HA.out; unfold wrap64; omega
        have hw1 : wrap64 (i + 1) = i + 1 := by have := HI.out; have := HLT.out; have := HA.out; unfold wrap64; omega
        refine ⟨wrap64 (wrap64 (wrap64 (wrap64 (b + 1) + 1) + 1) + 1) + (x.f3.f1.length : Nat) + (cnTypeS x.f3.f2 : Nat) + (x.f4.length : Nat) + (cnTermS x.f5 : Nat), wrap64 (i + 1), rfl, rfl, ⟨by have := HI.out; omega, by have := HI.out; have := HLT.out; omega, ?_⟩, HW⟩
        rw [← hz, HE.out.2.2.2.2.2.1, HE.out.2.2.2.2.2.2, HW4.out.1]; have := HE.out; omega
    · have hd : decide (i < (xs.length : Int)) = false := decide_eq_false hlt
      have HT := Aside0.mk (show i.toNat = xs.length by have := HI.out; omega)
      clear hlt
      go_wp2
      go_ret
      refine ⟨?_, HW.out⟩
      rw [HI.out.2.2, HT.out, List.take_of_length_le (Nat.le_refl _)]
      rfl
theorem goES_in : ∀ x : S35, SmTerm x → GoES x.f5 := by
  refine indTermI fun x ih hx => ?_
  exact goES_step x.f5 hx.p5.1 (fun y hy => ⟨(hx.p5.2 y hy).p3.p1.1, goTS_sm y.f3 (hx.p5.2 y hy).p3, (hx.p5.2 y hy).p4.1, ih y hy (hx.p5.2 y hy)⟩)
set_option maxHeartbeats 8000000 in
set_option maxRecDepth 100000 in
theorem goT (x : S32) (hx : SmType x) (m a : Int) (A1 A2 : Option Addr) (c1 c2 : Nat) (S : Nat → Prop) (w : World) (h0 : 0 ≤ a) (h1 : a + cnType x ≤ 4611686018427387000) (g1 : ShL S w A1 x.f1.length) (g2 : ShTS S w x.f2 A2 0) :
    Calls Tryd.prog 35 #[.agg #[.int .i64 m, .slice A1 x.f1.length c1, .slice A2 x.f2.length c2], .int .i64 a] w fun e w' => e = .returned (.int .i64 (a + x.f1.length + cnTypeS x.f2)) ∧ Sw S w w' := by
  have HX := Aside0.mk hx
  have HA := Aside0.mk (And.intro h0 (And.intro h1 (cnType_eq x)))
  have G1 := Aside0.mk g1; have G2 := Aside0.mk g2
  have hu36 := Tryd.underlying32
  clear hx h0 h1 g1 g2
  go_enter Tryd.func35, Tryd.ntmps35
  go_wp2_with (first
    | ((with_reducible refine gate_dst (N := 2) rfl ?_); refine box_event ?hg (N := 2) ?hd (cs := #[.int .i64 m, .slice A1 x.f1.length c1, .slice A2 x.f2.length c2]) (t := 32) ?hr ?_; (case hd => rfl); (case hg => rfl); (case hr => first | (go_simp; done) | (go_simp; rfl)); intro gb hg w1 hbox hb
       have HW := Aside0.mk (Sw.of_below S hb)
       have K2 := Aside0.mk ((blk_cell hbox 2).trans rfl : w1.cell? ⟨gb, 2, none⟩ = some (.slice A2 x.f2.length c2))
       have hx : w1.cell? ⟨gb, 1, none⟩ = some (.slice A1 x.f1.length c1) := (blk_cell hbox 1).trans rfl
       clear hg hbox hb)
    | ((with_reducible refine gate_callee (f := 36) rfl ?_)
       refine goesL_ (some 8) rfl rfl Tryd.func36 (by kernel_rfl) rfl #[.slice A1 x.f1.length c1, .int .i64 a] rfl (by (try simp only [List.map_toArray, List.map_cons, List.map_nil]); first | done | rfl) ?_
       (with_reducible refine (GoL.go (goL x.f1.length HX.out.p1.1) a A1 c1 S _ (by have := HA.out; omega) (by have := HA.out; omega) (G1.out.step (fun _ h => h) HW.out)).mono ?_)
       rintro e w2 ⟨rfl, hb⟩
       refine ⟨_, rfl, ?_⟩
       have hy : w2.cell? ⟨gb, 2, none⟩ = some (.slice A2 x.f2.length c2) := hb.row _ _ _ _ K2.out
       have HW2 := Aside0.mk (HW.out.then_ hb)
       clear hb hx HW)
    | ((with_reducible refine gate_callee (f := 50) rfl ?_)
       refine goesL_ (some 12) rfl rfl Tryd.func50 (by kernel_rfl) rfl #[.slice A2 x.f2.length c2, .int .i64 (a + (x.f1.length : Nat))] rfl (by (try simp only [List.map_toArray, List.map_cons, List.map_nil]); first | done | rfl) ?_
       (with_reducible refine (GoTS.go (goTS_sm x HX.out) (a + (x.f1.length : Nat)) A2 c2 S _ (by have := HA.out; omega) (by have := HA.out; omega) (G2.out.step (fun _ h => h) HW2.out)).mono ?_)
       rintro e w3 ⟨rfl, hb⟩
       refine ⟨_, rfl, ?_⟩
       have HW3 := Aside0.mk (HW2.out.then_ hb)
       clear hb hy HW2))
  go_ret
  exact ⟨rfl, HW3.out⟩
set_option maxHeartbeats 8000000 in
set_option maxRecDepth 100000 in
theorem goE (x : S35) (hx : SmTerm x) (a : Int) (A4 A5 A6 A7 : Option Addr) (c4 c5 c6 c7 : Nat) (S : Nat → Prop) (w : World) (h0 : 0 ≤ a) (h1 : a + cnTerm x ≤ 4611686018427387000) (g4 : ShL S w A4 x.f3.f1.length) (g5 : ShTS S w x.f3.f2 A5 0) (g6 : ShL S w A6 x.f4.length) (g7 : ShES S w x.f5 A7 0) :
    Calls Tryd.prog 9 #[.agg #[.int .i64 x.f0, .string x.f1, .int .i64 x.f2, .int .i64 x.f3.f0, .slice A4 x.f3.f1.length c4, .slice A5 x.f3.f2.length c5, .slice A6 x.f4.length c6, .slice A7 x.f5.length c7], .int .i64 a] w fun e w' => ∃ r : Int, (0 ≤ r ∧ r ≤ a + cnTerm x) ∧ e = .returned (.int .i64 r) ∧ Sw S w w' := by
  have HX := Aside0.mk hx
  have HA := Aside0.mk (And.intro h0 (And.intro h1 (And.intro (cnTerm_eq x) (cnType_eq x.f3))))
  have G4 := Aside0.mk g4; have G5 := Aside0.mk g5; have G6 := Aside0.mk g6; have G7 := Aside0.mk g7
  have hu36 := Tryd.underlying35
  clear hx h0 h1 g4 g5 g6 g7
  go_enter Tryd.func9, Tryd.ntmps9
  go_wp2_with (first
    | ((with_reducible refine gate_dst (N := 2) rfl ?_); refine box_event ?hg (N := 2) ?hd (cs := #[.int .i64 x.f0, .string x.f1, .int .i64 x.f2, .int .i64 x.f3.f0, .slice A4 x.f3.f1.length c4, .slice A5 x.f3.f2.length c5, .slice A6 x.f4.length c6, .slice A7 x.f5.length c7]) (t := 35) ?hr ?_; (case hd => rfl); (case hg => rfl); (case hr => first | (go_simp; done) | (go_simp; rfl)); intro gb hg w1 hbox hb
       have HW := Aside0.mk (Sw.of_below S hb)
       have K6 := Aside0.mk ((blk_cell hbox 6).trans rfl : w1.cell? ⟨gb, 6, none⟩ = some (.slice A6 x.f4.length c6))
       have K7 := Aside0.mk ((blk_cell hbox 7).trans rfl : w1.cell? ⟨gb, 7, none⟩ = some (.slice A7 x.f5.length c7))
       have hx3 : w1.cell? ⟨gb, 3, none⟩ = some (.int .i64 x.f3.f0) := (blk_cell hbox 3).trans rfl
       have hx4 : w1.cell? ⟨gb, 4, none⟩ = some (.slice A4 x.f3.f1.length c4) := (blk_cell hbox 4).trans rfl
       have hx5 : w1.cell? ⟨gb, 5, none⟩ = some (.slice A5 x.f3.f2.length c5) := (blk_cell hbox 5).trans rfl
       clear hg hbox hb)
    | ((with_reducible refine gate_callee (f := 35) rfl ?_)
       refine goesL_ (some 8) rfl rfl Tryd.func35 (by kernel_rfl) rfl #[.agg #[.int .i64 x.f3.f0, .slice A4 x.f3.f1.length c4, .slice A5 x.f3.f2.length c5], .int .i64 a] rfl (by (try simp only [List.map_toArray, List.map_cons, List.map_nil]); first | done | rfl) ?_
       (with_reducible refine (goT x.f3 HX.out.p3 x.f3.f0 a A4 A5 c4 c5 S _ (by have := HA.out; omega) (by have := HA.out; omega) (G4.out.step (fun _ h => h) HW.out) (G5.out.step (fun _ h => h) HW.out)).mono ?_)
       rintro e w2 ⟨rfl, hb⟩
       refine ⟨_, rfl, ?_⟩
       have hy : w2.cell? ⟨gb, 6, none⟩ = some (.slice A6 x.f4.length c6) := hb.row _ _ _ _ K6.out
       have K72 := Aside0.mk (hb.row _ _ _ _ K7.out)
       have HW2 := Aside0.mk (HW.out.then_ hb)
       clear hb hx3 hx4 hx5 HW K6 K7)
    | ((with_reducible refine gate_callee (f := 36) rfl ?_)
       refine goesL_ (some 12) rfl rfl Tryd.func36 (by kernel_rfl) rfl #[.slice A6 x.f4.length c6, .int .i64 (a + (x.f3.f1.length : Nat) + (cnTypeS x.f3.f2 : Nat))] rfl (by (try simp only [List.map_toArray, List.map_cons, List.map_nil]); first | done | rfl) ?_
       (with_reducible refine (GoL.go (goL x.f4.length HX.out.p4.1) (a + (x.f3.f1.length : Nat) + (cnTypeS x.f3.f2 : Nat)) A6 c6 S _ (by have := HA.out; omega) (by have := HA.out; omega) (G6.out.step (fun _ h => h) HW2.out)).mono ?_)
       rintro e w3 ⟨rfl, hb⟩
       refine ⟨_, rfl, ?_⟩
       have hz : w3.cell? ⟨gb, 7, none⟩ = some (.slice A7 x.f5.length c7) := hb.row _ _ _ _ K72.out
       have HW3 := Aside0.mk (HW2.out.then_ hb)
       clear hb hy HW2 K72)
    | ((with_reducible refine gate_callee (f := 37) rfl ?_)
       refine goesL_ (some 16) rfl rfl Tryd.func37 (by kernel_rfl) rfl #[.slice A7 x.f5.length c7, .int .i64 (a + (x.f3.f1.length : Nat) + (cnTypeS x.f3.f2 : Nat) + (x.f4.length : Nat))] rfl (by (try simp only [List.map_toArray, List.map_cons, List.map_nil]); first | done | rfl) ?_
       (with_reducible refine (GoES.go (goES_in x HX.out) (a + (x.f3.f1.length : Nat) + (cnTypeS x.f3.f2 : Nat) + (x.f4.length : Nat)) A7 c7 S _ (by have := HA.out; omega) (by have := HA.out; omega) (G7.out.step (fun _ h => h) HW3.out)).mono ?_)
       rintro e w4 ⟨rfl, hb⟩
       refine ⟨_, rfl, ?_⟩
       have HW4 := Aside0.mk (HW3.out.then_ hb)
       clear hb hz HW3))
  go_ret
  exact ⟨_, by have := HA.out; exact ⟨by omega, by omega⟩, rfl, HW4.out⟩
theorem cnType_cv : ∀ x : S25, cnType (cvType x) ≤ wtType x + 1 := by
  refine indTypeL fun x ih => ?_
  rw [cnType_eq, cvType_eq, wtType_eq]
  have hL : ∀ l : List S25, (∀ y ∈ l, cnType (cvType y) ≤ wtType y + 1) → cnTypeS (l.map cvType) ≤ l.length + (l.map wtType).sum := by
    intro l
    induction l with
    | nil => intro _; simp [cnTypeS]
    | cons y r ih2 =>
      intro h
      have h1 := h y (List.mem_cons_self ..)
      have h2 := ih2 (fun z hz => h z (List.mem_cons_of_mem _ hz))
      simp only [List.map_cons, cnTypeS, List.sum_cons, List.length_cons] at h2 ⊢
      omega
  have := hL x.f2 ih
  dsimp only
  rw [cvTypeS_map, wtTypeS_sum]
  unfold wts
  omega
theorem cnTerm_cv : ∀ x : S28, cnTerm (cvTerm x) ≤ 4 * (wtTerm x + 1) := by
  refine indTermL fun x ih => ?_
  have h3 := cnType_cv x.f3
  rw [cnType_eq] at h3
  rw [cnTerm_eq, cvTerm_eq, wtTerm_eq]
  have hL : ∀ l : List S28, (∀ y ∈ l, cnTerm (cvTerm y) ≤ 4 * (wtTerm y + 1)) → cnTermS (l.map cvTerm) ≤ 4 * (l.length + (l.map wtTerm).sum) := by
    intro l
    induction l with
    | nil => intro _; simp [cnTermS]
    | cons y r ih2 =>
      intro h
      have h1 := h y (List.mem_cons_self ..)
      have h2 := ih2 (fun z hz => h z (List.mem_cons_of_mem _ hz))
      simp only [List.map_cons, cnTermS, List.sum_cons, List.length_cons] at h2 ⊢
      omega
  have := hL x.f5 ih
  dsimp only
  rw [cvTermS_map, wtTermS_sum]
  unfold wts
  omega

end Go.Proofs.YtpckkjeapfdilaaDoor.Px
end
