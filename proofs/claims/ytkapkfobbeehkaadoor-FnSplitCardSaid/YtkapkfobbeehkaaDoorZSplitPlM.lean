/- Plain words for the pure statements: what a function with rounds comes to, loops, cuts of a budget. No condition. -/
import Derived.Test.YtkapkfobbeehkaaDoorZSplitWWordsM
import Derived.Test.YtkapkfobbeehkaaDoorZSplitShelfM
import Derived.Lib.SplitLaws
import Derived.Lib.IndexLaws
import Derived.Test.YtkapkfobbeehkaaDoorZSplitPs4M
import Derived.Lib.Join
import Derived.Laws.Bits128
import Derived.Deep.Slices
import Derived.ChangeArms
import Derived.DataReads
import Derived.Test.YtkapkfobbeehkaaDoorRows
import Derived.WalkKit
import Derived.ProofKit
import Derived.OpenShut
import Derived.ShutString
import Derived.ChangeOld
import Derived.Below
import Derived.SizedLaws
import Derived.HandedShaped
import Derived.ChangeSame
import Derived.ChangeVars
import Derived.JoinedOf
import Derived.RowKitTokens
import Derived.LaidLaws
import Derived.LaidHandle
import Derived.LaidSub
import Derived.Stop.LaidErr
import Derived.Stop.ErrReads
import Derived.Stop.Joined
import Derived.ChangeSlices
section
namespace Go.Proofs.YtkapkfobbeehkaaDoor.Pl
open Go.RowKit Go.Proofs.YtkapkfobbeehkaaDoorW.PrintWords
set_option linter.unusedVariables false
theorem Ev.up {α : Type} {g : Nat → Option α} {r : α} (h : Ev (fun k => g (k + 1)) r) : Ev g r := Ev.step (f := fun k => g (k + 1)) (fun _ => rfl) h
theorem Ev.pos {α : Type} {A B : Nat → Option α} {r : α} {c : Prop} [Decidable c] (hc : c) (h : Ev A r) : Ev (fun n => if c then A n else B n) r :=
  Ev.congr (f := A) (fun k => by rw [if_pos hc]) h
theorem Ev.neg {α : Type} {A B : Nat → Option α} {r : α} {c : Prop} [Decidable c] (hc : ¬ c) (h : Ev B r) : Ev (fun n => if c then A n else B n) r :=
  Ev.congr (f := B) (fun k => by rw [if_neg hc]) h
theorem Ev.cases {α : Type} {A B : Nat → Option α} {r : α} {c : Prop} [Decidable c] (h1 : c → Ev A r) (h2 : ¬ c → Ev B r) : Ev (fun n => if c then A n else B n) r := by
  by_cases hc : c
  · exact Ev.pos hc (h1 hc)
  · exact Ev.neg hc (h2 hc)
theorem Ev.const {α : Type} {a r : α} (e : a = r) : Ev (fun _ => some a) r := by subst e; exact Ev.now _
theorem w1 {i n : Nat} (h : i < n) (hn : n ≤ maxLen) : wrap64 ((i : Int) + 1) = ((i + 1 : Nat) : Int) := by
  have : n ≤ 9223372036854775807 := hn
  unfold wrap64
  omega
theorem w64 {a : Int} (h : -9223372036854775808 ≤ a) (h2 : a ≤ 9223372036854775807) : wrap64 a = a := by unfold wrap64; omega
theorem Ev.map {α β : Type} {g : Nat → Option α} {a : α} (f : α → β) (h : Ev g a) : Ev (fun k => (g k).map f) (f a) := by
  obtain ⟨K, hK⟩ := h
  exact ⟨K, fun k hk => by show (g k).map f = _; rw [hK k hk]; rfl⟩
theorem rdOf_str (xs : List ByteArray) (i : Nat) : rdOf ByteArray.empty xs (i : Int) = xs.getD i ByteArray.empty := by simp [rdOf]
theorem mem_getD {α : Type} (xs : List α) (d : α) (i : Nat) (h : i < xs.length) : xs.getD i d ∈ xs := by
  simp [List.getD_eq_getElem?_getD, h]
/-- Two texts with rounds come to the same. -/
def Same {α : Type} (f g : Nat → Option α) : Prop := ∃ r, Ev f r ∧ Ev g r
theorem Same.symm {α : Type} {f g : Nat → Option α} (h : Same f g) : Same g f := let ⟨r, a, b⟩ := h; ⟨r, b, a⟩
theorem Same.bind {α β : Type} {f g : Nat → Option α} {F G : Nat → α → Option β} (h : Same f g) (k : ∀ r, Ev f r → Ev g r → Same (F · r) (G · r)) : Same (fun n => (f n).bind (F n)) (fun n => (g n).bind (G n)) := by
  obtain ⟨r, a, b⟩ := h
  obtain ⟨s, c, d⟩ := k r a b
  exact ⟨s, Ev.bind a c, Ev.bind b d⟩
theorem Same.posL {α : Type} {A B g : Nat → Option α} {c : Prop} [Decidable c] (hc : c) (h : Same A g) : Same (fun n => if c then A n else B n) g := let ⟨r, a, b⟩ := h; ⟨r, Ev.pos hc a, b⟩
theorem Same.negL {α : Type} {A B g : Nat → Option α} {c : Prop} [Decidable c] (hc : ¬ c) (h : Same B g) : Same (fun n => if c then A n else B n) g := let ⟨r, a, b⟩ := h; ⟨r, Ev.neg hc a, b⟩
theorem Same.posR {α : Type} {A B g : Nat → Option α} {c : Prop} [Decidable c] (hc : c) (h : Same g A) : Same g (fun n => if c then A n else B n) := let ⟨r, a, b⟩ := h; ⟨r, a, Ev.pos hc b⟩
theorem Same.negR {α : Type} {A B g : Nat → Option α} {c : Prop} [Decidable c] (hc : ¬ c) (h : Same g B) : Same g (fun n => if c then A n else B n) := let ⟨r, a, b⟩ := h; ⟨r, a, Ev.neg hc b⟩
theorem Same.pos {α : Type} {A B C D : Nat → Option α} {c d : Prop} [Decidable c] [Decidable d] (hc : c) (hd : d) (h : Same A C) : Same (fun n => if c then A n else B n) (fun n => if d then C n else D n) := Same.posL hc (Same.posR hd h)
theorem Same.neg {α : Type} {A B C D : Nat → Option α} {c d : Prop} [Decidable c] [Decidable d] (hc : ¬ c) (hd : ¬ d) (h : Same B D) : Same (fun n => if c then A n else B n) (fun n => if d then C n else D n) := Same.negL hc (Same.negR hd h)
theorem Same.up {α : Type} {f g : Nat → Option α} (h : Same (fun k => f (k + 1)) (fun k => g (k + 1))) : Same f g := let ⟨r, a, b⟩ := h; ⟨r, Ev.up a, Ev.up b⟩
/-- A loop over an index, on both sides, with one state. -/
theorem Same.loop {σ ρ : Type} (n : Nat) (L M : Nat → σ → Nat → Option ρ) (hend : ∀ s, Same (fun k => L k s n) (fun k => M k s n))
    (hstep : ∀ i s, i < n → (∀ s', Same (fun k => L k s' (i + 1)) (fun k => M k s' (i + 1))) → Same (fun k => L k s i) (fun k => M k s i)) : ∀ s, Same (fun k => L k s 0) (fun k => M k s 0) := by
  suffices h : ∀ m i s, i + m = n → Same (fun k => L k s i) (fun k => M k s i) from fun s => h n 0 s (by omega)
  intro m
  induction m with
  | zero => intro i s hi; obtain rfl : i = n := by omega
            exact hend s
  | succ m ih => intro i s hi; exact hstep i s (by omega) (fun s' => ih (i + 1) s' (by omega))
end Go.Proofs.YtkapkfobbeehkaaDoor.Pl
end
section
namespace Go.Proofs.YtkapkfobbeehkaaDoor.Ps
open Go.RowKit Go.Proofs.YtkapkfobbeehkaaDoorW.PrintWords Go.Proofs.YtkapkfobbeehkaaDoorW.PrintLast Go.Proofs.YtkapkfobbeehkaaDoor.Pl Go.Proofs.YtkapkfobbeehkaaDoor.Ext
set_option linter.unusedVariables false
set_option linter.unusedSimpArgs false
theorem baExt2 {a b : ByteArray} (h : a.data.toList = b.data.toList) : a = b := by
  cases a with | mk a => cases b with | mk b =>
  congr 1
  exact Array.toList_inj.1 h
def baL (l : List UInt8) : ByteArray := ⟨l.toArray⟩
theorem baL_data (s : ByteArray) : baL s.data.toList = s := baExt2 (by simp [baL])
theorem bt_list2 (s : ByteArray) (i : Nat) (h : i < s.size) : bt s (i : Int) = ((s.data.toList.getD i 0).toNat : Int) := by
  have h' : ((i : Int)).toNat < s.size := by simpa using h
  rw [← bt_at s (i : Int) h']
  have hl : i < s.data.toList.length := by rw [Array.length_toList]; exact h
  rw [List.getD_eq_getElem?_getD, List.getElem?_eq_getElem hl]
  rfl
/-- A list split at a byte. -/
def spl (c : UInt8) : List UInt8 → List UInt8 → List (List UInt8)
  | [], cur => [cur]
  | d :: r, cur => if d = c then cur :: spl c r [] else spl c r (cur ++ [d])
theorem spl_none (c : UInt8) : ∀ (l cur : List UInt8), c ∉ l → spl c l cur = [cur ++ l]
  | [], cur, _ => by simp [spl]
  | d :: r, cur, h => by
    simp only [List.mem_cons, not_or] at h
    rw [spl, if_neg (fun e => h.1 e.symm), spl_none c r _ h.2]
    simp
theorem spl_hit (c : UInt8) (rest : List UInt8) : ∀ (pre cur : List UInt8), c ∉ pre → spl c (pre ++ c :: rest) cur = (cur ++ pre) :: spl c rest []
  | [], cur, _ => by simp [spl]
  | d :: r, cur, h => by
    simp only [List.mem_cons, not_or] at h
    rw [List.cons_append, spl, if_neg (fun e => h.1 e.symm), spl_hit c rest r _ h.2]
    simp
theorem spl_len (c : UInt8) : ∀ (l cur : List UInt8), (spl c l cur).length ≤ l.length + 1
  | [], cur => by simp [spl]
  | d :: r, cur => by
    rw [spl]
    split
    · have := spl_len c r []
      simp only [List.length_cons]
      omega
    · have := spl_len c r (cur ++ [d])
      simp only [List.length_cons]
      omega
theorem splitK_spl (c : UInt8) : ∀ (n : Nat) (l : List UInt8), l.length ≤ n → Lib.splitK [c] 0 (Lib.count l [c]) l = spl c l [] := by
  intro n
  induction n with
  | zero =>
    intro l hl
    have h0 : l = [] := List.length_eq_zero_iff.1 (by omega)
    subst h0
    have : Lib.index [] [c] = -1 := by rw [Lib.index_one]; rfl
    rw [Lib.count_miss this]
    rfl
  | succ n ih =>
    intro l hl
    by_cases h : Lib.index l [c] = -1
    · rw [Lib.count_miss h, spl_none c l []]
      · rfl
      · rw [Lib.index_one] at h
        intro hm
        obtain ⟨k, hk⟩ := List.mem_iff_getElem?.1 hm
        exact Lib.indexByte_none h k hk
    · have hge := Lib.index_ge l [c]
      obtain ⟨i, hi⟩ : ∃ i : Nat, Lib.index l [c] = i := ⟨(Lib.index l [c]).toNat, by omega⟩
      have hb := hi
      rw [Lib.index_one] at hb
      obtain ⟨h1, h2⟩ := Lib.indexByte_some hb
      have hlt : i < l.length := by
        rcases Nat.lt_or_ge i l.length with h' | h'
        · exact h'
        · rw [List.getElem?_eq_none h'] at h1; cases h1
      have e : l = l.take i ++ c :: l.drop (i + 1) := by
        have hd := List.drop_eq_getElem_cons hlt
        have hc : l[i] = c := by rw [List.getElem?_eq_getElem hlt] at h1; exact Option.some.inj h1
        rw [hc] at hd
        conv => lhs; rw [← List.take_append_drop i l, hd]
      have hn : c ∉ l.take i := by
        intro hm
        obtain ⟨k, hk⟩ := List.mem_iff_getElem?.1 hm
        rw [List.getElem?_take] at hk
        split at hk
        · rename_i hk2
          exact h2 k hk2 hk
        · cases hk
      have hc := Lib.count_hit (sub := [c]) (by simp) hi
      simp only [List.length_cons, List.length_nil, Nat.zero_add] at hc
      rw [hc, Nat.add_comm, Lib.splitK, if_neg (by simpa using h), hi]
      simp only [Int.toNat_natCast, Nat.add_zero, List.length_cons, List.length_nil, Nat.zero_add]
      rw [ih _ (by rw [List.length_drop]; omega)]
      conv => rhs; rw [e]
      rw [spl_hit c _ _ _ hn]
      simp
theorem ext_data (s : ByteArray) (a b : Nat) : (s.extract a b).data.toList = (s.data.toList.take b).drop a := by
  rw [ByteArray.data_extract, Array.toList_extract, List.drop_take]
theorem spec_loop (s : ByteArray) (c : UInt8) (hs : s.size ≤ 1048576) : ∀ m i from_ (acc : List ByteArray), i + m = s.size → from_ ≤ i → acc.length ≤ i → Ev (fun k => spec_SplitByte.l0 k s (c.toNat : Int) acc (from_ : Int) (i : Int)) (acc ++ (spl c (s.data.toList.drop i) ((s.data.toList.take i).drop from_)).map baL) := by
  have hlen : s.data.toList.length = s.size := Array.length_toList
  have hx : ∀ a b : Nat, s.extract a b = baL ((s.data.toList.take b).drop a) := fun a b => by rw [← ext_data, baL_data]
  intro m
  induction m with
  | zero =>
    intro i from_ acc hi hf ha
    rw [List.drop_of_length_le (by omega), spl]
    refine Ev.up ?_
    simp only [spec_SplitByte.l0]
    refine Ev.pos (by omega) (Ev.pos (by omega) (Ev.pos (by omega) (Ev.pos (by omega) (Ev.pos (by omega) (Ev.up ?_)))))
    simp only [spec_SplitByte.l0]
    rw [w1 (n := i + 1) (by omega) (by unfold maxLen; omega)]
    refine Ev.neg (by omega) (Ev.const ?_)
    rw [Int.toNat_natCast, Int.toNat_natCast, hx]
    rfl
  | succ m ih =>
    intro i from_ acc hi hf ha
    have hlt : i < s.size := by omega
    have hb := bt_list2 s i hlt
    have hd : s.data.toList.drop i = s.data.toList.getD i 0 :: s.data.toList.drop (i + 1) := by
      rw [List.drop_eq_getElem_cons (by omega : i < s.data.toList.length)]
      simp [List.getD_eq_getElem?_getD, hlt]
    have ht : s.data.toList.take (i + 1) = s.data.toList.take i ++ [s.data.toList.getD i 0] := by
      rw [List.take_succ_eq_append_getElem (by omega : i < s.data.toList.length)]
      simp [List.getD_eq_getElem?_getD, hlt]
    generalize s.data.toList.getD i 0 = d at hb hd ht
    rw [hd, spl]
    refine Ev.up ?_
    simp only [spec_SplitByte.l0, hb, w1 (n := s.size) hlt (by unfold maxLen; omega)]
    refine Ev.pos (by omega) (Ev.neg (by omega) (Ev.pos (by omega) (Ev.pos (by omega) ?_)))
    by_cases hc : d = c
    · subst hc
      rw [if_pos rfl]
      refine Ev.pos rfl (Ev.pos (by omega) (Ev.pos (by omega) (Ev.pos (by omega) ?_)))
      rw [Int.toNat_natCast, Int.toNat_natCast, hx]
      have h := ih (i + 1) (i + 1) (acc ++ [baL ((s.data.toList.take i).drop from_)]) (by omega) (Nat.le_refl _) (by simp; omega)
      have e0 : (s.data.toList.take (i + 1)).drop (i + 1) = [] := List.drop_of_length_le (by rw [List.length_take]; omega)
      rw [e0] at h
      simpa using h
    · have hn : ¬ ((d.toNat : Nat) : Int) = ((c.toNat : Nat) : Int) := fun e => hc (UInt8.toNat_inj.1 (by omega))
      rw [if_neg hc]
      refine Ev.neg hn ?_
      have h := ih (i + 1) from_ acc (by omega) (by omega) (by omega)
      have e0 : (s.data.toList.take (i + 1)).drop from_ = (s.data.toList.take i).drop from_ ++ [d] := by
        rw [ht, List.drop_append_of_le_length (by rw [List.length_take]; omega)]
      rw [e0] at h
      exact h
/-- The parts of a text. -/
def partS (s : ByteArray) (c : UInt8) : List ByteArray := (spl c s.data.toList []).map baL
theorem partS_len (s : ByteArray) (c : UInt8) : (partS s c).length ≤ s.size + 1 := by
  have := spl_len c s.data.toList []
  have hlen : s.data.toList.length = s.size := Array.length_toList
  rw [partS, List.length_map]
  omega
theorem spec_SplitByte_ev (s : ByteArray) (c : UInt8) (hs : s.size ≤ 1048576) : Ev (fun k => spec_SplitByte.f k s (c.toNat : Int)) (partS s c) := by
  simp only [spec_SplitByte.f]
  have h := spec_loop s c hs s.size 0 0 [] (by omega) (Nat.le_refl _) (by simp)
  simpa [partS] using h
theorem impl_SplitByte_eq (s : ByteArray) (c : UInt8) (hs : s.size ≤ 1048576) : impl_SplitByte.f s (c.toNat : Int) = some (partS s c) := by
  have hsep : (strOfNums [(c.toNat : Int)]).data.toList = [c] := by simp [strOfNums]
  have hsz : (strOfNums [(c.toNat : Int)]).size = 1 := rfl
  simp only [impl_SplitByte.f, strings_Split.f]
  rw [if_pos ⟨by omega, by omega⟩]
  simp only [Option.bind_some]
  congr 1
  have h1 := Lib.splitB_data (strOfNums [(c.toNat : Int)]) 0 (Lib.countB s (strOfNums [(c.toNat : Int)])) s
  have h2 : Lib.countB s (strOfNums [(c.toNat : Int)]) = Lib.count s.data.toList [c] := by rw [← hsep]
  rw [hsep, h2, splitK_spl c _ _ (Nat.le_refl _)] at h1
  rw [h2, partS, ← h1, List.map_map]
  have : (baL ∘ fun x : ByteArray => x.data.toList) = id := funext fun x => baL_data x
  rw [this, List.map_id]
end Go.Proofs.YtkapkfobbeehkaaDoor.Ps
end
section
namespace Go.Proofs.YtkapkfobbeehkaaDoor.Ps
open Go.RowKit Go.Proofs.YtkapkfobbeehkaaDoorW.PrintWords Go.Proofs.YtkapkfobbeehkaaDoorW.PrintLast Go.Proofs.YtkapkfobbeehkaaDoor.Pl Go.Proofs.YtkapkfobbeehkaaDoor.Ext
set_option linter.unusedVariables false
set_option linter.unusedSimpArgs false
theorem spl_join (c : UInt8) : ∀ (l cur : List UInt8), Lib.joinTail [c] (spl c l cur) = c :: (cur ++ l)
  | [], cur => by simp [spl, Lib.joinTail]
  | d :: r, cur => by
    rw [spl]
    split
    · rename_i h
      subst h
      have := spl_join d r []
      simp only [Lib.joinTail, List.map_cons, List.flatten_cons] at this ⊢
      rw [this]
      simp
    · rw [spl_join c r (cur ++ [d])]
      simp
theorem spl_join0 (c : UInt8) (l : List UInt8) : Lib.join (spl c l []) [c] = l := by
  have h := spl_join c l []
  cases hs : spl c l [] with
  | nil => rw [hs] at h; simp [Lib.joinTail] at h
  | cons x r =>
    rw [hs] at h
    rw [Lib.join_cons]
    simp only [Lib.joinTail, List.map_cons, List.flatten_cons, List.cons_append, List.nil_append, List.cons.injEq, true_and] at h ⊢
    exact h
theorem spl_free (c : UInt8) : ∀ (l cur : List UInt8), c ∉ cur → ∀ p ∈ spl c l cur, c ∉ p
  | [], cur, h, p, hp => by
    simp only [spl, List.mem_singleton] at hp
    subst hp
    exact h
  | d :: r, cur, h, p, hp => by
    rw [spl] at hp
    split at hp
    · rcases List.mem_cons.1 hp with rfl | hp
      · exact h
      · exact spl_free c r [] (by simp) p hp
    · rename_i hd
      refine spl_free c r (cur ++ [d]) ?_ p hp
      simp only [List.mem_append, List.mem_singleton, not_or]
      exact ⟨h, fun e => hd e.symm⟩
theorem partS_data (s : ByteArray) (c : UInt8) : (partS s c).map (·.data.toList) = spl c s.data.toList [] := by
  rw [partS, List.map_map]
  have : ((fun x : ByteArray => x.data.toList) ∘ baL) = id := funext fun l => by simp [baL]
  rw [this, List.map_id]
theorem part_one (s p : ByteArray) (c : UInt8) (hp : p ∈ partS s c) : partS p c = [p] := by
  obtain ⟨l, hl, rfl⟩ := List.mem_map.1 hp
  have h := spl_free c s.data.toList [] (by simp) l hl
  have e : (baL l).data.toList = l := by simp [baL]
  rw [partS, e, spl_none c l [] h]
  simp
theorem spl_small (c : UInt8) : ∀ (l cur : List UInt8), ∀ p ∈ spl c l cur, p.length ≤ cur.length + l.length
  | [], cur, p, hp => by
    simp only [spl, List.mem_singleton] at hp
    subst hp
    simp
  | d :: r, cur, p, hp => by
    rw [spl] at hp
    split at hp
    · rcases List.mem_cons.1 hp with rfl | hp
      · simp
      · have := spl_small c r [] p hp
        simp only [List.length_cons, List.length_nil] at this ⊢
        omega
    · have := spl_small c r (cur ++ [d]) p hp
      simp only [List.length_append, List.length_cons, List.length_nil] at this ⊢
      omega
theorem part_small (s : ByteArray) (c : UInt8) (p : ByteArray) (hp : p ∈ partS s c) (hs : s.size ≤ 1048576) : p.size ≤ 1048576 := by
  obtain ⟨l, hl, rfl⟩ := List.mem_map.1 hp
  have h := spl_small c s.data.toList [] l hl
  have hlen : s.data.toList.length = s.size := Array.length_toList
  have e : (baL l).size = l.length := by simp [baL, ByteArray.size]
  simp only [List.length_nil] at h
  omega
theorem i64_and255 (n : Int) : Go.bits .and .i64 n 255 = n % 256 := by
  have h255 : (BitVec.ofInt 64 255).toNat = 2 ^ 8 - 1 := by decide
  have key : (BitVec.ofInt 64 n &&& BitVec.ofInt 64 255).toNat = (n % ((2 ^ 64 : Nat) : Int)).toNat % 2 ^ 8 := by
    rw [BitVec.toNat_and, BitVec.toNat_ofInt, h255, Nat.and_two_pow_sub_one_eq_mod]
  show IntKind.i64.wrap ((BitVec.ofInt 64 n &&& BitVec.ofInt 64 255).toNat : Nat) = n % 256
  rw [key, IntKind.wrap_i64]
  omega
theorem and255 (x : Int) : 0 ≤ Go.bits .and .i64 x 255 ∧ Go.bits .and .i64 x 255 ≤ 255 := by
  rw [i64_and255]
  omega
theorem l1Byte_ev (l : List Int) (hl : l.length ≤ 1048576) (i h : Int) (h0 : 0 ≤ i) (h1 : i ≤ l.length) : ∃ x i' h', spec_l1Byte.f l i h = some (x, i', h') ∧ 0 ≤ x ∧ x ≤ 255 ∧ 0 ≤ i' ∧ i' ≤ l.length := by
  unfold spec_l1Byte.f
  by_cases hc : i < (l.length : Int)
  · rw [if_pos hc, if_pos h0]
    have e : wrap64 (i + 1) = i + 1 := w64 (by omega) (by omega)
    exact ⟨_, _, _, rfl, (and255 _).1, (and255 _).2, by omega, by omega⟩
  · rw [if_neg hc]
    exact ⟨_, _, _, rfl, (and255 _).1, (and255 _).2, h0, h1⟩
theorem l1Below_ev (l : List Int) (hl : l.length ≤ 1048576) (i h n : Int) (h0 : 0 ≤ i) (h1 : i ≤ l.length) (hn : 0 < n) (hn2 : n ≤ 256) : ∃ x i' h', spec_l1Below.f l i h n = some (x, i', h') ∧ 0 ≤ x ∧ x < n ∧ 0 ≤ i' ∧ i' ≤ l.length := by
  obtain ⟨x, i', h', e, a, b, c, d⟩ := l1Byte_ev l hl i h h0 h1
  unfold spec_l1Below.f
  rw [if_neg (by omega), if_pos hn2, e]
  simp only [Option.bind_some]
  rw [if_neg (by omega)]
  exact ⟨_, _, _, rfl, Int.tmod_nonneg _ a, Int.tmod_lt_of_pos _ hn, c, d⟩
theorem l1Pick_ev (l : List Int) (hl : l.length ≤ 1048576) (i h : Int) (xs : List ByteArray) (h0 : 0 ≤ i) (h1 : i ≤ l.length) (hn : 0 < xs.length) (hn2 : xs.length ≤ 256) : ∃ s i' h', spec_l1Pick.f l i h xs = some (s, i', h') ∧ s ∈ xs ∧ 0 ≤ i' ∧ i' ≤ l.length := by
  obtain ⟨x, i', h', e, a, b, c, d⟩ := l1Below_ev l hl i h (xs.length : Int) h0 h1 (by omega) (by omega)
  unfold spec_l1Pick.f
  rw [e]
  simp only [Option.bind_some]
  rw [if_pos a, if_pos b]
  obtain ⟨k, rfl⟩ : ∃ k : Nat, x = k := ⟨x.toNat, by omega⟩
  exact ⟨_, _, _, rfl, by rw [rdOf_str]; exact mem_getD xs _ k (by omega), c, d⟩
theorem l1PickInt_ev (l : List Int) (hl : l.length ≤ 1048576) (i h : Int) (h0 : 0 ≤ i) (h1 : i ≤ l.length) : ∃ s i' h', spec_l1PickInt.f l i h [44, 10] = some (s, i', h') ∧ (s = 44 ∨ s = 10) := by
  obtain ⟨x, i', h', e, a, b, c, d⟩ := l1Below_ev l hl i h (([44, 10] : List Int).length : Int) h0 h1 (by decide) (by decide)
  unfold spec_l1PickInt.f
  rw [e]
  simp only [Option.bind_some]
  rw [if_pos a, if_pos b]
  have b' : x < 2 := b
  have hx : x = 0 ∨ x = 1 := by omega
  rcases hx with rfl | rfl
  · exact ⟨_, _, _, rfl, Or.inl rfl⟩
  · exact ⟨_, _, _, rfl, Or.inr rfl⟩
theorem l1New_ev (l : List Int) (hl : l.length ≤ 1048576) : ∃ h, Ev (fun k => spec_l1New.f k l) (l, 0, h) := by
  simp only [spec_l1New.f]
  suffices hh : ∀ m i (x : Int), i + m = l.length → ∃ h, Ev (fun k => spec_l1New.l0 k l x (i : Int)) (l, 0, h) from hh l.length 0 _ (by omega)
  intro m
  induction m with
  | zero =>
    intro i x hi
    refine ⟨x, Ev.up ?_⟩
    simp only [spec_l1New.l0]
    exact Ev.neg (by omega) (Ev.now _)
  | succ m ih =>
    intro i x hi
    by_cases hc : (i : Int) < 4000
    · obtain ⟨h, hh⟩ := ih (i + 1) (Go.bits .and .i64 (wrap64 ((wrap64 ((wrap64 (x * 131)) + (wrap64 (rd l (i : Int))))) + 7)) 1073741823) (by omega)
      refine ⟨h, Ev.up ?_⟩
      simp only [spec_l1New.l0, w1 (n := l.length) (i := i) (by omega) (by unfold maxLen; omega)]
      exact Ev.pos (by omega) (Ev.pos hc (Ev.pos (by omega) hh))
    · refine ⟨x, Ev.up ?_⟩
      simp only [spec_l1New.l0]
      exact Ev.pos (by omega) (Ev.neg hc (Ev.now _))
theorem Draw_ev (l : List Int) (hl : l.length ≤ 1048576) : ∃ (s : ByteArray) (c : UInt8), Ev (fun k => spec_DrawSplitByte.f k l) (s, (c.toNat : Int)) ∧ s.size ≤ 5 := by
  obtain ⟨h, h1⟩ := l1New_ev l hl
  obtain ⟨s, i', h', e, a, b, c⟩ := l1Pick_ev l hl 0 h [(⟨#[]⟩ : ByteArray), (⟨#[97]⟩ : ByteArray), (⟨#[97, 44, 98]⟩ : ByteArray), (⟨#[44]⟩ : ByteArray), (⟨#[97, 44, 44, 98, 44]⟩ : ByteArray), (⟨#[97, 10, 98, 10]⟩ : ByteArray)] (Int.le_refl _) (by omega) (by decide) (by decide)
  obtain ⟨t, i2, h2, e2, f2⟩ := l1PickInt_ev l hl i' h' b c
  have hs : s.size ≤ 5 := by
    simp only [List.mem_cons, List.mem_nil_iff, or_false] at a
    rcases a with rfl | rfl | rfl | rfl | rfl | rfl <;> decide
  obtain ⟨c, hc⟩ : ∃ c : UInt8, t % 256 = (c.toNat : Int) := by
    rcases f2 with rfl | rfl
    · exact ⟨44, rfl⟩
    · exact ⟨10, rfl⟩
  refine ⟨s, c, ?_, hs⟩
  simp only [spec_DrawSplitByte.f]
  refine Ev.bind h1 ?_
  simp only [e, e2, Option.bind_some]
  exact Ev.const (by rw [hc])
theorem impl_Join_eq2 (s : ByteArray) (c : UInt8) (hs : s.size ≤ 1048576) : impl_Join.f (partS s c) (strOfNums [(c.toNat : Int)]) = some s := by
  have hsep : (strOfNums [(c.toNat : Int)]).data.toList = [c] := by simp [strOfNums]
  have hl := partS_len s c
  have hlen : s.data.toList.length = s.size := Array.length_toList
  simp only [impl_Join.f, strings_Join.f, hsep, partS_data, spl_join0]
  rw [if_pos ⟨by omega, by omega⟩]
  simp only [Option.bind_some]
theorem FnSplit_told (l : List Int) : ∃ k, laws_FnSplit.f k l = some true := by
  suffices h : Ev (fun k => laws_FnSplit.f k l) true from h.rounds
  simp only [laws_FnSplit.f, laws_big.f, Option.bind_some]
  by_cases hb : (l.length : Int) > 1048576
  · exact Ev.pos (decide_eq_true hb) (Ev.now _)
  refine Ev.neg (by simpa using hb) ?_
  obtain ⟨s, c, h1, hs⟩ := Draw_ev l (by omega)
  refine Ev.bind h1 ?_
  have hl := partS_len s c
  simp only [impl_SplitByte_eq s c (by omega), impl_Join_eq2 s c (by omega), Option.bind_some]
  refine Ev.pos trivial (Ev.bind (spec_SplitByte_ev s c (by omega)) (Ev.up ?_))
  simp only [laws_FnSplit.j0]
  refine Ev.neg (by simp) ?_
  suffices hh : ∀ m i, i + m = (partS s c).length → Ev (fun k => laws_FnSplit.l0 k (c.toNat : Int) (partS s c) (i : Int)) true from hh (partS s c).length 0 (by omega)
  intro m
  induction m with
  | zero =>
    intro i hi
    refine Ev.up ?_
    simp only [laws_FnSplit.l0]
    exact Ev.neg (by omega) (Ev.now _)
  | succ m ih =>
    intro i hi
    have hm := mem_getD (partS s c) ByteArray.empty i (by omega)
    have hone := part_one s _ c hm
    have hsz : ((partS s c).getD i ByteArray.empty).size ≤ 1048576 := part_small s c _ hm (by omega)
    refine Ev.up ?_
    simp only [laws_FnSplit.l0, rdOf_str, impl_SplitByte_eq _ c hsz, hone, Option.bind_some, w1 (n := (partS s c).length) (i := i) (by omega) (by unfold maxLen; omega)]
    exact Ev.pos (by omega) (Ev.pos (by omega) (Ev.pos (by simp) (ih (i + 1) (by omega))))

end Go.Proofs.YtkapkfobbeehkaaDoor.Ps
end
section
namespace Go.Proofs.YtkapkfobbeehkaaDoor.Pure
open Go.RowKit Go.Proofs.YtkapkfobbeehkaaDoor.Ps
theorem FnSplit : laws_FnSplit.Pure := fun l0 _ => FnSplit_told l0
end Go.Proofs.YtkapkfobbeehkaaDoor.Pure
end
section
namespace Go.Proofs.YtkapkfobbeehkaaDoor.Rd
open Go.RowKit Go.Proofs.YtkapkfobbeehkaaDoorW.PrintWords
set_option linter.unusedVariables false
/-- What reads as_ data of type t, by at most n steps, is of kind d and meets q. -/
def Op (P : Program) (n : Nat) (t : TypeId) {α : Type} (d : Kd α) (q : α → Prop) : Prop :=
  ∀ (H : Type) (enc : TypeId × Value → H) (w : World) (base : Nat) (spare : Nat → Bool) (held : Bool) (fuel : Nat) (cs : List Value) (x : DataW H × List MemPlace),
    fuel ≤ n → DataW.trod enc P w base spare held fuel t cs = some x → ∃ y, d.K w y cs ∧ q y
theorem Op.int {P : Program} {n : Nat} {t : TypeId} {k : IntKind} (ht : P.underlying t = some (.int k)) : Op P n t (Kd.int k) (fun x => (Lit.int k x).wf = true) := by
  intro H enc w base spare held fuel cs x hf hx
  obtain ⟨m, rfl, rfl, hw⟩ := DataW.trod_int ht hx
  exact ⟨m, rfl, hw⟩
theorem Op.bool {P : Program} {n : Nat} {t : TypeId} (ht : P.underlying t = some .bool) : Op P n t Kd.bool (fun _ => True) := by
  intro H enc w base spare held fuel cs x hf hx
  obtain ⟨m, rfl, rfl⟩ := DataW.trod_bool ht hx
  exact ⟨m, rfl, trivial⟩
theorem trod_string' {H : Type} {enc : TypeId × Value → H} {P : Program} {w : World} {base : Nat} {spare : Nat → Bool} {held : Bool} {fuel : Nat} {t : TypeId} {cs : List Value} {x : DataW H × List MemPlace}
    (ht : P.underlying t = some .string) (h : DataW.trod enc P w base spare held fuel t cs = some x) : ∃ s, cs = [.string s] ∧ s.size ≤ maxLen := by
  cases fuel with
  | zero => simp [DataW.trod] at h
  | succ n =>
    unfold DataW.trod at h
    rw [ht] at h
    split at h <;> simp_all
theorem Op.string {P : Program} {n : Nat} {t : TypeId} (ht : P.underlying t = some .string) : Op P n t Kd.string (fun s => s.size ≤ maxLen) := by
  intro H enc w base spare held fuel cs x hf hx
  obtain ⟨m, rfl, hm⟩ := trod_string' ht hx
  exact ⟨m, rfl, hm⟩
theorem add_add (a : Addr) (i j : Nat) : (a.add i).add j = a.add (i + j) := by
  unfold Addr.add
  by_cases h1 : i = 0 <;> by_cases h2 : j = 0 <;> simp [h1, h2, Nat.add_assoc]
theorem choose_list {α : Type} {p : Nat → α → Prop} (n : Nat) (h : ∀ i, i < n → ∃ y, p i y) : ∃ ys : List α, ys.length = n ∧ ∀ i y, ys[i]? = some y → p i y := by
  induction n with
  | zero => exact ⟨[], rfl, fun i y hy => by simp at hy⟩
  | succ n ih =>
    obtain ⟨ys, hl, hy⟩ := ih (fun i hi => h i (by omega))
    obtain ⟨z, hz⟩ := h n (by omega)
    refine ⟨ys ++ [z], by simp [hl], fun i y hi => ?_⟩
    by_cases hlt : i < n
    · rw [List.getElem?_append_left (by omega)] at hi
      exact hy i y hi
    · by_cases he : i = n
      · subst he
        rw [List.getElem?_append_right (by omega)] at hi
        simp [hl] at hi
        subst hi
        exact hz
      · rw [List.getElem?_eq_none (by simp; omega)] at hi
        cases hi
theorem Op.slice {P : Program} {n : Nat} {t e : TypeId} {α : Type} {d : Kd α} {q : α → Prop} (ht : P.underlying t = some (.slice e)) (hsz : P.cellsOf e = d.sz) (h : ∀ k, k < n → Op P k e d q) :
    Op P n t (Kd.slice e d) (fun xs => xs.length ≤ maxLen ∧ ∀ y ∈ xs, q y) := by
  intro H enc w base spare held fuel cs x hf hx
  rcases DataW.trod_slice ht hx with ⟨rfl, _⟩ | ⟨a, len, cap, elems, rest, m, hm, rfl, _, hb, hl, hc, hlen, hel, _, _⟩
  · exact ⟨[], ⟨none, 0, rfl, Nat.le_refl _, ⟨rfl, by simp, fun hp => absurd hp (by simp)⟩⟩, by simp, fun y hy => by simp at hy⟩
  · have hone : ∀ i, i < len → ∃ y, (∃ c, c.length = d.sz ∧ d.K w y c ∧ ∀ j u, c[j]? = some u → w.cell? (a.add (i * d.sz + j)) = some u) ∧ q y := by
      intro i hi
      have h1 := hel i hi
      rw [List.getElem?_eq_getElem (by omega)] at h1
      obtain ⟨c, hc1, hc2⟩ := Option.bind_eq_some_iff.1 h1
      obtain ⟨y, hy, hq⟩ := h m (by omega) H enc w base spare held m c _ (Nat.le_refl _) hc2
      obtain ⟨_, hcl, hcells⟩ := World.cells?_some hc1
      refine ⟨y, ⟨c, by omega, hy, fun j u hu => ?_⟩, hq⟩
      have hj : j < P.cellsOf e := by
        rw [← hcl]
        exact (List.getElem?_eq_some_iff.1 hu).1
      have := hcells j hj
      rw [add_add, hsz] at this
      rw [this, hu]
    obtain ⟨ys, hyl, hys⟩ := choose_list len hone
    have hmx : len ≤ 9223372036854775807 := by
      have : cap ≤ 9223372036854775807 := hc
      omega
    refine ⟨ys, ⟨some a, cap, by rw [hyl], by omega, ⟨rfl, by omega, fun _ => ⟨a, rfl, fun j p hj => (hys j p hj).1⟩⟩⟩, by rw [hyl]; exact hmx, fun y hy => ?_⟩
    obtain ⟨i, hi, rfl⟩ := List.getElem_of_mem hy
    exact (hys i _ (List.getElem?_eq_getElem hi)).2
/-- Fields, from an offset on. -/
def OpF (P : Program) (n : Nat) (fs : List Field) (off : Nat) {α : Type} (d : Kd α) (q : α → Prop) : Prop :=
  ∀ (H : Type) (enc : TypeId × Value → H) (w : World) (base : Nat) (spare : Nat → Bool) (held : Bool) (fuel : Nat) (cs : List Value), fuel ≤ n →
    (∀ f ∈ fs, ∃ x, DataW.trod enc P w base spare held fuel f.type ((cs.drop f.offset).take (P.cellsOf f.type)) = some x) → cs.length = off + d.sz → ∃ y, d.K w y (cs.drop off) ∧ q y
theorem OpF.one {P : Program} {n : Nat} {f : Field} {off : Nat} {α : Type} {d : Kd α} {q : α → Prop} (ho : f.offset = off) (hsz : P.cellsOf f.type = d.sz) (h : Op P n f.type d q) : OpF P n [f] off d q := by
  intro H enc w base spare held fuel cs hf hx hl
  obtain ⟨x, hx⟩ := hx f (List.mem_singleton.2 rfl)
  rw [ho, hsz, List.take_of_length_le (by rw [List.length_drop]; omega)] at hx
  exact h H enc w base spare held fuel _ x hf hx
theorem OpF.cons {P : Program} {n : Nat} {f : Field} {fs : List Field} {off : Nat} {α β : Type} {a : Kd α} {b : Kd β} {qa : α → Prop} {qb : β → Prop} (ho : f.offset = off) (hsz : P.cellsOf f.type = a.sz) (h : Op P n f.type a qa) (hr : OpF P n fs (off + a.sz) b qb) :
    OpF P n (f :: fs) off (Kd.pair a b) (fun y => qa y.1 ∧ qb y.2) := by
  intro H enc w base spare held fuel cs hf hx hl
  have hl' : cs.length = off + (a.sz + b.sz) := hl
  obtain ⟨x, h1⟩ := hx f (List.mem_cons_self ..)
  rw [ho, hsz] at h1
  obtain ⟨y, hy, hq⟩ := h H enc w base spare held fuel _ x hf h1
  obtain ⟨z, hz, hq2⟩ := hr H enc w base spare held fuel cs hf (fun g hg => hx g (List.mem_cons_of_mem _ hg)) (by omega)
  refine ⟨(y, z), ⟨_, _, ?_, hy, hz⟩, hq, hq2⟩
  rw [← List.drop_drop, List.take_append_drop]
theorem Op.struct {P : Program} {n : Nat} {t : TypeId} {fs : Array Field} {α : Type} {d : Kd α} {q : α → Prop} (ht : P.underlying t = some (.struct fs)) (hsz : P.cellsOf t = d.sz) (h : ∀ k, k < n → OpF P k fs.toList 0 d q) : Op P n t d q := by
  intro H enc w base spare held fuel cs x hf hx
  obtain ⟨xs, m, hm, _, hl, hxl, hfs⟩ := DataW.trod_struct ht hx
  have hr := h m (by omega) H enc w base spare held m cs (Nat.le_refl _) (fun f hfm => ?_) (by omega)
  · simpa using hr
  · obtain ⟨i, hi, rfl⟩ := List.getElem_of_mem hfm
    have hi' : i < fs.size := by simpa using hi
    have h2 := hfs i _ (Array.getElem?_eq_getElem hi')
    rw [List.getElem?_eq_getElem (by omega)] at h2
    exact ⟨_, by simpa using h2⟩
/-- The same at whatever fuel. -/
theorem Op.open_ {P : Program} {t : TypeId} {α : Type} {d : Kd α} {q : α → Prop} (h : ∀ n, Op P n t d q) {H : Type} {enc : TypeId × Value → H} {w : World} {base : Nat} {spare : Nat → Bool} {held : Bool} {v : Value} {x : DataW H} {ps : List MemPlace}
    (ht : DataW.Trod enc P w base spare held t v x ps) : ∃ y, d.K w y v.cells.toList ∧ q y := by
  obtain ⟨fuel, hf⟩ := ht
  exact h fuel H enc w base spare held fuel _ _ (Nat.le_refl _) hf
end Go.Proofs.YtkapkfobbeehkaaDoor.Rd
end
section
namespace Go.Proofs.YtkapkfobbeehkaaDoor.fnSplit
open Go.ChangeShapes Go.WideShapes Go.ChangeAt Go.RowKit Go.Proofs.YtkapkfobbeehkaaDoor.Ps Go.Proofs.YtkapkfobbeehkaaDoorW.PrintWords
open Go.ChangeMaps (open_string shut_string)
set_option linter.unusedVariables false
theorem own : ownKnob Tryd.prog.godebug = none := by kernel_rfl
theorem laidOut : laidOutB Tryd.prog = true := by kernel_rfl
/-- A heap whose block i holds these cells. -/
noncomputable def layAt (h : Array Obj) (i : Nat) (cs : Array Value) : Array Obj := h.modify i fun
  | .cells _ t frozen => .cells cs t frozen
  | o => o
open Go.Proofs.YtkapkfobbeehkaaDoor.Ext (Laid)
/-- The world of the witness: the listed variables hold what they are laid with. -/
noncomputable def laidWorld (os : Os) : World :=
  { World.holding Tryd.prog os ⟨#[], #[], []⟩ with heap := (layAt (layAt (World.holding Tryd.prog os ⟨#[], #[], []⟩).heap 5
      (([128, 191, 160, 191, 128, 159, 144, 191, 128, 143, 0, 0, 0, 0, 0, 0, 0, 0, 0, 0, 0, 0, 0, 0, 0, 0, 0, 0, 0, 0, 0, 0] : List Int).map fun z => Value.int .u8 z).toArray) 4
      (Go.Pinned.utf8FirstZ.map fun (z : Nat) => Value.int .u8 (z : Int)).toArray) }
theorem laidWorld_met (os : Os) (args : Array Value) : laidMetH Tryd.prog Rows.fnSplitRow.laid ((laidWorld os).forCall (fun _ _ => 0) ⟨#[], args, []⟩).memory :=
  laidMetH_of_parts (laidMet_of_run' 8 (by kernel_rfl) (by kernel_rfl)) (by kernel_rfl)
/-- The wrap: what the row lists and the world's shape are both handed on. -/
theorem change_and_shaped {H : Type} {enc : TypeId × Value → H} {a : Assume} {C : Checked} {os : Os} {f : FuncId} {fn : Func} {s : ChangeSpec} {conds : List PathCond} {apart fresh handsOn again : Bool} {X : World → Array Value → Prop}
    (hX : ∀ (w w' : World) (args : Array Value), w.heap = w'.heap → X w args → X w' args)
    (own : ownKnob C.prog.godebug = none) (started : os.Started) (noInit : C.prog.inits.idxOf? f = none) (hfn : C.prog.funcs[f]? = some fn)
    (witness : ∃ (w : World) (tape : Tape) (i : Input), w.os = os ∧ (w.forCall tape i).Shaped C.prog ∧ i.vars = [] ∧ Input.okWide C.prog (w.forCall tape i) .any w.heap.size f i ∧
      ((s.pre enc C.prog fn conds apart (w.forCall tape i).memory i.args ∧ X (w.forCall tape i).memory i.args) ∧ sizedMet enc C.prog fn (OpenSpec.ofChange s) apart (w.forCall tape i).memory i.args) ∧ a.holds C.prog (lone (Frame.enter C.prog f i.args .normal) [] (w.forCall tape i)))
    (contract : ∀ (W : World) (base : Nat) (args : Array Value) (ds gs : List (DataW H)) (before : List MemPlace),
      (∀ (j : Nat) t v, fn.params[j]? = some t → args[j]? = some v → Value.okWide C.prog W .any base t v) →
      DataW.Whole enc C.prog fn.params.toList s.vars apart W args.toList ds gs before →
      conds.all (PathCond.test C.prog ⟨fn.params.toList, ds, s.plain.varTypes C.prog, gs⟩) = true →
      (DataW.weightsEach C.prog (fn.params.toList ++ s.plain.varTypes C.prog) (ds ++ gs)).all (· ≤ reachBytes) = true → X W args →
      W.ShapedOpen C.prog →
      a.holds C.prog (lone (Frame.enter C.prog f args .normal) [] W) →
      Calls C.prog f args W fun e W' => ∃ v, e = .returned v ∧ s.post enc C.prog fn apart fresh handsOn again W args v W') :
    ReturnsInHanded a C os f .any (fun w args => (s.pre enc C.prog fn conds apart w args ∧ X w args) ∧ sizedMet enc C.prog fn (OpenSpec.ofChange s) apart w args) (s.post enc C.prog fn apart fresh handsOn again) := by
  refine returnsInHanded_of_calls own started noInit witness ?_
  intro w tape i _ hsh _ hok hpre hholds
  obtain ⟨_, _, _, fn', hfn', _, _, _, _, hval⟩ := hok
  have e : fn' = fn := Option.some.inj (hfn'.symm.trans hfn)
  subst e
  obtain ⟨⟨⟨ds, gs, before, hw, hc⟩, hx⟩, hz⟩ := hpre
  have hw' := DataW.Whole.of_heap (w' := w.forCall tape i) (by rfl) hw
  refine (contract (w.forCall tape i) w.heap.size i.args ds gs before hval hw' hc (hz.weights hw) (hX _ _ _ (by rfl) hx) hsh hholds).mono fun e W' ⟨v, he, hp⟩ => ?_
  subst he
  exact ChangeSpec.post_blind hp
set_option maxRecDepth 100000 in
theorem lifted (os : Os) (started : os.Started) (H : Type) (enc : TypeId × Value → H) :
    ReturnsInHanded {} Tryd.checked os 7 .any (fun w args => (Rows.fnSplitSpec.pre enc Tryd.prog Tryd.f7 [] false w args ∧ laidMetH Tryd.prog Rows.fnSplitRow.laid w) ∧ sizedMet enc Tryd.prog Tryd.f7 (OpenSpec.ofChange Rows.fnSplitSpec) false w args) (Rows.fnSplitSpec.post enc Tryd.prog Tryd.f7 false true false false) := by
  refine change_and_shaped (C := Tryd.checked) (X := fun w _ => laidMetH Tryd.prog Rows.fnSplitRow.laid w) (fun _ _ _ hh h => h.of_heap hh) own started (by kernel_rfl) Tryd.func7
    (ChangeSpec.witness_at (enc := enc) (C := Tryd.checked) (os := os) (X := fun w _ => laidMetH Tryd.prog Rows.fnSplitRow.laid w) false (laidWorld os) #[.slice none 0 0] 8 rfl (by kernel_rfl) (by kernel_rfl) (by kernel_rfl) (by kernel_rfl) (by kernel_rfl) (laidWorld_met os _)) ?_
  intro W base args ds gs before hval0 hW hcnd hsz0 hL0 hsh _
  have hL : Laid W := Tryd.laysM146.s1_3 W hsh
  have hsz : (DataW.weightsEach Tryd.prog (Tryd.f7.params.toList ++ Rows.fnSplitSpec.plain.varTypes Tryd.prog) (ds ++ gs)).all (· ≤ reachBytes) = true := hsz0
  have hval : ∀ (j : Nat) t v, Tryd.f7.params[j]? = some t → args[j]? = some v → Value.okWide Tryd.prog W .any base t v := hval0
  have hW' := hW
  obtain ⟨p, q, hA0, hV, rfl, hfz, hnd⟩ := hW
  have hA : DataW.TrodAll enc Tryd.prog W 0 (fun _ => true) true Tryd.f7.params.toList args.toList ds p := hA0
  rw [Tryd.params7] at hA hval hsz
  obtain ⟨v0, vs0, d0, ds0, p0, q0, hargs, rfl, rfl, h0, r0⟩ := trodAll_cons hA
  obtain ⟨rfl, rfl, rfl⟩ := trodAll_nil r0
  obtain rfl : args = #[v0] := by cases args; simp_all
  obtain ⟨rfl, rfl⟩ := trodVars_none hV
  have k0 := h0
  have lt0 : ∀ x ∈ p0, x.block < W.heap.size := by obtain ⟨m, hm⟩ := k0; exact DataW.trod_lt m _ _ _ hm
  obtain ⟨a0, len0, cap0, rfl⟩ := okWide_slice Tryd.underlying32 (hval 0 32 v0 rfl rfl)
  obtain ⟨x0, K0, Q0⟩ := Rd.Op.open_ (fun n => (Rd.Op.slice Tryd.underlying32 (by kernel_rfl) (fun j0 hj0 => (Rd.Op.int Tryd.underlying5)))) h0
  obtain ⟨A0, c0, e0, l0, g0⟩ := K0
  simp only [Value.cells, List.cons.injEq, Value.slice.injEq, and_true] at e0
  obtain ⟨rfl, rfl, rfl⟩ := e0
  clear hA0 hval0 hsz0 hsz
  obtain ⟨k, hk⟩ := Pure.FnSplit x0 Q0
  refine (Ps.laws_FnSplit.calls k _ _ x0 true W g0 l0 hL hk).mono fun e W' he => ?_
  obtain ⟨he, bel⟩ : e = .returned (.bool true) ∧ Below W.heap.size W W' := ⟨he.1, he.2⟩
  subst he
  exact ⟨_, rfl, _, _, _, [], _, [], hW', trodAll_mk1 (shut_bool Tryd.underlying4 _), (trodAll_cons_mk (Below.trod laidOut (by kernel_rfl) (of_decide_eq_true (by kernel_rfl)) k0 bel lt0) trodAll_mk0), rfl, bel.frame _, fun h => by cases h⟩
theorem over : Rows.fnSplitRow.holds Tryd.pinned (OpenSpec.ofChange Rows.fnSplitSpec) :=
  OpenClaim.holds_of_wide 7 Tryd.f7 rfl rfl rfl rfl rfl rfl rfl ⟨rfl, rfl, rfl, rfl, rfl⟩ rfl rfl rfl rfl rfl (by kernel_rfl) Tryd.func7 (by kernel_rfl)
    (of_decide_eq_true (by kernel_rfl)) (by unfold Func.isWrapper; first | (rw [if_pos (by decide +kernel)]; kernel_rfl) | (rw [if_neg (by decide +kernel)]; exact ⟨rfl, rfl⟩))
    (fun os started H enc _ => lifted os started H enc)
theorem proved : Rows.FnSplitSaid := over
#print axioms proved
end Go.Proofs.YtkapkfobbeehkaaDoor.fnSplit
namespace Go.Proofs.YtkapkfobbeehkaaDoor
/-- The row, under a short name, for the claim. -/
theorem fnSplit_holds : Rows.FnSplitSaid := fnSplit.proved
end Go.Proofs.YtkapkfobbeehkaaDoor
end
