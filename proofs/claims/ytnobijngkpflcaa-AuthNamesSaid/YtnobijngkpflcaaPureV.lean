/-
  Plain functions on plain values: what the program's functions compute.
-/
import Derived.Test.YtnobijngkpflcaaEngG
namespace Go.Eng

def emp : ByteArray := ⟨#[]⟩

/-! ### counts -/
theorem cnts_take (xs : List V) (k : Nat) (h : k < xs.length) : V.cnts (xs.take (k + 1)) = V.cnts (xs.take k) + xs[k].cnt := by
  induction xs generalizing k with
  | nil => simp at h
  | cons x xs ih =>
    cases k with
    | zero => simp [V.cnts]
    | succ k => simp only [List.take_succ_cons, V.cnts]; rw [ih k (by simpa using h)]; simp; omega
theorem cnts_le (xs : List V) (k : Nat) : V.cnts (xs.take k) ≤ V.cnts xs := by
  induction xs generalizing k with
  | nil => simp [V.cnts]
  | cons x xs ih => cases k with
    | zero => simp [V.cnts]
    | succ k => simp only [List.take_succ_cons, V.cnts]; have := ih k; omega
theorem len_cnts (xs : List V) : xs.length ≤ V.cnts xs := by
  induction xs with
  | nil => simp
  | cons x xs ih => cases x; simp only [List.length_cons, V.cnts, V.cnt]; omega
theorem cnt_eq (x : V) : x.cnt = V.cnts x.xs + 1 := by cases x; rfl
theorem cnt_elem {xs : List V} {k : Nat} (h : k < xs.length) : xs[k].cnt ≤ V.cnts xs := by
  have h1 := cnts_take xs k h; have h2 := cnts_le xs (k + 1); omega

/-! ### weights -/
def wtN : List ByteArray → Nat
  | [] => 0
  | s :: ns => s.size + 1 + wtN ns
mutual
def V.wt : V → Nat
  | .mk _ _ t ns xs => 1 + t.size + wtN ns + V.wts xs
def V.wts : List V → Nat
  | [] => 0
  | x :: xs => V.wt x + V.wts xs
end
theorem wt_eq (x : V) : x.wt = 1 + x.t.size + wtN x.ns + V.wts x.xs := by cases x; rfl
theorem wts_mem {xs : List V} {k : Nat} (h : k < xs.length) : xs[k].wt ≤ V.wts xs := by
  induction xs generalizing k with
  | nil => simp at h
  | cons x xs ih => cases k with
    | zero => simp [V.wts]
    | succ k => simp only [List.getElem_cons_succ, V.wts]; have := ih (k := k) (by simpa using h); omega
theorem wt_pos (x : V) : 1 ≤ x.wt := by rw [wt_eq]; omega
theorem wts_len (xs : List V) : xs.length ≤ V.wts xs := by
  induction xs with
  | nil => simp
  | cons x xs ih => simp only [List.length_cons, V.wts]; have := wt_pos x; omega
theorem wtN_len (ns : List ByteArray) : ns.length ≤ wtN ns := by
  induction ns with
  | nil => simp
  | cons s ns ih => simp only [List.length_cons, wtN]; omega
theorem wtN_mem {ns : List ByteArray} {k : Nat} (h : k < ns.length) : ns[k].size < wtN ns := by
  induction ns generalizing k with
  | nil => simp at h
  | cons x xs ih => cases k with
    | zero => simp [wtN]; omega
    | succ k => simp only [List.getElem_cons_succ, wtN]; have := ih (k := k) (by simpa using h); omega
mutual
theorem cnt_wt : ∀ x : V, x.cnt ≤ x.wt
  | .mk _ _ t ns xs => by simp only [V.cnt, V.wt]; have := cnts_wts xs; omega
theorem cnts_wts : ∀ xs : List V, V.cnts xs ≤ V.wts xs
  | [] => by simp [V.cnts]
  | x :: xs => by simp only [V.cnts, V.wts]; have := cnt_wt x; have := cnts_wts xs; omega
end

/-! ### depth -/
mutual
def V.dep : V → Nat
  | .mk k _ _ _ xs => if k = 4 ∨ k = 5 then V.deps xs + 1 else 0
def V.deps : List V → Nat
  | [] => 0
  | x :: xs => max (V.dep x) (V.deps xs)
end
theorem dep_eq (x : V) : x.dep = if x.k = 4 ∨ x.k = 5 then V.deps x.xs + 1 else 0 := by cases x; rfl
theorem deps_take (xs : List V) (k : Nat) (h : k < xs.length) : V.deps (xs.take (k + 1)) = max (V.deps (xs.take k)) xs[k].dep := by
  induction xs generalizing k with
  | nil => simp at h
  | cons x xs ih =>
    cases k with
    | zero => simp [V.deps]
    | succ k => simp only [List.take_succ_cons, V.deps]; rw [ih k (by simpa using h)]; simp
mutual
theorem dep_cnt : ∀ x : V, x.dep ≤ x.cnt
  | .mk _ _ t ns xs => by simp only [V.cnt, V.dep]; have := deps_cnts xs; split <;> omega
theorem deps_cnts : ∀ xs : List V, V.deps xs ≤ V.cnts xs
  | [] => by simp [V.deps]
  | x :: xs => by simp only [V.cnts, V.deps]; have := dep_cnt x; have := deps_cnts xs; omega
end

/-! ### names -/
def asc : List ByteArray → Bool
  | a :: b :: r => sLt a b && asc (b :: r)
  | _ => true
theorem asc_iff : ∀ ns : List ByteArray, asc ns = true ↔ ∀ i (h : i + 1 < ns.length), sLt ns[i] ns[i + 1] = true
  | [] => by simp [asc]
  | [a] => by simp [asc]
  | a :: b :: r => by
    rw [asc, Bool.and_eq_true, asc_iff (b :: r)]
    constructor
    · rintro ⟨h1, h2⟩ i hi
      cases i with
      | zero => exact h1
      | succ i => exact h2 i (by simpa using hi)
    · intro h
      exact ⟨h 0 (by simp), fun i hi => h (i + 1) (by simpa using hi)⟩
theorem asc_false {ns : List ByteArray} {i : Nat} (h : i + 1 < ns.length) (hf : sLt ns[i] ns[i + 1] = false) : asc ns = false := by
  cases ha : asc ns with
  | false => rfl
  | true => have := (asc_iff ns).1 ha i h; rw [hf] at this; cases this

/-! ### the same -/
mutual
def V.beq : V → V → Bool
  | .mk k n t ns xs, .mk k' n' t' ns' xs' => decide (k = k') && decide (n = n') && decide (t = t') && decide (ns = ns') && V.beqs xs xs'
def V.beqs : List V → List V → Bool
  | [], [] => true
  | x :: xs, y :: ys => V.beq x y && V.beqs xs ys
  | _, _ => false
end
mutual
theorem beq_iff : ∀ x y : V, V.beq x y = true ↔ x = y
  | .mk k n t ns xs, .mk k' n' t' ns' xs' => by
    simp only [V.beq, Bool.and_eq_true, decide_eq_true_eq, beqs_iff xs xs', V.mk.injEq]
    constructor
    · rintro ⟨⟨⟨⟨h1, h2⟩, h3⟩, h4⟩, h5⟩; exact ⟨h1, h2, h3, h4, h5⟩
    · rintro ⟨h1, h2, h3, h4, h5⟩; exact ⟨⟨⟨⟨h1, h2⟩, h3⟩, h4⟩, h5⟩
theorem beqs_iff : ∀ xs ys : List V, V.beqs xs ys = true ↔ xs = ys
  | [], [] => by simp [V.beqs]
  | [], _ :: _ => by simp [V.beqs]
  | _ :: _, [] => by simp [V.beqs]
  | x :: xs, y :: ys => by simp only [V.beqs, Bool.and_eq_true, beq_iff x y, beqs_iff xs ys, List.cons.injEq]
end
theorem beq_refl (x : V) : V.beq x x = true := (beq_iff x x).2 rfl
theorem beq_false {x y : V} (h : x ≠ y) : V.beq x y = false := by
  cases hb : V.beq x y with
  | false => rfl
  | true => exact absurd ((beq_iff x y).1 hb) h
theorem V.ext {x y : V} (h1 : x.k = y.k) (h2 : x.n = y.n) (h3 : x.t = y.t) (h4 : x.ns = y.ns) (h5 : x.xs = y.xs) : x = y := by
  cases x; cases y; simp_all [V.k, V.n, V.t, V.ns, V.xs]

/-! ### reading is one-valued -/
mutual
theorem rdV_det {W : World} {X Y : BSet} : ∀ (x y : V) (cs : List Value), RdC W X x.d cs → RdC W Y y.d cs → x = y
  | .mk k n t ns xs, .mk k' n' t' ns' xs', cs, h1, h2 => by
    have q1 : Rd W X (V.mk k n t ns xs).d (.agg cs.toArray) := ⟨cs, h1, by rw [V.d_eq]; rfl⟩
    have q2 : Rd W Y (V.mk k' n' t' ns' xs').d (.agg cs.toArray) := ⟨cs, h2, by rw [V.d_eq]; rfl⟩
    obtain ⟨cn, ci, e, _, a4, a5⟩ := rd_V.1 q1
    obtain ⟨cn', ci', e', _, b4, b5⟩ := rd_V.1 q2
    rw [e] at e'
    simp only [V.k, V.n, V.t, V.ns, V.xs] at e' a4 a5 b4 b5
    simp at e'
    obtain ⟨hk, hn, ht, rfl, rfl⟩ := e'
    have hk' : k = k' := by omega
    subst hk'; subst hn; subst ht
    have hns : ns = ns' := by
      simp only [strsD, RdC] at a4 b4
      obtain ⟨p4, cap4, e4, _, _, h4⟩ := a4
      obtain ⟨u4, v4, f4, _, _, g4⟩ := b4
      rw [e4] at f4
      simp at f4
      obtain ⟨rfl, hl4, rfl⟩ := f4
      rcases h4 with h4 | ⟨b, o, rfl, _, _, h4⟩
      · simp at h4; subst h4; exact (List.length_eq_zero_iff.1 (by simpa using hl4.symm)).symm
      · rcases g4 with g4 | ⟨b', o', he, _, _, g4⟩
        · simp at g4; subst g4; exact List.length_eq_zero_iff.1 (by simpa using hl4)
        · simp at he; obtain ⟨rfl, rfl⟩ := he
          exact strs_det ns ns' o hl4 h4 g4
    have hxs : xs = xs' := by
      simp only [valsD, RdC] at a5 b5
      obtain ⟨p5, cap5, e5, _, _, h5⟩ := a5
      obtain ⟨u5, v5, f5, _, _, g5⟩ := b5
      rw [e5] at f5
      simp at f5
      obtain ⟨rfl, hl5, rfl⟩ := f5
      rcases h5 with h5 | ⟨b, o, rfl, _, _, h5⟩
      · simp at h5; subst h5; exact (List.length_eq_zero_iff.1 (by simpa using hl5.symm)).symm
      · rcases g5 with g5 | ⟨b', o', he, _, _, g5⟩
        · simp at g5; subst g5; exact List.length_eq_zero_iff.1 (by simpa using hl5)
        · simp at he; obtain ⟨rfl, rfl⟩ := he
          exact vals_det xs xs' o hl5 h5 g5
    rw [hns, hxs]
theorem vals_det {W : World} {X Y : BSet} {b : Nat} : ∀ (xs ys : List V) (o : Nat), xs.length = ys.length → RdL W X b 5 (xs.map V.d) o → RdL W Y b 5 (ys.map V.d) o → xs = ys
  | [], [], _, _, _, _ => rfl
  | [], _ :: _, _, h, _, _ => by simp at h
  | _ :: _, [], _, h, _, _ => by simp at h
  | x :: xs, y :: ys, o, h, h1, h2 => by
    simp only [List.map_cons, RdL] at h1 h2
    obtain ⟨⟨c, l1, a1, r1⟩, s1⟩ := h1
    obtain ⟨⟨c', l2, a2, r2⟩, s2⟩ := h2
    have hc : c = c' := List.ext_getElem (l1.trans l2.symm) fun i hi hi' => by
      have q1 := a1 i hi
      have q2 := a2 i hi'
      rw [q1] at q2; exact Option.some.inj q2
    subst hc
    rw [rdV_det x y c r1 r2, vals_det xs ys (o + 5) (by simpa using h) s1 s2]
theorem strs_det {W : World} {X Y : BSet} {b : Nat} : ∀ (xs ys : List ByteArray) (o : Nat), xs.length = ys.length → RdL W X b 1 (xs.map D.str) o → RdL W Y b 1 (ys.map D.str) o → xs = ys
  | [], [], _, _, _, _ => rfl
  | [], _ :: _, _, h, _, _ => by simp at h
  | _ :: _, [], _, h, _, _ => by simp at h
  | x :: xs, y :: ys, o, h, h1, h2 => by
    simp only [List.map_cons, RdL, RdC] at h1 h2
    obtain ⟨⟨c, l1, a1, ⟨r1, _⟩⟩, s1⟩ := h1
    obtain ⟨⟨c', l2, a2, ⟨r2, _⟩⟩, s2⟩ := h2
    subst r1; subst r2
    have q1 := a1 0 (by simp)
    have q2 := a2 0 (by simp)
    rw [q1] at q2
    have : x = y := by simpa using q2
    rw [this, strs_det xs ys (o + 1) (by simpa using h) s1 s2]
end

/-! ### the statements' own measure -/
def szN : List ByteArray → Nat → Nat
  | [], n => n
  | s :: ns, n => if n < 20000 then szN ns (n + 2 + min 20000 s.size) else n
mutual
def szV : V → Nat → Nat → Nat
  | .mk _ _ t ns xs, deep, n => szN ns (n + 4 + min 20000 t.size) + szL xs (deep + 1) 0
def szL : List V → Nat → Nat → Nat
  | [], _, n => n
  | x :: xs, deep, n => if n < 20000 then (if 200 < deep then 20000 else szL xs deep (szV x deep n)) else n
end
theorem szV_eq (x : V) (deep n : Nat) : szV x deep n = szN x.ns (n + 4 + min 20000 x.t.size) + szL x.xs (deep + 1) 0 := by cases x; rfl
theorem szN_big (ns : List ByteArray) {n : Nat} (h : 20000 ≤ n) : szN ns n = n := by cases ns <;> simp [szN]; omega
theorem szL_big (xs : List V) (deep : Nat) {n : Nat} (h : 20000 ≤ n) : szL xs deep n = n := by cases xs <;> simp [szL]; omega
theorem szN_le : ∀ (ns : List ByteArray) (n : Nat), n ≤ szN ns n ∧ szN ns n ≤ max n 40001
  | [], n => by simp [szN]; omega
  | s :: ns, n => by
    simp only [szN]
    split
    · have := szN_le ns (n + 2 + min 20000 s.size); omega
    · omega
theorem szN_wt : ∀ (ns : List ByteArray) (n : Nat), szN ns n < 20000 → n + wtN ns ≤ szN ns n
  | [], n, _ => by simp [szN, wtN]
  | s :: ns, n, h => by
    simp only [szN] at h ⊢
    split at h
    · rename_i hn
      rw [if_pos hn]
      have h1 := szN_wt ns _ h
      have h2 := (szN_le ns (n + 2 + min 20000 s.size)).1
      simp only [wtN]; omega
    · omega
mutual
theorem szV_le : ∀ (x : V) (deep n : Nat), n ≤ szV x deep n
  | .mk _ _ t ns xs, deep, n => by simp only [szV]; have := (szN_le ns (n + 4 + min 20000 t.size)).1; omega
theorem szL_le : ∀ (xs : List V) (deep n : Nat), n ≤ szL xs deep n
  | [], _, n => by simp [szL]
  | x :: xs, deep, n => by
    simp only [szL]
    split
    · split
      · omega
      · have h1 := szV_le x deep n; have h2 := szL_le xs deep (szV x deep n); omega
    · omega
end
mutual
theorem szV_top : ∀ (x : V) (deep n : Nat), n < 20000 → deep ≤ 200 → szV x deep n ≤ 40003 + 40003 * (201 - deep)
  | .mk _ _ t ns xs, deep, n, hn, hd => by
    simp only [szV]
    have h1 := (szN_le ns (n + 4 + min 20000 t.size)).2
    have h2 := szL_top xs (deep + 1) 0 (by omega)
    have : 202 - (deep + 1) = 201 - deep := by omega
    rw [this] at h2
    omega
theorem szL_top : ∀ (xs : List V) (deep n : Nat), deep ≤ 201 → szL xs deep n ≤ max n (40003 * (202 - deep))
  | [], _, n, _ => by simp [szL]; omega
  | x :: xs, deep, n, hd => by
    simp only [szL]
    split
    · split
      · omega
      · rename_i hn hdd
        have h1 := szV_top x deep n hn (by omega)
        have h2 := szL_top xs deep (szV x deep n) hd
        have : 202 - deep = 201 - deep + 1 := by omega
        rw [this, Nat.mul_add] at h2 ⊢
        omega
    · omega
end
mutual
theorem szV_wt : ∀ (x : V) (deep n : Nat), szV x deep n < 20000 → n + x.wt ≤ szV x deep n
  | .mk k n' t ns xs, deep, n, h => by
    simp only [szV, V.wt] at h ⊢
    have h0 := (szN_le ns (n + 4 + min 20000 t.size)).1
    have h1 := szN_wt ns (n + 4 + min 20000 t.size) (by omega)
    have h2 := szL_wt xs (deep + 1) 0 (by omega)
    omega
theorem szL_wt : ∀ (xs : List V) (deep n : Nat), szL xs deep n < 20000 → n + V.wts xs ≤ szL xs deep n
  | [], _, n, _ => by simp [szL, V.wts]
  | x :: xs, deep, n, h => by
    simp only [szL, V.wts] at h ⊢
    split at h
    · rename_i hn
      rw [if_pos hn]
      split at h
      · omega
      · rename_i hd
        rw [if_neg hd]
        have h0 := szL_le xs deep (szV x deep n)
        have h1 := szV_wt x deep n (by omega)
        have h2 := szL_wt xs deep _ h
        omega
    · omega
end
theorem sa_cln {w : World} {S : BSet} {M : List Nat} (hS : ∀ b o, S b o → Cln o) : ∀ b o, SA w S M b o → Cln o := fun b o h => by
  by_cases hlt : b < w.heap.size
  · exact hS b o (h.1 hlt)
  · exact h.2.1 (by omega)
/-- a pointer that no element of xs can be at -/
def Above (w : World) (S : BSet) (xs : List V) (p : Value) : Prop := p = .pointer none ∨ ∃ y : V, Ref w S y.d p ∧ V.cnts xs < y.cnt

theorem rd_len {W : World} {S : BSet} {xs : List V} {v : Value} (h : Rd W S (valsD xs) v) : xs.length ≤ maxLen := by
  obtain ⟨cs, h1, _⟩ := h
  simp only [valsD, RdC] at h1
  obtain ⟨a, cap, _, h2, h3, _⟩ := h1
  simp at h2; omega
theorem rd_lenS {W : World} {S : BSet} {xs : List ByteArray} {v : Value} (h : Rd W S (strsD xs) v) : xs.length ≤ maxLen := by
  obtain ⟨cs, h1, _⟩ := h
  simp only [strsD, RdC] at h1
  obtain ⟨a, cap, _, h2, h3, _⟩ := h1
  simp at h2; omega
theorem rd_elem {W : World} {S : BSet} {xs : List V} {v : Value} (h : Rd W S (valsD xs) v) {k : Nat} (hk : k < xs.length) : ∃ u, Rd W S xs[k].d u := by
  obtain ⟨cs, h1, _⟩ := h
  simp only [valsD, RdC] at h1
  obtain ⟨a, cap, _, h2, h3, h4⟩ := h1
  rcases h4 with h4 | ⟨b, o, _, _, _, h4⟩
  · have : xs = [] := by simpa using h4
    subst this; simp at hk
  · obtain ⟨c, _, _, hc⟩ := h4.get k (by simpa using hk)
    exact ⟨asm _ c, c, by simpa using hc, rfl⟩
theorem rd_ns {W : World} {S : BSet} {xs : List V} {v : Value} (h : Rd W S (valsD xs) v) {k : Nat} (hk : k < xs.length) : (xs[k]).ns.length ≤ maxLen := by
  obtain ⟨u, hu⟩ := rd_elem h hk
  obtain ⟨_, _, _, _, _, _, h3, _⟩ := rdV_out hu
  exact rd_lenS h3

/-! ### text -/
def hasPre (s p : ByteArray) : Bool := decide (p.size ≤ s.size) && decide (s.extract 0 p.size = p)
def badRune : ByteArray := ⟨#[239, 191, 189]⟩
def utfFrom (s : ByteArray) : Nat → Nat → Bool
  | 0, _ => true
  | f + 1, p => if p < s.size then (if (Utf8.decode s p).1 = 65533 ∧ hasPre (s.extract p s.size) badRune = false then false else utfFrom s f (p + (Utf8.decode s p).2)) else true
def utfOk (s : ByteArray) : Bool := utfFrom s s.size 0
def wr (s : ByteArray) : Bool := decide (s.size ≤ 4096) && utfOk s
theorem width_pos (s : ByteArray) (p : Nat) (h : p < s.size) : 1 ≤ (Utf8.decode s p).2 := by
  by_cases ha : (s[p]'h).toNat < 128
  · rw [decode_ascii s p h ha]; exact Nat.le_refl _
  · exact (decode_high s p h (by omega)).2
theorem utfFrom_end {s : ByteArray} {f p : Nat} (h : ¬ p < s.size) : utfFrom s f p = true := by
  cases f with
  | zero => rfl
  | succ f => simp [utfFrom, h]

/-! ### what may be -/
def properB (x : V) : Bool :=
  if (x.k ≠ 1 ∧ x.k ≠ 2 ∧ x.n ≠ 0) ∨ (x.k ≠ 3 ∧ x.t ≠ ⟨#[]⟩) then false
  else if (x.k ≠ 5 ∧ 0 < x.ns.length) ∨ (x.k ≠ 5 ∧ x.k ≠ 4 ∧ 0 < x.xs.length) then false
  else if x.k = 1 then decide (x.n = 0 ∨ x.n = 1)
  else if x.k = 2 ∨ x.k = 4 then true
  else if x.k = 3 then wr x.t
  else if x.k = 5 then decide (x.ns.length = x.xs.length) && asc x.ns && x.ns.all wr
  else false
theorem properG_eq (x : V) : properB x =
    bif ((((x.k : Int) != (1 : Int)) && ((x.k : Int) != (2 : Int))) && ((x.n : Int) != (0 : Int))) || (((x.k : Int) != (3 : Int)) && (!decide (x.t = (⟨#[]⟩ : ByteArray)))) then false
    else bif (((x.k : Int) != (5 : Int)) && (decide ((0 : Int) < (x.ns.length : Int)))) || ((((x.k : Int) != (5 : Int)) && ((x.k : Int) != (4 : Int))) && (decide ((0 : Int) < (x.xs.length : Int)))) then false
    else bif (x.k : Int) == (1 : Int) then (((x.n : Int) == (0 : Int)) || ((x.n : Int) == (1 : Int)))
    else bif (x.k : Int) == (2 : Int) then true
    else bif (x.k : Int) == (4 : Int) then true
    else bif (x.k : Int) == (3 : Int) then wr x.t
    else bif (x.k : Int) == (5 : Int) then (bif ((x.ns.length : Int) != (x.xs.length : Int)) || (!(asc x.ns)) then false else x.ns.all wr)
    else false := by
  have e1 : ((x.k : Int) == (1 : Int)) = decide (x.k = 1) := by rw [Bool.eq_iff_iff]; simp; omega
  have e2 : ((x.k : Int) == (2 : Int)) = decide (x.k = 2) := by rw [Bool.eq_iff_iff]; simp; omega
  have e3 : ((x.k : Int) == (3 : Int)) = decide (x.k = 3) := by rw [Bool.eq_iff_iff]; simp; omega
  have e4 : ((x.k : Int) == (4 : Int)) = decide (x.k = 4) := by rw [Bool.eq_iff_iff]; simp; omega
  have e5 : ((x.k : Int) == (5 : Int)) = decide (x.k = 5) := by rw [Bool.eq_iff_iff]; simp; omega
  have l1 : decide ((0 : Int) < (x.ns.length : Int)) = decide (0 < x.ns.length) := decide_eq_decide.2 (by omega)
  have l2 : decide ((0 : Int) < (x.xs.length : Int)) = decide (0 < x.xs.length) := decide_eq_decide.2 (by omega)
  have l3 : ((x.ns.length : Int) != (x.xs.length : Int)) = !decide (x.ns.length = x.xs.length) := by rw [Bool.eq_iff_iff]; simp; omega
  rw [l1, l2, l3]
  simp only [bne, e1, e2, e3, e4, e5, Bool.cond_eq_ite, properB]
  by_cases h1 : x.k = 1
  · simp [h1]; rfl
  by_cases h2 : x.k = 2
  · simp [h2]
  by_cases h3 : x.k = 3
  · simp [h3]
  by_cases h4 : x.k = 4
  · simp [h4]
  by_cases h5 : x.k = 5
  · simp [h5]
  simp [h1, h2, h3, h4, h5]
mutual
def mayV : V → Nat → Int → Bool × Int
  | .mk k n t ns xs, nested, left => if left - 1 < 0 ∨ properB (.mk k n t ns xs) = false then (false, left - 1) else if k ≠ 4 ∧ k ≠ 5 then (true, left - 1) else if nested = 0 then (false, left - 1) else mayL xs (nested - 1) (left - 1)
def mayL : List V → Nat → Int → Bool × Int
  | [], _, left => (true, left)
  | x :: xs, nested, left => if (mayV x nested left).1 = false then (false, (mayV x nested left).2) else mayL xs nested (mayV x nested left).2
end
theorem mayV_eq (x : V) (nested : Nat) (left : Int) : mayV x nested left = if left - 1 < 0 ∨ properB x = false then (false, left - 1) else if x.k ≠ 4 ∧ x.k ≠ 5 then (true, left - 1) else if nested = 0 then (false, left - 1) else mayL x.xs (nested - 1) (left - 1) := by cases x; rfl
mutual
theorem mayV_le : ∀ (x : V) (nested : Nat) (left : Int), 0 ≤ left → (mayV x nested left).2 < left ∧ -1 ≤ (mayV x nested left).2 ∧ ((mayV x nested left).1 = true → 0 ≤ (mayV x nested left).2)
  | .mk k n t ns xs, nested, left, h => by
    rw [mayV]
    by_cases h1 : left - 1 < 0 ∨ properB (.mk k n t ns xs) = false
    · rw [if_pos h1]; simp; omega
    rw [if_neg h1]
    by_cases h2 : k ≠ 4 ∧ k ≠ 5
    · rw [if_pos h2]; simp; omega
    rw [if_neg h2]
    by_cases h3 : nested = 0
    · rw [if_pos h3]; simp; omega
    rw [if_neg h3]
    have := mayL_le xs (nested - 1) (left - 1) (by omega)
    exact ⟨by omega, this.2⟩
theorem mayL_le : ∀ (xs : List V) (nested : Nat) (left : Int), 0 ≤ left → (mayL xs nested left).2 ≤ left ∧ -1 ≤ (mayL xs nested left).2 ∧ ((mayL xs nested left).1 = true → 0 ≤ (mayL xs nested left).2)
  | [], _, left, h => by simp [mayL]; omega
  | x :: xs, nested, left, h => by
    have h1 := mayV_le x nested left h
    rw [mayL]
    by_cases h2 : (mayV x nested left).1 = false
    · rw [if_pos h2]; simp; omega
    rw [if_neg h2]
    have h3 := mayL_le xs nested (mayV x nested left).2 (h1.2.2 (by simpa using h2))
    exact ⟨by omega, h3.2⟩
end
/-- May -/
def mayB (x : V) : Bool := (mayV x 12 8192).1
end Go.Eng
