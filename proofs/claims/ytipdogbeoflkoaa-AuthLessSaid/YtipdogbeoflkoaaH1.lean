import Derived.Test.YtipdogbeoflkoaaG1
import Derived.Test.YtipdogbeoflkoaaPureH
namespace Go.Proofs.Ytipdogbeoflkoaa
open Go.Eng
set_option maxRecDepth 100000 in
theorem digit_ok (s : ByteArray) (i : Nat) (hi : i < s.size) (hm : s.size ≤ maxLen) (w : World) : Calls Try.prog 66 #[.string s, .int .i64 i] w (Ret w fun u _ => u = .tuple #[.int .i64 (hexV (s[i]'hi).toNat), .bool (hexB (s[i]'hi).toNat)]) := by
  simp only [maxLen] at hm
  have hc8 : (s[i]'hi).toNat < 256 := UInt8.toNat_lt _
  refine enter Try.func66 rfl Try.ntmps66 (Nat.le_of_ble_eq_true rfl) fun a0 hsz0 hdf0 harg => ?_
  have e0 : sl a0 0 = (.string (s)) := harg 0 (Nat.le_of_ble_eq_true rfl)
  have e1 : sl a0 1 = (.int .i64 ((i : Nat))) := harg 1 (Nat.le_of_ble_eq_true rfl)
  have kw := Keeps.refl All w
  clear harg
  refine wp_seq_k fun K1 hK1 => ?_
  refine wp_reg All mixed hsz0 hdf0 st_tr trivial ?_
  refine Chain.op (φ := Is (.int .i64 (0))) (st_is _) (sp_assign Has.cst) ?_
  refine Chain.op (φ := Is (.bool (false))) (st_is _) (sp_assign Has.cst) ?_
  refine Chain.done ⟨by kernel_rfl, fun a2 g W2 hsz2 hdf2 hk hg henv hrest hpsi => ?_⟩
  obtain ⟨-, -, -⟩ := henv
  replace e0 := (hrest 0 rfl).trans e0
  replace e1 := (hrest 1 rfl).trans e1
  replace kw := kw.trans (.of_ext hk)
  clear hrest hk hg hpsi
  refine tail_nil (hK1 _ _ ?_)
  refine wp_seq_k fun K3 hK3 => ?_
  refine wp_seq_k fun K4 hK4 => ?_
  refine wp_reg All mixed hsz2 hdf2 st_tr trivial ?_
  refine Chain.op (φ := Is (.int .i64 ((i : Nat)))) (st_is _) (sp_move (Has.base rfl e1)) ?_
  refine Chain.op (φ := Is (.bool (decide (((i : Nat) : Int) < (0 : Int))))) (st_is _) (sp_lss (Has.loc rfl) Has.cst) ?_
  refine Chain.op (φ := Is (.bool (decide (((i : Nat) : Int) < (0 : Int))))) (st_is _) (sp_move (Has.loc rfl)) ?_
  refine Chain.opE (t := 9) (x := decide (((i : Nat) : Int) < (0 : Int))) (φ := Is (.int .i64 ((i : Nat)))) rfl (Has.loc rfl) (st_is _) (fun hg => sp_move (Has.base rfl e1)) ?_
  refine Chain.opE (t := 9) (x := decide (((i : Nat) : Int) < (0 : Int))) (φ := Is (.string (s))) rfl (Has.loc rfl) (st_is _) (fun hg => sp_move (Has.base rfl e0)) ?_
  refine Chain.opE (t := 9) (x := decide (((i : Nat) : Int) < (0 : Int))) (φ := Is (.int .i64 (s.size))) rfl (Has.loc rfl) (st_is _) (fun hg => sp_lenS Try.underlying9 ((Has.loc rfl).undE hg)) ?_
  refine Chain.opE (t := 9) (x := decide (((i : Nat) : Int) < (0 : Int))) (φ := Is (.bool (decide ((s.size : Int) ≤ ((i : Nat) : Int))))) rfl (Has.loc rfl) (st_is _) (fun hg => sp_geq ((Has.loc rfl).undE hg) ((Has.loc rfl).undE hg)) ?_
  refine Chain.op (φ := Is (.bool ((decide (((i : Nat) : Int) < (0 : Int))) || (decide ((s.size : Int) ≤ ((i : Nat) : Int)))))) (st_is _) (sp_or (Has.loc rfl) ((Has.loc rfl).weak fun hq => hq)) ?_
  refine Chain.done ⟨by kernel_rfl, fun a5 g W5 hsz5 hdf5 hk hg henv hrest hpsi => ?_⟩
  obtain ⟨e14, -, -, -, -, -, -, -, -⟩ := henv
  replace e0 := (hrest 0 rfl).trans e0
  replace e1 := (hrest 1 rfl).trans e1
  have e14 : sl a5 14 = (.bool ((decide (((i : Nat) : Int) < (0 : Int))) || (decide ((s.size : Int) ≤ ((i : Nat) : Int))))) := e14
  replace kw := kw.trans (.of_ext hk)
  clear hrest hk hg hpsi
  refine tail_nil (hK4 _ _ ?_)
  refine wp_cond_split e14 (fun hc => ?_) (fun hc => ?_)
  · -- T: (decide (((i : Nat) : Int) < (0 : Int))) || (decide ((s.size : Int) ≤ ((i : Nat)
    exfalso
    simp at hc
    omega
  · -- E: (decide (((i : Nat) : Int) < (0 : Int))) || (decide ((s.size : Int) ≤ ((i : Nat)
    refine wp_skip (hK3 _ _ ?_)
    refine wp_seq_k fun K6 hK6 => ?_
    refine wp_seq_k fun K7 hK7 => ?_
    refine wp_reg All mixed hsz5 hdf5 st_tr trivial ?_
    refine Chain.op (φ := Is (.string (s))) (st_is _) (sp_move (Has.base rfl e0)) ?_
    refine Chain.op (φ := Is (.int .i64 ((i : Nat)))) (st_is _) (sp_move (Has.base rfl e1)) ?_
    refine Chain.op (φ := Is (.int .u8 (((s[i]'hi).toNat : Nat)))) (st_is _) (sp_indexStr (i := i) Try.underlying9 (Has.loc rfl) (Has.loc rfl) rfl hi) ?_
    refine Chain.op (φ := Is (.int .u8 (((s[i]'hi).toNat : Nat)))) (st_is _) (sp_assign (Has.loc rfl)) ?_
    refine Chain.done ⟨by kernel_rfl, fun a8 g W8 hsz8 hdf8 hk hg henv hrest hpsi => ?_⟩
    obtain ⟨e6, -, -, -, -⟩ := henv
    have e6 : sl a8 6 = (.int .u8 (((s[i]'hi).toNat : Nat))) := e6
    replace kw := kw.trans (.of_ext hk)
    clear hrest hk hg hpsi
    refine tail_nil (hK7 _ _ ?_)
    refine wp_block ?_
    refine wp_seq_k fun K9 hK9 => ?_
    refine wp_reg All mixed hsz8 hdf8 st_tr trivial ?_
    refine Chain.op (φ := Is (.int .u8 (((s[i]'hi).toNat : Nat)))) (st_is _) (sp_move (Has.base rfl e6)) ?_
    refine Chain.op (φ := Is (.bool (decide ((48 : Int) ≤ (((s[i]'hi).toNat : Nat) : Int))))) (st_is _) (sp_leq Has.cst (Has.loc rfl)) ?_
    refine Chain.op (φ := Is (.bool (decide ((48 : Int) ≤ (((s[i]'hi).toNat : Nat) : Int))))) (st_is _) (sp_move (Has.loc rfl)) ?_
    refine Chain.opE (t := 21) (x := decide ((48 : Int) ≤ (((s[i]'hi).toNat : Nat) : Int))) (φ := Is (.int .u8 (((s[i]'hi).toNat : Nat)))) rfl (Has.loc rfl) (st_is _) (fun hg => sp_move (Has.base rfl e6)) ?_
    refine Chain.opE (t := 21) (x := decide ((48 : Int) ≤ (((s[i]'hi).toNat : Nat) : Int))) (φ := Is (.bool (decide ((((s[i]'hi).toNat : Nat) : Int) ≤ (57 : Int))))) rfl (Has.loc rfl) (st_is _) (fun hg => sp_leq ((Has.loc rfl).undE hg) Has.cst) ?_
    refine Chain.op (φ := Is (.bool ((decide ((48 : Int) ≤ (((s[i]'hi).toNat : Nat) : Int))) && (decide ((((s[i]'hi).toNat : Nat) : Int) ≤ (57 : Int)))))) (st_is _) (sp_and (Has.loc rfl) ((Has.loc rfl).weak fun hq => hq)) ?_
    refine Chain.op (φ := Is (.bool ((decide ((48 : Int) ≤ (((s[i]'hi).toNat : Nat) : Int))) && (decide ((((s[i]'hi).toNat : Nat) : Int) ≤ (57 : Int)))))) (st_is _) (sp_assign (Has.loc rfl)) ?_
    refine Chain.done ⟨by kernel_rfl, fun a10 g W10 hsz10 hdf10 hk hg henv hrest hpsi => ?_⟩
    obtain ⟨e18, -, -, -, -, -, -, -⟩ := henv
    replace e6 := (hrest 6 rfl).trans e6
    have e18 : sl a10 18 = (.bool ((decide ((48 : Int) ≤ (((s[i]'hi).toNat : Nat) : Int))) && (decide ((((s[i]'hi).toNat : Nat) : Int) ≤ (57 : Int))))) := e18
    replace kw := kw.trans (.of_ext hk)
    clear hrest hk hg hpsi
    refine tail_nil (hK9 _ _ ?_)
    refine wp_cond_split e18 (fun hc => ?_) (fun hc => ?_)
    · -- T: (decide ((48 : Int) ≤ (((s[i]'hi).toNat : Nat) : Int))) && (decide ((((s[i]'hi).
      have h1 : 48 ≤ (s[i]'hi).toNat ∧ (s[i]'hi).toNat ≤ 57 := by simp at hc; omega
      have hfin : hexV (s[i]'hi).toNat = (s[i]'hi).toNat - 48 ∧ hexB (s[i]'hi).toNat = true := ⟨by rw [hexV, if_pos h1], by simp [hexB, h1]⟩
      refine wp_seq_k fun K11 hK11 => ?_
      refine wp_reg All mixed hsz10 hdf10 st_tr trivial ?_
      refine Chain.op (φ := Is (.int .u8 (((s[i]'hi).toNat : Nat)))) (st_is _) (sp_move (Has.base rfl e6)) ?_
      refine Chain.op (φ := Is (.int .u8 ((((s[i]'hi).toNat : Nat) : Int) - (48 : Int)))) (st_is _) (sp_sub (Has.loc rfl) Has.cst (u8_in (by omega))) ?_
      refine Chain.op (φ := Is (.int .i64 ((((s[i]'hi).toNat : Nat) : Int) - (48 : Int)))) (st_is _) (sp_conv Try.underlying5 Try.underlying3 (Has.loc rfl) (i64_in (by omega))) ?_
      refine Chain.op (φ := Is (.int .i64 ((((s[i]'hi).toNat : Nat) : Int) - (48 : Int)))) (st_is _) (sp_assign (Has.loc rfl)) ?_
      refine Chain.op (φ := Is (.bool (true))) (st_is _) (sp_assign Has.cst) ?_
      refine Chain.done ⟨by kernel_rfl, fun a12 g W12 hsz12 hdf12 hk hg henv hrest hpsi => ?_⟩
      obtain ⟨e5, e4, -, -, -, -⟩ := henv
      have e4 : sl a12 4 = (.int .i64 ((((s[i]'hi).toNat : Nat) : Int) - (48 : Int))) := e4
      have e5 : sl a12 5 = (.bool (true)) := e5
      replace kw := kw.trans (.of_ext hk)
      clear hrest hk hg hpsi
      refine tail_nil (hK11 _ _ ?_)
      refine wp_ret ?_
      refine (show bodyPost Try.prog Try.f66 _ .ret _ _ from ret2 rfl hdf12 e4 e5 ⟨_, rfl, kw, ?_⟩)
      rw [hfin.1, hfin.2]
    · -- E: (decide ((48 : Int) ≤ (((s[i]'hi).toNat : Nat) : Int))) && (decide ((((s[i]'hi).
      have h1 : ¬ (48 ≤ (s[i]'hi).toNat ∧ (s[i]'hi).toNat ≤ 57) := by simp at hc; omega
      refine wp_seq_k fun K13 hK13 => ?_
      refine wp_reg All mixed hsz10 hdf10 st_tr trivial ?_
      refine Chain.op (φ := Is (.int .u8 (((s[i]'hi).toNat : Nat)))) (st_is _) (sp_move (Has.base rfl e6)) ?_
      refine Chain.op (φ := Is (.bool (decide ((97 : Int) ≤ (((s[i]'hi).toNat : Nat) : Int))))) (st_is _) (sp_leq Has.cst (Has.loc rfl)) ?_
      refine Chain.op (φ := Is (.bool (decide ((97 : Int) ≤ (((s[i]'hi).toNat : Nat) : Int))))) (st_is _) (sp_move (Has.loc rfl)) ?_
      refine Chain.opE (t := 31) (x := decide ((97 : Int) ≤ (((s[i]'hi).toNat : Nat) : Int))) (φ := Is (.int .u8 (((s[i]'hi).toNat : Nat)))) rfl (Has.loc rfl) (st_is _) (fun hg => sp_move (Has.base rfl e6)) ?_
      refine Chain.opE (t := 31) (x := decide ((97 : Int) ≤ (((s[i]'hi).toNat : Nat) : Int))) (φ := Is (.bool (decide ((((s[i]'hi).toNat : Nat) : Int) ≤ (102 : Int))))) rfl (Has.loc rfl) (st_is _) (fun hg => sp_leq ((Has.loc rfl).undE hg) Has.cst) ?_
      refine Chain.op (φ := Is (.bool ((decide ((97 : Int) ≤ (((s[i]'hi).toNat : Nat) : Int))) && (decide ((((s[i]'hi).toNat : Nat) : Int) ≤ (102 : Int)))))) (st_is _) (sp_and (Has.loc rfl) ((Has.loc rfl).weak fun hq => hq)) ?_
      refine Chain.op (φ := Is (.bool ((decide ((97 : Int) ≤ (((s[i]'hi).toNat : Nat) : Int))) && (decide ((((s[i]'hi).toNat : Nat) : Int) ≤ (102 : Int)))))) (st_is _) (sp_assign (Has.loc rfl)) ?_
      refine Chain.done ⟨by kernel_rfl, fun a14 g W14 hsz14 hdf14 hk hg henv hrest hpsi => ?_⟩
      obtain ⟨e28, -, -, -, -, -, -, -⟩ := henv
      replace e6 := (hrest 6 rfl).trans e6
      have e28 : sl a14 28 = (.bool ((decide ((97 : Int) ≤ (((s[i]'hi).toNat : Nat) : Int))) && (decide ((((s[i]'hi).toNat : Nat) : Int) ≤ (102 : Int))))) := e28
      replace kw := kw.trans (.of_ext hk)
      clear hrest hk hg hpsi
      refine tail_nil (hK13 _ _ ?_)
      refine wp_cond_split e28 (fun hc => ?_) (fun hc => ?_)
      · -- T: (decide ((97 : Int) ≤ (((s[i]'hi).toNat : Nat) : Int))) && (decide ((((s[i]'hi).
        have h2 : 97 ≤ (s[i]'hi).toNat ∧ (s[i]'hi).toNat ≤ 102 := by simp at hc; omega
        have hfin : hexV (s[i]'hi).toNat = (s[i]'hi).toNat - 97 + 10 ∧ hexB (s[i]'hi).toNat = true := ⟨by rw [hexV, if_neg h1, if_pos h2], by simp [hexB, h2]⟩
        refine wp_seq_k fun K15 hK15 => ?_
        refine wp_reg All mixed hsz14 hdf14 st_tr trivial ?_
        refine Chain.op (φ := Is (.int .u8 (((s[i]'hi).toNat : Nat)))) (st_is _) (sp_move (Has.base rfl e6)) ?_
        refine Chain.op (φ := Is (.int .u8 ((((s[i]'hi).toNat : Nat) : Int) - (97 : Int)))) (st_is _) (sp_sub (Has.loc rfl) Has.cst (u8_in (by omega))) ?_
        refine Chain.op (φ := Is (.int .i64 ((((s[i]'hi).toNat : Nat) : Int) - (97 : Int)))) (st_is _) (sp_conv Try.underlying5 Try.underlying3 (Has.loc rfl) (i64_in (by omega))) ?_
        refine Chain.op (φ := Is (.int .i64 (((((s[i]'hi).toNat : Nat) : Int) - (97 : Int) : Int) + (10 : Int)))) (st_is _) (sp_add (Has.loc rfl) Has.cst (i64_in (by omega))) ?_
        refine Chain.op (φ := Is (.int .i64 (((((s[i]'hi).toNat : Nat) : Int) - (97 : Int) : Int) + (10 : Int)))) (st_is _) (sp_assign (Has.loc rfl)) ?_
        refine Chain.op (φ := Is (.bool (true))) (st_is _) (sp_assign Has.cst) ?_
        refine Chain.done ⟨by kernel_rfl, fun a16 g W16 hsz16 hdf16 hk hg henv hrest hpsi => ?_⟩
        obtain ⟨e5, e4, -, -, -, -, -⟩ := henv
        have e4 : sl a16 4 = (.int .i64 (((((s[i]'hi).toNat : Nat) : Int) - (97 : Int) : Int) + (10 : Int))) := e4
        have e5 : sl a16 5 = (.bool (true)) := e5
        replace kw := kw.trans (.of_ext hk)
        clear hrest hk hg hpsi
        refine tail_nil (hK15 _ _ ?_)
        refine wp_ret ?_
        refine (show bodyPost Try.prog Try.f66 _ .ret _ _ from ret2 rfl hdf16 e4 e5 ⟨_, rfl, kw, ?_⟩)
        rw [hfin.1, hfin.2]
      · -- E: (decide ((97 : Int) ≤ (((s[i]'hi).toNat : Nat) : Int))) && (decide ((((s[i]'hi).
        have h2 : ¬ (97 ≤ (s[i]'hi).toNat ∧ (s[i]'hi).toNat ≤ 102) := by simp at hc; omega
        have hfin : hexV (s[i]'hi).toNat = 0 ∧ hexB (s[i]'hi).toNat = false := ⟨by rw [hexV, if_neg h1, if_neg h2], by simp [hexB]; omega⟩
        refine wp_skip (hK6 _ _ ?_)
        refine wp_seq_k fun K17 hK17 => ?_
        refine wp_reg All mixed hsz14 hdf14 st_tr trivial ?_
        refine Chain.op (φ := Is (.int .i64 (0))) (st_is _) (sp_assign Has.cst) ?_
        refine Chain.op (φ := Is (.bool (false))) (st_is _) (sp_assign Has.cst) ?_
        refine Chain.done ⟨by kernel_rfl, fun a18 g W18 hsz18 hdf18 hk hg henv hrest hpsi => ?_⟩
        obtain ⟨e5, e4, -⟩ := henv
        have e4 : sl a18 4 = (.int .i64 (0)) := e4
        have e5 : sl a18 5 = (.bool (false)) := e5
        replace kw := kw.trans (.of_ext hk)
        clear hrest hk hg hpsi
        refine tail_nil (hK17 _ _ ?_)
        refine wp_ret ?_
        refine (show bodyPost Try.prog Try.f66 _ .ret _ _ from ret2 rfl hdf18 e4 e5 ⟨_, rfl, kw, ?_⟩)
        rw [hfin.1, hfin.2]

set_option maxRecDepth 100000 in
theorem hexIs_ok (s : ByteArray) (hm : s.size ≤ maxLen) (w : World) : Calls Try.prog 49 #[.string s] w (Ret w fun u _ => u = .bool (hexIs s)) := by
  have hmx := hm
  simp only [maxLen] at hmx
  refine enter Try.func49 rfl Try.ntmps49 (Nat.le_of_ble_eq_true rfl) fun a0 hsz0 hdf0 harg => ?_
  have e0 : sl a0 0 = (.string (s)) := harg 0 (Nat.le_of_ble_eq_true rfl)
  have kw := Keeps.refl All w
  clear harg
  refine wp_seq_k fun K1 hK1 => ?_
  refine wp_reg All mixed hsz0 hdf0 st_tr trivial ?_
  refine Chain.op (φ := Is (.bool (false))) (st_is _) (sp_assign Has.cst) ?_
  refine Chain.done ⟨by kernel_rfl, fun a2 g W2 hsz2 hdf2 hk hg henv hrest hpsi => ?_⟩
  obtain ⟨-, -⟩ := henv
  replace e0 := (hrest 0 rfl).trans e0
  replace kw := kw.trans (.of_ext hk)
  clear hrest hk hg hpsi
  refine tail_nil (hK1 _ _ ?_)
  refine wp_seq_k fun K3 hK3 => ?_
  refine wp_seq_k fun K4 hK4 => ?_
  refine wp_reg All mixed hsz2 hdf2 st_tr trivial ?_
  refine Chain.op (φ := Is (.string (s))) (st_is _) (sp_move (Has.base rfl e0)) ?_
  refine Chain.op (φ := Is (.int .i64 (s.size))) (st_is _) (sp_lenS Try.underlying9 (Has.loc rfl)) ?_
  refine Chain.op (φ := Is (.int .i64 (0))) (st_is _) (sp_move Has.cst) ?_
  refine Chain.done ⟨by kernel_rfl, fun a5 g W5 hsz5 hdf5 hk hg henv hrest hpsi => ?_⟩
  obtain ⟨e8, e7, -, -⟩ := henv
  replace e0 := (hrest 0 rfl).trans e0
  have e7 : sl a5 7 = (.int .i64 (s.size)) := e7
  have e8 : sl a5 8 = (.int .i64 (0)) := e8
  replace kw := kw.trans (.of_ext hk)
  clear hrest hk hg hpsi
  refine tail_nil (hK4 _ _ ?_)
  refine wp_block ?_
  refine wp_for (s.size) (fun k a W => a.tmps.size = 20 ∧ a.defers = [] ∧ Keeps All w W ∧ sl a 0 = (.string (s)) ∧ sl a 7 = (.int .i64 (s.size)) ∧ sl a 8 = (.int .i64 ((k : Nat))) ∧ (∀ i (h : i < s.size), i < k → hexB (s[i]'h).toNat = true)) ⟨hsz5, hdf5, kw, e0, e7, (e8.trans (congrArg (Value.int .i64) (rfl))), fun i h hi => absurd hi (by omega)⟩ ?_
  clear kw e0 e7 e8
  rintro k a6 W6 hkk ⟨hsz6, hdf6, kw, e0, e7, e8, hinv⟩
  refine wp_seq_k fun K7 hK7 => ?_
  refine wp_reg All mixed hsz6 hdf6 st_tr trivial ?_
  refine Chain.op (φ := Is (.bool (decide (((k : Nat) : Int) < (s.size : Int))))) (st_is _) (sp_lss (Has.base rfl e8) (Has.base rfl e7)) ?_
  refine Chain.done ⟨by kernel_rfl, fun a8 g W8 hsz8 hdf8 hk hg henv hrest hpsi => ?_⟩
  obtain ⟨e9, -⟩ := henv
  replace e0 := (hrest 0 rfl).trans e0
  replace e7 := (hrest 7 rfl).trans e7
  replace e8 := (hrest 8 rfl).trans e8
  have e9 : sl a8 9 = (.bool (decide (((k : Nat) : Int) < (s.size : Int)))) := e9
  replace kw := kw.trans (.of_ext hk)
  clear hrest hk hg hpsi
  refine tail_nil (hK7 _ _ ?_)
  refine wp_seq_k fun K9 hK9 => ?_
  refine wp_cond_split e9 (fun hc => ?_) (fun hc => ?_)
  · -- T: decide (((k : Nat) : Int) < (s.size : Int))
    have hlt : k < s.size := by simpa using hc
    refine wp_skip (hK9 _ _ ?_)
    refine wp_seq_k fun K10 hK10 => ?_
    refine wp_block ?_
    refine wp_seq_k fun K11 hK11 => ?_
    refine wp_reg All mixed hsz8 hdf8 st_tr trivial ?_
    refine Chain.op (φ := Is (.int .i64 ((k : Nat)))) (st_is _) (sp_move (Has.base rfl e8)) ?_
    refine Chain.op (φ := Is (.int .i64 ((k : Nat)))) (st_is _) (sp_assign (Has.loc rfl)) ?_
    refine Chain.done ⟨by kernel_rfl, fun a12 g W12 hsz12 hdf12 hk hg henv hrest hpsi => ?_⟩
    obtain ⟨e3, -, -⟩ := henv
    replace e0 := (hrest 0 rfl).trans e0
    replace e7 := (hrest 7 rfl).trans e7
    replace e8 := (hrest 8 rfl).trans e8
    have e3 : sl a12 3 = (.int .i64 ((k : Nat))) := e3
    replace kw := kw.trans (.of_ext hk)
    clear hrest hk hg hpsi
    refine tail_nil (hK11 _ _ ?_)
    refine wp_seq_k fun K13 hK13 => ?_
    refine wp_reg All mixed hsz12 hdf12 st_tr trivial ?_
    refine Chain.op (φ := Is (.string (s))) (st_is _) (sp_move (Has.base rfl e0)) ?_
    refine Chain.op (φ := Is (.int .i64 ((k : Nat)))) (st_is _) (sp_move (Has.base rfl e3)) ?_
    refine Chain.op (φ := Is (.tuple #[(.int .i64 (hexV (s[k]'hlt).toNat)), (.bool (hexB (s[k]'hlt).toNat))])) (st_is _) (sp_call2 (φ1 := Is (.string (s))) (φ2 := Is (.int .i64 ((k : Nat)))) ent66 (Has.loc rfl) (Has.loc rfl) (fun g u1 u2 W hk hgk h1 h2 => by have h1 : u1 = _ := h1; subst u1; have h2 : u2 = _ := h2; subst u2; exact digit_ok (s) k hlt hm W)) ?_
    refine Chain.op (φ := Is (.tuple #[(.int .i64 (hexV (s[k]'hlt).toNat)), (.bool (hexB (s[k]'hlt).toNat))])) (st_is _) (sp_move (Has.loc rfl)) ?_
    refine Chain.op (φ := Is (.int .i64 (hexV (s[k]'hlt).toNat))) (st_is _) (sp_extT (Has.loc rfl) rfl) ?_
    refine Chain.op (φ := Is (.bool (hexB (s[k]'hlt).toNat))) (st_is _) (sp_extT (Has.loc rfl) rfl) ?_
    refine Chain.op (φ := Is (.int .i64 (hexV (s[k]'hlt).toNat))) (st_is _) (sp_assign (Has.loc rfl)) ?_
    refine Chain.op (φ := Is (.bool (hexB (s[k]'hlt).toNat))) (st_is _) (sp_assign (Has.loc rfl)) ?_
    refine Chain.done ⟨by kernel_rfl, fun a14 g W14 hsz14 hdf14 hk hg henv hrest hpsi => ?_⟩
    obtain ⟨e5, -, -, -, -, -, -, -, -⟩ := henv
    replace e0 := (hrest 0 rfl).trans e0
    replace e7 := (hrest 7 rfl).trans e7
    replace e8 := (hrest 8 rfl).trans e8
    have e5 : sl a14 5 = (.bool (hexB (s[k]'hlt).toNat)) := e5
    replace kw := kw.trans (.of_ext hk)
    clear hrest hk hg hpsi
    refine tail_nil (hK13 _ _ ?_)
    refine wp_seq_k fun K15 hK15 => ?_
    refine wp_reg All mixed hsz14 hdf14 st_tr trivial ?_
    refine Chain.op (φ := Is (.bool (hexB (s[k]'hlt).toNat))) (st_is _) (sp_move (Has.base rfl e5)) ?_
    refine Chain.op (φ := Is (.bool (!(hexB (s[k]'hlt).toNat)))) (st_is _) (sp_not (Has.loc rfl)) ?_
    refine Chain.done ⟨by kernel_rfl, fun a16 g W16 hsz16 hdf16 hk hg henv hrest hpsi => ?_⟩
    obtain ⟨e18, -, -⟩ := henv
    replace e0 := (hrest 0 rfl).trans e0
    replace e7 := (hrest 7 rfl).trans e7
    replace e8 := (hrest 8 rfl).trans e8
    have e18 : sl a16 18 = (.bool (!(hexB (s[k]'hlt).toNat))) := e18
    replace kw := kw.trans (.of_ext hk)
    clear hrest hk hg hpsi
    refine tail_nil (hK15 _ _ ?_)
    refine wp_cond_split e18 (fun hc => ?_) (fun hc => ?_)
    · -- T: !(hexB (s[k]'hlt).toNat)
      have hfin : hexIs s = false := hexIs_false hlt (by simpa using hc)
      refine wp_seq_k fun K17 hK17 => ?_
      refine wp_reg All mixed hsz16 hdf16 st_tr trivial ?_
      refine Chain.op (φ := Is (.bool (false))) (st_is _) (sp_assign Has.cst) ?_
      refine Chain.done ⟨by kernel_rfl, fun a18 g W18 hsz18 hdf18 hk hg henv hrest hpsi => ?_⟩
      obtain ⟨e2, -⟩ := henv
      have e2 : sl a18 2 = (.bool (false)) := e2
      replace kw := kw.trans (.of_ext hk)
      clear hrest hk hg hpsi
      refine tail_nil (hK17 _ _ ?_)
      refine wp_ret ?_
      refine (show bodyPost Try.prog Try.f49 _ .ret _ _ from ret1 rfl hdf18 e2 ⟨_, rfl, kw, ?_⟩)
      rw [hfin]
    · -- E: !(hexB (s[k]'hlt).toNat)
      have hk1 : hexB (s[k]'hlt).toNat = true := by simpa using hc
      refine wp_skip (hK10 _ _ ?_)
      refine wp_reg All mixed hsz16 hdf16 st_tr trivial ?_
      refine Chain.op (φ := Is (.int .i64 (((k : Nat) : Int) + (1 : Int)))) (st_is _) (sp_add (Has.base rfl e8) Has.cst (i64_in (by omega))) ?_
      refine Chain.op (φ := Is (.int .i64 (((k : Nat) : Int) + (1 : Int)))) (st_is _) (sp_move (Has.loc rfl)) ?_
      refine Chain.done ⟨by kernel_rfl, fun a19 g W19 hsz19 hdf19 hk hg henv hrest hpsi => ?_⟩
      obtain ⟨e8, -, -⟩ := henv
      replace e0 := (hrest 0 rfl).trans e0
      replace e7 := (hrest 7 rfl).trans e7
      have e8 : sl a19 8 = (.int .i64 (((k : Nat) : Int) + (1 : Int))) := e8
      replace kw := kw.trans (.of_ext hk)
      clear hrest hk hg hpsi
      exact tail_nil ⟨hlt, hsz19, hdf19, kw, e0, e7, (e8.trans (congrArg (Value.int .i64) (by simp))), fun i h hi => by rcases Nat.lt_succ_iff_lt_or_eq.1 hi with h1 | h1; exact hinv i h h1; subst h1; exact hk1⟩
  · -- E: decide (((k : Nat) : Int) < (s.size : Int))
    have hge0 : ¬ k < s.size := by simpa using hc
    have hge : k = s.size := by omega
    have hfin : hexIs s = true := (hexIs_iff s).2 fun i h => hinv i h (by omega)
    refine wp_exit (hK3 _ _ ?_)
    refine wp_seq_k fun K20 hK20 => ?_
    refine wp_reg All mixed hsz8 hdf8 st_tr trivial ?_
    refine Chain.op (φ := Is (.bool (true))) (st_is _) (sp_assign Has.cst) ?_
    refine Chain.done ⟨by kernel_rfl, fun a21 g W21 hsz21 hdf21 hk hg henv hrest hpsi => ?_⟩
    obtain ⟨e2, -⟩ := henv
    have e2 : sl a21 2 = (.bool (true)) := e2
    replace kw := kw.trans (.of_ext hk)
    clear hrest hk hg hpsi
    refine tail_nil (hK20 _ _ ?_)
    refine wp_ret ?_
    refine (show bodyPost Try.prog Try.f49 _ .ret _ _ from ret1 rfl hdf21 e2 ⟨_, rfl, kw, ?_⟩)
    rw [hfin]

set_option maxRecDepth 100000 in
theorem wrong_ok (ns : List ByteArray) (w : World) (S : BSet) (v : Value) (hv : Rd w S (strsD ns) v) : Calls Try.prog 34 #[v] w (Ret w fun u _ => u = .int .i64 (wrongE [] ns)) := by
  have hmn : ns.length ≤ maxLen := rd_lenS hv
  simp only [maxLen] at hmn
  obtain ⟨va, vc, ev, D_v⟩ := rdS_out (rd_arg hv)
  subst ev
  refine enter Try.func34 rfl Try.ntmps34 (Nat.le_of_ble_eq_true rfl) fun a0 hsz0 hdf0 harg => ?_
  have e0 : sl a0 0 = (.slice va (ns.length) vc) := harg 0 (Nat.le_of_ble_eq_true rfl)
  have kw := Keeps.refl All w
  clear harg
  refine wp_seq_k fun K1 hK1 => ?_
  refine wp_reg All mixed hsz0 hdf0 st_tr trivial ?_
  refine Chain.op (φ := Is (.int .i64 (0))) (st_is _) (sp_assign Has.cst) ?_
  refine Chain.done ⟨by kernel_rfl, fun a2 g W2 hsz2 hdf2 hk hg henv hrest hpsi => ?_⟩
  obtain ⟨-, -⟩ := henv
  replace e0 := (hrest 0 rfl).trans e0
  replace D_v := D_v.ext hk
  replace kw := kw.trans (.of_ext hk)
  clear hrest hk hg hpsi
  refine tail_nil (hK1 _ _ ?_)
  refine wp_seq_k fun K3 hK3 => ?_
  refine wp_reg All mixed hsz2 hdf2 st_tr trivial ?_
  refine Chain.mkMap ?_
  refine Chain.done ⟨by kernel_rfl, fun a4 g W4 hsz4 hdf4 hk hg henv hrest hpsi => ?_⟩
  obtain ⟨⟨b6_4, e6, hb6, own_b6_4⟩, -⟩ := henv
  have lo_b6_4 : w.heap.size ≤ b6_4 := Nat.le_trans kw.size (hg.lo _ _ hb6)
  have own_b6_4 : OwnM W4 b6_4 ([]) := own_b6_4
  replace e0 := (hrest 0 rfl).trans e0
  replace D_v := sa_more D_v hk [b6_4] (in_cons (hg.lo _ _ hb6) in_nil)
  replace kw := kw.trans (.of_ext hk)
  clear hrest hk hg hpsi hb6
  refine tail_assign (v := (.map (some b6_4))) e6 (by rw [hsz4]; exact Nat.le_of_ble_eq_true rfl) (fun a5 hsz5 hdf5 e3 hr => ?_)
  replace hsz5 := hsz5.trans hsz4; replace hdf5 := hdf5.trans hdf4
  replace e0 := (hr 0 (by decide)).trans e0
  replace e6 := (hr 6 (by decide)).trans e6
  clear hr
  refine tail_nil (hK3 _ _ ?_)
  refine wp_seq_k fun K6 hK6 => ?_
  refine wp_seq_k fun K7 hK7 => ?_
  refine wp_reg All mixed hsz5 hdf5 st_tr trivial ?_
  refine Chain.op (φ := Is (.slice va (ns.length) vc)) (st_is _) (sp_move (Has.base rfl e0)) ?_
  refine Chain.op (φ := Is (.int .i64 (ns.length))) (st_is _) (sp_lenSs Try.underlying23 ((Has.loc rfl).dat D_v sub_all)) ?_
  refine Chain.op (φ := Is (.int .i64 (0))) (st_is _) (sp_move Has.cst) ?_
  refine Chain.done ⟨by kernel_rfl, fun a8 g W8 hsz8 hdf8 hk hg henv hrest hpsi => ?_⟩
  obtain ⟨e9, e8, e7, -⟩ := henv
  replace e3 := (hrest 3 rfl).trans e3
  replace D_v := D_v.ext hk
  have e7 : sl a8 7 = (.slice va (ns.length) vc) := e7
  have e8 : sl a8 8 = (.int .i64 (ns.length)) := e8
  have e9 : sl a8 9 = (.int .i64 (0)) := e9
  replace own_b6_4 := own_b6_4.ext hk
  replace kw := kw.trans (.of_ext hk)
  clear hrest hk hg hpsi
  refine tail_nil (hK7 _ _ ?_)
  refine wp_block ?_
  rw [show [] = ones (ns.take 0) by rfl] at own_b6_4
  refine wp_for (ns.length) (fun k a W => a.tmps.size = 30 ∧ a.defers = [] ∧ Keeps All w W ∧ sl a 3 = (.map (some b6_4)) ∧ sl a 7 = (.slice va (ns.length) vc) ∧ sl a 8 = (.int .i64 (ns.length)) ∧ sl a 9 = (.int .i64 ((k : Nat))) ∧ OwnM W b6_4 (ones (ns.take k)) ∧ Rd W (SA w S [b6_4]) (strsD (ns)) (.slice va (ns.length) vc) ∧ (wrongE [] ns = wrongE (ns.take k) (ns.drop k))) ⟨hsz8, hdf8, kw, e3, e7, e8, (e9.trans (congrArg (Value.int .i64) (rfl))), own_b6_4, D_v, rfl⟩ ?_
  clear kw e3 e7 e8 e9 own_b6_4 D_v
  rintro k a9 W9 hkk ⟨hsz9, hdf9, kw, e3, e7, e8, e9, own_b6_4, D_v, hin⟩
  refine wp_seq_k fun K10 hK10 => ?_
  refine wp_reg All mixed hsz9 hdf9 st_tr trivial ?_
  refine Chain.op (φ := Is (.bool (decide (((k : Nat) : Int) < (ns.length : Int))))) (st_is _) (sp_lss (Has.base rfl e9) (Has.base rfl e8)) ?_
  refine Chain.done ⟨by kernel_rfl, fun a11 g W11 hsz11 hdf11 hk hg henv hrest hpsi => ?_⟩
  obtain ⟨e10, -⟩ := henv
  replace e3 := (hrest 3 rfl).trans e3
  replace e7 := (hrest 7 rfl).trans e7
  replace e8 := (hrest 8 rfl).trans e8
  replace e9 := (hrest 9 rfl).trans e9
  replace D_v := D_v.ext hk
  have e10 : sl a11 10 = (.bool (decide (((k : Nat) : Int) < (ns.length : Int)))) := e10
  replace own_b6_4 := own_b6_4.ext hk
  replace kw := kw.trans (.of_ext hk)
  clear hrest hk hg hpsi
  refine tail_nil (hK10 _ _ ?_)
  refine wp_seq_k fun K12 hK12 => ?_
  refine wp_cond_split e10 (fun hc => ?_) (fun hc => ?_)
  · -- T: decide (((k : Nat) : Int) < (ns.length : Int))
    have hlt : k < ns.length := by simpa using hc
    rw [List.drop_eq_getElem_cons hlt, wrongE] at hin
    refine wp_skip (hK12 _ _ ?_)
    refine wp_seq_k fun K13 hK13 => ?_
    refine wp_block ?_
    refine wp_seq_k fun K14 hK14 => ?_
    refine wp_reg All mixed hsz11 hdf11 st_tr trivial ?_
    refine Chain.op (φ := IsR (SA w S [b6_4]) (D.str (ns[k]'hlt))) (st_r sub_all) (sp_indexS (i := k) ((Has.base rfl e7).dat D_v sub_all) (Has.base rfl e9) Try.underlying23 sz9 rfl hlt) ?_
    refine Chain.op (φ := Is (.string (ns[k]'hlt))) (st_is _) (sp_loadStr (Has.loc rfl) agg9 sz9) ?_
    refine Chain.op (φ := Is (.string (ns[k]'hlt))) (st_is _) (sp_assign (Has.loc rfl)) ?_
    refine Chain.done ⟨by kernel_rfl, fun a15 g W15 hsz15 hdf15 hk hg henv hrest hpsi => ?_⟩
    obtain ⟨e5, -, -, -⟩ := henv
    replace e3 := (hrest 3 rfl).trans e3
    replace e7 := (hrest 7 rfl).trans e7
    replace e8 := (hrest 8 rfl).trans e8
    replace e9 := (hrest 9 rfl).trans e9
    replace D_v := D_v.ext hk
    have e5 : sl a15 5 = (.string (ns[k]'hlt)) := e5
    replace own_b6_4 := own_b6_4.ext hk
    replace kw := kw.trans (.of_ext hk)
    clear hrest hk hg hpsi
    refine tail_nil (hK14 _ _ ?_)
    refine wp_seq_k fun K16 hK16 => ?_
    refine wp_seq_k fun K17 hK17 => ?_
    refine wp_reg All mixed hsz15 hdf15 st_tr trivial ?_
    refine Chain.op (φ := Is (.string (ns[k]'hlt))) (st_is _) (sp_move (Has.base rfl e5)) ?_
    refine Chain.op (φ := Is (.int .i64 ((ns[k]'hlt).size))) (st_is _) (sp_lenS Try.underlying9 (Has.loc rfl)) ?_
    refine Chain.op (φ := Is (.bool (((ns[k]'hlt).size : Int) != (64 : Int)))) (st_is _) (sp_neq (Has.loc rfl) Has.cst) ?_
    refine Chain.op (φ := Is (.bool (((ns[k]'hlt).size : Int) != (64 : Int)))) (st_is _) (sp_move (Has.loc rfl)) ?_
    refine Chain.opE (t := 16) (x := ((ns[k]'hlt).size : Int) != (64 : Int)) (φ := Is (.string (ns[k]'hlt))) rfl (Has.loc rfl) (st_is _) (fun hg => sp_move (Has.base rfl e5)) ?_
    refine Chain.opE (t := 16) (x := ((ns[k]'hlt).size : Int) != (64 : Int)) (φ := Is (.bool (hexIs (ns[k]'hlt)))) rfl (Has.loc rfl) (st_is _) (fun hg => sp_call1 (φ1 := Is (.string (ns[k]'hlt))) ent49 ((Has.loc rfl).undE hg) (fun g u1 W hk hgk h1 => by have h1 : u1 = _ := h1; subst u1; exact hexIs_ok (ns[k]'hlt) (rd_strAt D_v k hlt) W)) ?_
    refine Chain.opE (t := 16) (x := ((ns[k]'hlt).size : Int) != (64 : Int)) (φ := Is (.bool (!(hexIs (ns[k]'hlt))))) rfl (Has.loc rfl) (st_is _) (fun hg => sp_not ((Has.loc rfl).undE hg)) ?_
    refine Chain.op (φ := Is (.bool ((((ns[k]'hlt).size : Int) != (64 : Int)) || (!(hexIs (ns[k]'hlt)))))) (st_is _) (sp_or (Has.loc rfl) ((Has.loc rfl).weak fun hq => hq)) ?_
    refine Chain.done ⟨by kernel_rfl, fun a18 g W18 hsz18 hdf18 hk hg henv hrest hpsi => ?_⟩
    obtain ⟨e20, -, -, -, -, -, -, -, -⟩ := henv
    replace e3 := (hrest 3 rfl).trans e3
    replace e7 := (hrest 7 rfl).trans e7
    replace e8 := (hrest 8 rfl).trans e8
    replace e9 := (hrest 9 rfl).trans e9
    replace e5 := (hrest 5 rfl).trans e5
    replace D_v := D_v.ext hk
    have e20 : sl a18 20 = (.bool ((((ns[k]'hlt).size : Int) != (64 : Int)) || (!(hexIs (ns[k]'hlt))))) := e20
    replace own_b6_4 := own_b6_4.ext hk
    replace kw := kw.trans (.of_ext hk)
    clear hrest hk hg hpsi
    refine tail_nil (hK17 _ _ ?_)
    refine wp_cond_split e20 (fun hc => ?_) (fun hc => ?_)
    · -- T: (((ns[k]'hlt).size : Int) != (64 : Int)) || (!(hexIs (ns[k]'hlt)))
      have hd : digB ns[k] = false := by rcases (Bool.or_eq_true _ _).mp hc with h | h; simp at h; simp [digB]; omega; simp [digB]; simp at h; simp [h]
      have hfin : wrongE [] ns = 3 := by rw [hin, if_pos hd]
      refine wp_seq_k fun K19 hK19 => ?_
      refine wp_reg All mixed hsz18 hdf18 st_tr trivial ?_
      refine Chain.op (φ := Is (.int .i64 (3))) (st_is _) (sp_assign Has.cst) ?_
      refine Chain.done ⟨by kernel_rfl, fun a20 g W20 hsz20 hdf20 hk hg henv hrest hpsi => ?_⟩
      obtain ⟨e2, -⟩ := henv
      replace D_v := D_v.ext hk
      have e2 : sl a20 2 = (.int .i64 (3)) := e2
      replace own_b6_4 := own_b6_4.ext hk
      replace kw := kw.trans (.of_ext hk)
      clear hrest hk hg hpsi
      refine tail_nil (hK19 _ _ ?_)
      refine wp_ret ?_
      refine (show bodyPost Try.prog Try.f34 _ .ret _ _ from ret1 rfl hdf20 e2 ⟨_, rfl, kw, ?_⟩)
      rw [hfin]
    · -- E: (((ns[k]'hlt).size : Int) != (64 : Int)) || (!(hexIs (ns[k]'hlt)))
      have hd : ¬ digB ns[k] = false := by have h1 := (Bool.or_eq_false_iff.1 hc).1; have h2 := (Bool.or_eq_false_iff.1 hc).2; simp at h1 h2; simp [digB, h2]; omega
      rw [if_neg hd] at hin
      refine wp_skip (hK16 _ _ ?_)
      refine wp_seq_k fun K21 hK21 => ?_
      refine wp_seq_k fun K22 hK22 => ?_
      refine wp_reg All mixed hsz18 hdf18 st_tr trivial ?_
      refine Chain.op (φ := Is (.map (some b6_4))) (st_is _) (sp_move (Has.base rfl e3)) ?_
      refine Chain.op (φ := Is (.string (ns[k]'hlt))) (st_is _) (sp_move (Has.base rfl e5)) ?_
      refine Chain.op (φ := Is (.int .i64 (mget (ones (ns.take k)) (ns[k]'hlt)))) (st_is _) (sp_lookup Try.underlying67 Try.underlying9 z3 (Has.loc rfl) (Has.loc rfl) own_b6_4 trivial) ?_
      refine Chain.op (φ := Is (.bool (decide ((0 : Int) < (mget (ones (ns.take k)) (ns[k]'hlt) : Int))))) (st_is _) (sp_gtr (Has.loc rfl) Has.cst) ?_
      refine Chain.done ⟨by kernel_rfl, fun a23 g W23 hsz23 hdf23 hk hg henv hrest hpsi => ?_⟩
      obtain ⟨e24, -, -, -, -⟩ := henv
      replace e3 := (hrest 3 rfl).trans e3
      replace e7 := (hrest 7 rfl).trans e7
      replace e8 := (hrest 8 rfl).trans e8
      replace e9 := (hrest 9 rfl).trans e9
      replace e5 := (hrest 5 rfl).trans e5
      replace D_v := D_v.ext hk
      have e24 : sl a23 24 = (.bool (decide ((0 : Int) < (mget (ones (ns.take k)) (ns[k]'hlt) : Int)))) := e24
      replace own_b6_4 := own_b6_4.ext hk
      replace kw := kw.trans (.of_ext hk)
      clear hrest hk hg hpsi
      refine tail_nil (hK22 _ _ ?_)
      refine wp_cond_split e24 (fun hc => ?_) (fun hc => ?_)
      · -- T: decide ((0 : Int) < (mget (ones (ns.take k)) (ns[k]'hlt) : Int))
        have hm : memB ns[k] (ns.take k) = true := by have h := of_decide_eq_true hc; rw [mget_ones] at h; split at h; assumption; omega
        have hfin : wrongE [] ns = 7 := by rw [hin, if_pos hm]
        refine wp_seq_k fun K24 hK24 => ?_
        refine wp_reg All mixed hsz23 hdf23 st_tr trivial ?_
        refine Chain.op (φ := Is (.int .i64 (7))) (st_is _) (sp_assign Has.cst) ?_
        refine Chain.done ⟨by kernel_rfl, fun a25 g W25 hsz25 hdf25 hk hg henv hrest hpsi => ?_⟩
        obtain ⟨e2, -⟩ := henv
        replace D_v := D_v.ext hk
        have e2 : sl a25 2 = (.int .i64 (7)) := e2
        replace own_b6_4 := own_b6_4.ext hk
        replace kw := kw.trans (.of_ext hk)
        clear hrest hk hg hpsi
        refine tail_nil (hK24 _ _ ?_)
        refine wp_ret ?_
        refine (show bodyPost Try.prog Try.f34 _ .ret _ _ from ret1 rfl hdf25 e2 ⟨_, rfl, kw, ?_⟩)
        rw [hfin]
      · -- E: decide ((0 : Int) < (mget (ones (ns.take k)) (ns[k]'hlt) : Int))
        have hm : memB ns[k] (ns.take k) = false := by have h := of_decide_eq_false hc; rw [mget_ones] at h; cases hq : memB ns[k] (ns.take k) with | false => rfl | true => rw [if_pos hq] at h; omega
        rw [if_neg (by rw [hm]; simp)] at hin
        have hmg : mget (ones (ns.take k)) ns[k] = 0 := by rw [mget_ones, if_neg (by rw [hm]; simp)]
        have hms := mset_ones hm
        refine wp_skip (hK21 _ _ ?_)
        refine wp_reg All mixed hsz23 hdf23 st_tr trivial ?_
        refine Chain.op (φ := Is (.map (some b6_4))) (st_is _) (sp_move (Has.base rfl e3)) ?_
        refine Chain.op (φ := Is (.string (ns[k]'hlt))) (st_is _) (sp_move (Has.base rfl e5)) ?_
        refine Chain.op (φ := Is (.int .i64 (mget (ones (ns.take k)) (ns[k]'hlt)))) (st_is _) (sp_lookup Try.underlying67 Try.underlying9 z3 (Has.loc rfl) (Has.loc rfl) own_b6_4 trivial) ?_
        refine Chain.op (φ := Is (.int .i64 ((mget (ones (ns.take k)) (ns[k]'hlt) : Int) + (1 : Int)))) (st_is _) (sp_add (Has.loc rfl) Has.cst (i64_in (by omega))) ?_
        refine Chain.done ⟨by kernel_rfl, fun a26 g W26 hsz26 hdf26 hk hg henv hrest hpsi => ?_⟩
        obtain ⟨e28, -, e26, e25, -⟩ := henv
        replace e3 := (hrest 3 rfl).trans e3
        replace e7 := (hrest 7 rfl).trans e7
        replace e8 := (hrest 8 rfl).trans e8
        replace e9 := (hrest 9 rfl).trans e9
        replace D_v := D_v.ext hk
        have e25 : sl a26 25 = (.map (some b6_4)) := e25
        have e26 : sl a26 26 = (.string (ns[k]'hlt)) := e26
        have e28 : sl a26 28 = (.int .i64 ((mget (ones (ns.take k)) (ns[k]'hlt) : Int) + (1 : Int))) := e28
        replace own_b6_4 := own_b6_4.ext hk
        replace kw := kw.trans (.of_ext hk)
        clear hrest hk hg hpsi
        refine tail_updM Try.underlying67 Try.underlying9 e25 e26 e28 own_b6_4 (fun W27 hs own_b6_4 => ?_)
        have own_b6_4 : OwnM W27 b6_4 (mset (ones (ns.take k)) (ns[k]'hlt) ((mget (ones (ns.take k)) (ns[k]'hlt) : Int) + (1 : Int))) := own_b6_4
        replace D_v := sa_store D_v hs (by simp)
        replace kw := keeps_store kw hs lo_b6_4
        clear hs
        refine tail_nil (hK13 _ _ ?_)
        refine wp_reg All mixed hsz26 hdf26 st_tr trivial ?_
        refine Chain.op (φ := Is (.int .i64 (((k : Nat) : Int) + (1 : Int)))) (st_is _) (sp_add (Has.base rfl e9) Has.cst (i64_in (by omega))) ?_
        refine Chain.op (φ := Is (.int .i64 (((k : Nat) : Int) + (1 : Int)))) (st_is _) (sp_move (Has.loc rfl)) ?_
        refine Chain.done ⟨by kernel_rfl, fun a28 g W28 hsz28 hdf28 hk hg henv hrest hpsi => ?_⟩
        obtain ⟨e9, -, -⟩ := henv
        replace e3 := (hrest 3 rfl).trans e3
        replace e7 := (hrest 7 rfl).trans e7
        replace e8 := (hrest 8 rfl).trans e8
        replace D_v := D_v.ext hk
        have e9 : sl a28 9 = (.int .i64 (((k : Nat) : Int) + (1 : Int))) := e9
        replace own_b6_4 := own_b6_4.ext hk
        replace kw := kw.trans (.of_ext hk)
        clear hrest hk hg hpsi
        rw [show mset (ones (ns.take k)) (ns[k]'hlt) ((mget (ones (ns.take k)) (ns[k]'hlt) : Int) + (1 : Int)) = ones (ns.take (k + 1)) by rw [hmg, List.take_succ_eq_append_getElem hlt]; exact hms] at own_b6_4
        exact tail_nil ⟨hlt, hsz28, hdf28, kw, e3, e7, e8, (e9.trans (congrArg (Value.int .i64) (by simp))), own_b6_4, D_v, (by rw [List.take_succ_eq_append_getElem hlt]; exact hin)⟩
  · -- E: decide (((k : Nat) : Int) < (ns.length : Int))
    have hge0 : ¬ k < ns.length := by simpa using hc
    have hge : k = ns.length := by omega
    have hfin : wrongE [] ns = 0 := by rw [hin, hge, List.drop_length]; rfl
    refine wp_exit (hK6 _ _ ?_)
    refine wp_seq_k fun K29 hK29 => ?_
    refine wp_reg All mixed hsz11 hdf11 st_tr trivial ?_
    refine Chain.op (φ := Is (.int .i64 (0))) (st_is _) (sp_assign Has.cst) ?_
    refine Chain.done ⟨by kernel_rfl, fun a30 g W30 hsz30 hdf30 hk hg henv hrest hpsi => ?_⟩
    obtain ⟨e2, -⟩ := henv
    replace D_v := D_v.ext hk
    have e2 : sl a30 2 = (.int .i64 (0)) := e2
    replace own_b6_4 := own_b6_4.ext hk
    replace kw := kw.trans (.of_ext hk)
    clear hrest hk hg hpsi
    refine tail_nil (hK29 _ _ ?_)
    refine wp_ret ?_
    refine (show bodyPost Try.prog Try.f34 _ .ret _ _ from ret1 rfl hdf30 e2 ⟨_, rfl, kw, ?_⟩)
    rw [hfin]

set_option maxRecDepth 100000 in
theorem mayA_ok (au : Au) (w : World) (S : BSet) (v : Value) (hv : Rd w S au.d v) : Calls Try.prog 13 #[v] w (Ret w fun u _ => u = .bool (mayA au)) := by
  obtain ⟨p0_1a, p0_1c, ev, D_p0_1⟩ := rdAu_out (rd_arg hv)
  subst ev
  refine enter Try.func13 rfl Try.ntmps13 (Nat.le_of_ble_eq_true rfl) fun a0 hsz0 hdf0 harg => ?_
  have e0 : sl a0 0 = (.agg #[(.int .i64 (au.th)), (.slice p0_1a (au.ids.length) p0_1c)]) := harg 0 (Nat.le_of_ble_eq_true rfl)
  have kw := Keeps.refl All w
  clear harg
  refine wp_seq_k fun K1 hK1 => ?_
  refine wp_reg All mixed hsz0 hdf0 st_tr trivial ?_
  refine Chain.boxOp (v := (.agg #[(.int .i64 (au.th)), (.slice p0_1a (au.ids.length) p0_1c)])) (Has.base rfl e0) ?_
  refine Chain.op (φ := Is (.bool (false))) (st_is _) (sp_assign Has.cst) ?_
  refine Chain.done ⟨by kernel_rfl, fun a2 g W2 hsz2 hdf2 hk hg henv hrest hpsi => ?_⟩
  obtain ⟨-, ⟨b1_2, e1, hb1, own_b1_2⟩, -⟩ := henv
  have lo_b1_2 : w.heap.size ≤ b1_2 := Nat.le_trans kw.size (hg.lo _ _ hb1)
  have own_b1_2 : Own W2 b1_2 [(.int .i64 (au.th)), (.slice p0_1a (au.ids.length) p0_1c)] 27 := own_b1_2
  replace D_p0_1 := sa_more D_p0_1 hk [b1_2] (in_cons (hg.lo _ _ hb1) in_nil)
  replace kw := kw.trans (.of_ext hk)
  clear hrest hk hg hpsi hb1
  refine tail_nil (hK1 _ _ ?_)
  refine wp_seq_k fun K3 hK3 => ?_
  refine wp_reg All mixed hsz2 hdf2 st_tr trivial ?_
  refine Chain.op (φ := Is (.pointer (some ⟨b1_2, 1, none⟩))) (st_is _) (sp_fieldO (Has.base rfl e1) Try.underlying27 rfl sz23 rfl) ?_
  refine Chain.op (φ := Is (.slice p0_1a (au.ids.length) p0_1c)) (st_is _) (sp_loadO (v := (.slice p0_1a (au.ids.length) p0_1c)) (Has.loc rfl) own_b1_2 trivial agg23 sz23 (Nat.le_of_ble_eq_true rfl) (fun h => by first | rfl | cases h) rfl) ?_
  refine Chain.op (φ := Is (.int .i64 (au.ids.length))) (st_is _) (sp_lenSs Try.underlying23 ((Has.loc rfl).dat D_p0_1 sub_all)) ?_
  refine Chain.op (φ := Is (.int .i64 (au.ids.length))) (st_is _) (sp_assign (Has.loc rfl)) ?_
  refine Chain.done ⟨by kernel_rfl, fun a4 g W4 hsz4 hdf4 hk hg henv hrest hpsi => ?_⟩
  obtain ⟨e3, -, -, -, -⟩ := henv
  replace e1 := (hrest 1 rfl).trans e1
  replace D_p0_1 := D_p0_1.ext hk
  have e3 : sl a4 3 = (.int .i64 (au.ids.length)) := e3
  replace own_b1_2 := own_b1_2.ext hk
  replace kw := kw.trans (.of_ext hk)
  clear hrest hk hg hpsi
  refine tail_nil (hK3 _ _ ?_)
  refine wp_seq_k fun K5 hK5 => ?_
  refine wp_seq_k fun K6 hK6 => ?_
  refine wp_reg All mixed hsz4 hdf4 st_tr trivial ?_
  refine Chain.op (φ := Is (.int .i64 (au.ids.length))) (st_is _) (sp_move (Has.base rfl e3)) ?_
  refine Chain.op (φ := Is (.bool (decide ((au.ids.length : Int) < (1 : Int))))) (st_is _) (sp_lss (Has.loc rfl) Has.cst) ?_
  refine Chain.op (φ := Is (.bool (decide ((au.ids.length : Int) < (1 : Int))))) (st_is _) (sp_move (Has.loc rfl)) ?_
  refine Chain.opE (t := 9) (x := decide ((au.ids.length : Int) < (1 : Int))) (φ := Is (.int .i64 (au.ids.length))) rfl (Has.loc rfl) (st_is _) (fun hg => sp_move (Has.base rfl e3)) ?_
  refine Chain.opE (t := 9) (x := decide ((au.ids.length : Int) < (1 : Int))) (φ := Is (.bool (decide ((16 : Int) < (au.ids.length : Int))))) rfl (Has.loc rfl) (st_is _) (fun hg => sp_gtr ((Has.loc rfl).undE hg) Has.cst) ?_
  refine Chain.op (φ := Is (.bool ((decide ((au.ids.length : Int) < (1 : Int))) || (decide ((16 : Int) < (au.ids.length : Int)))))) (st_is _) (sp_or (Has.loc rfl) ((Has.loc rfl).weak fun hq => hq)) ?_
  refine Chain.op (φ := Is (.bool ((decide ((au.ids.length : Int) < (1 : Int))) || (decide ((16 : Int) < (au.ids.length : Int)))))) (st_is _) (sp_move (Has.loc rfl)) ?_
  refine Chain.opE (t := 13) (x := (decide ((au.ids.length : Int) < (1 : Int))) || (decide ((16 : Int) < (au.ids.length : Int)))) (φ := Is (.pointer (some ⟨b1_2, 0, none⟩))) rfl (Has.loc rfl) (st_is _) (fun hg => sp_fieldO (Has.base rfl e1) Try.underlying27 rfl sz3 rfl) ?_
  refine Chain.opE (t := 13) (x := (decide ((au.ids.length : Int) < (1 : Int))) || (decide ((16 : Int) < (au.ids.length : Int)))) (φ := Is (.int .i64 (au.th))) rfl (Has.loc rfl) (st_is _) (fun hg => sp_loadO (v := (.int .i64 (au.th))) ((Has.loc rfl).undE hg) own_b1_2 trivial agg3 sz3 (Nat.le_of_ble_eq_true rfl) (fun h => by first | rfl | cases h) rfl) ?_
  refine Chain.opE (t := 13) (x := (decide ((au.ids.length : Int) < (1 : Int))) || (decide ((16 : Int) < (au.ids.length : Int)))) (φ := Is (.bool (decide ((au.th : Int) < (1 : Int))))) rfl (Has.loc rfl) (st_is _) (fun hg => sp_lss ((Has.loc rfl).undE hg) Has.cst) ?_
  refine Chain.op (φ := Is (.bool (((decide ((au.ids.length : Int) < (1 : Int))) || (decide ((16 : Int) < (au.ids.length : Int)))) || (decide ((au.th : Int) < (1 : Int)))))) (st_is _) (sp_or (Has.loc rfl) ((Has.loc rfl).weak fun hq => hq)) ?_
  refine Chain.op (φ := Is (.bool (((decide ((au.ids.length : Int) < (1 : Int))) || (decide ((16 : Int) < (au.ids.length : Int)))) || (decide ((au.th : Int) < (1 : Int)))))) (st_is _) (sp_move (Has.loc rfl)) ?_
  refine Chain.opE (t := 18) (x := ((decide ((au.ids.length : Int) < (1 : Int))) || (decide ((16 : Int) < (au.ids.length : Int)))) || (decide ((au.th : Int) < (1 : Int)))) (φ := Is (.pointer (some ⟨b1_2, 0, none⟩))) rfl (Has.loc rfl) (st_is _) (fun hg => sp_fieldO (Has.base rfl e1) Try.underlying27 rfl sz3 rfl) ?_
  refine Chain.opE (t := 18) (x := ((decide ((au.ids.length : Int) < (1 : Int))) || (decide ((16 : Int) < (au.ids.length : Int)))) || (decide ((au.th : Int) < (1 : Int)))) (φ := Is (.int .i64 (au.th))) rfl (Has.loc rfl) (st_is _) (fun hg => sp_loadO (v := (.int .i64 (au.th))) ((Has.loc rfl).undE hg) own_b1_2 trivial agg3 sz3 (Nat.le_of_ble_eq_true rfl) (fun h => by first | rfl | cases h) rfl) ?_
  refine Chain.opE (t := 18) (x := ((decide ((au.ids.length : Int) < (1 : Int))) || (decide ((16 : Int) < (au.ids.length : Int)))) || (decide ((au.th : Int) < (1 : Int)))) (φ := Is (.int .i64 (au.ids.length))) rfl (Has.loc rfl) (st_is _) (fun hg => sp_move (Has.base rfl e3)) ?_
  refine Chain.opE (t := 18) (x := ((decide ((au.ids.length : Int) < (1 : Int))) || (decide ((16 : Int) < (au.ids.length : Int)))) || (decide ((au.th : Int) < (1 : Int)))) (φ := Is (.bool (decide ((au.ids.length : Int) < (au.th : Int))))) rfl (Has.loc rfl) (st_is _) (fun hg => sp_gtr ((Has.loc rfl).undE hg) ((Has.loc rfl).undE hg)) ?_
  refine Chain.op (φ := Is (.bool ((((decide ((au.ids.length : Int) < (1 : Int))) || (decide ((16 : Int) < (au.ids.length : Int)))) || (decide ((au.th : Int) < (1 : Int)))) || (decide ((au.ids.length : Int) < (au.th : Int)))))) (st_is _) (sp_or (Has.loc rfl) ((Has.loc rfl).weak fun hq => hq)) ?_
  refine Chain.done ⟨by kernel_rfl, fun a7 g W7 hsz7 hdf7 hk hg henv hrest hpsi => ?_⟩
  obtain ⟨e23, -, -, -, -, -, -, -, -, -, -, -, -, -, -, -, -, -⟩ := henv
  replace e1 := (hrest 1 rfl).trans e1
  replace D_p0_1 := D_p0_1.ext hk
  have e23 : sl a7 23 = (.bool ((((decide ((au.ids.length : Int) < (1 : Int))) || (decide ((16 : Int) < (au.ids.length : Int)))) || (decide ((au.th : Int) < (1 : Int)))) || (decide ((au.ids.length : Int) < (au.th : Int))))) := e23
  replace own_b1_2 := own_b1_2.ext hk
  replace kw := kw.trans (.of_ext hk)
  clear hrest hk hg hpsi
  refine tail_nil (hK6 _ _ ?_)
  refine wp_cond_split e23 (fun hc => ?_) (fun hc => ?_)
  · -- T: (((decide ((au.ids.length : Int) < (1 : Int))) || (decide ((16 : Int) < (au.ids.
    have hfin : mayA au = false := by rw [mayA, if_pos]; simp at hc; omega
    refine wp_seq_k fun K8 hK8 => ?_
    refine wp_reg All mixed hsz7 hdf7 st_tr trivial ?_
    refine Chain.op (φ := Is (.bool (false))) (st_is _) (sp_assign Has.cst) ?_
    refine Chain.done ⟨by kernel_rfl, fun a9 g W9 hsz9 hdf9 hk hg henv hrest hpsi => ?_⟩
    obtain ⟨e2, -⟩ := henv
    replace D_p0_1 := D_p0_1.ext hk
    have e2 : sl a9 2 = (.bool (false)) := e2
    replace own_b1_2 := own_b1_2.ext hk
    replace kw := kw.trans (.of_ext hk)
    clear hrest hk hg hpsi
    refine tail_nil (hK8 _ _ ?_)
    refine wp_ret ?_
    refine (show bodyPost Try.prog Try.f13 _ .ret _ _ from ret1 rfl hdf9 e2 ⟨_, rfl, kw, ?_⟩)
    rw [hfin]
  · -- E: (((decide ((au.ids.length : Int) < (1 : Int))) || (decide ((16 : Int) < (au.ids.
    have hfin : mayA au = decide (wrongE [] au.ids = 0) := by rw [mayA, if_neg]; simp at hc; omega
    refine wp_skip (hK5 _ _ ?_)
    refine wp_seq_k fun K10 hK10 => ?_
    refine wp_reg All mixed hsz7 hdf7 st_tr trivial ?_
    refine Chain.op (φ := Is (.pointer (some ⟨b1_2, 1, none⟩))) (st_is _) (sp_fieldO (Has.base rfl e1) Try.underlying27 rfl sz23 rfl) ?_
    refine Chain.op (φ := Is (.slice p0_1a (au.ids.length) p0_1c)) (st_is _) (sp_loadO (v := (.slice p0_1a (au.ids.length) p0_1c)) (Has.loc rfl) own_b1_2 trivial agg23 sz23 (Nat.le_of_ble_eq_true rfl) (fun h => by first | rfl | cases h) rfl) ?_
    refine Chain.op (φ := Is (.int .i64 (wrongE [] au.ids))) (st_is _) (sp_call1 (φ1 := IsD (SA w S [b1_2]) (strsD (au.ids))) ent34 ((Has.loc rfl).dat D_p0_1 sub_all) (fun g u1 W hk hgk h1 => wrong_ok (au.ids) W _ _ h1)) ?_
    refine Chain.op (φ := Is (.bool ((wrongE [] au.ids : Int) == (0 : Int)))) (st_is _) (sp_eql (Has.loc rfl) Has.cst) ?_
    refine Chain.op (φ := Is (.bool ((wrongE [] au.ids : Int) == (0 : Int)))) (st_is _) (sp_assign (Has.loc rfl)) ?_
    refine Chain.done ⟨by kernel_rfl, fun a11 g W11 hsz11 hdf11 hk hg henv hrest hpsi => ?_⟩
    obtain ⟨e2, -, -, -, -, -⟩ := henv
    replace D_p0_1 := D_p0_1.ext hk
    have e2 : sl a11 2 = (.bool ((wrongE [] au.ids : Int) == (0 : Int))) := e2
    replace own_b1_2 := own_b1_2.ext hk
    replace kw := kw.trans (.of_ext hk)
    clear hrest hk hg hpsi
    refine tail_nil (hK10 _ _ ?_)
    refine wp_ret ?_
    refine (show bodyPost Try.prog Try.f13 _ .ret _ _ from ret1 rfl hdf11 e2 ⟨_, rfl, kw, ?_⟩)
    rw [hfin]
    exact congrArg Value.bool (by rw [Bool.eq_iff_iff]; simp)

set_option maxRecDepth 100000 in
theorem contains_ok (ns : List ByteArray) (name : ByteArray) (w : World) (S : BSet) (v : Value) (hv : Rd w S (strsD ns) v) : Calls Try.prog 39 #[v, .string name] w (Ret w fun u _ => u = .bool (memB name ns)) := by
  obtain ⟨va, vc, ev, D_v⟩ := rdS_out (rd_arg hv)
  subst ev
  refine enter Try.func39 rfl Try.ntmps39 (Nat.le_of_ble_eq_true rfl) fun a0 hsz0 hdf0 harg => ?_
  have e0 : sl a0 0 = (.slice va (ns.length) vc) := harg 0 (Nat.le_of_ble_eq_true rfl)
  have e1 : sl a0 1 = (.string (name)) := harg 1 (Nat.le_of_ble_eq_true rfl)
  have kw := Keeps.refl All w
  clear harg
  refine wp_seq_k fun K1 hK1 => ?_
  refine wp_reg All mixed hsz0 hdf0 st_tr trivial ?_
  refine Chain.op (φ := Is (.bool (false))) (st_is _) (sp_assign Has.cst) ?_
  refine Chain.done ⟨by kernel_rfl, fun a2 g W2 hsz2 hdf2 hk hg henv hrest hpsi => ?_⟩
  obtain ⟨-, -⟩ := henv
  replace e0 := (hrest 0 rfl).trans e0
  replace e1 := (hrest 1 rfl).trans e1
  replace D_v := D_v.ext hk
  replace kw := kw.trans (.of_ext hk)
  clear hrest hk hg hpsi
  refine tail_nil (hK1 _ _ ?_)
  refine wp_seq_k fun K3 hK3 => ?_
  refine wp_reg All mixed hsz2 hdf2 st_tr trivial ?_
  refine Chain.op (φ := Is (.slice va (ns.length) vc)) (st_is _) (sp_move (Has.base rfl e0)) ?_
  refine Chain.op (φ := Is (.string (name))) (st_is _) (sp_move (Has.base rfl e1)) ?_
  refine Chain.op (φ := Is (.int .i64 (idx name ns 0))) (st_is _) (sp_call2 (φ1 := IsD (SA w S []) (strsD (ns))) (φ2 := Is (.string (name))) ent58 ((Has.loc rfl).dat D_v sub_all) (Has.loc rfl) (fun g u1 u2 W hk hgk h1 h2 => by have h2 : u2 = _ := h2; subst u2; exact index_ok (ns) (name) W _ _ h1)) ?_
  refine Chain.op (φ := Is (.bool (decide ((0 : Int) ≤ (idx name ns 0 : Int))))) (st_is _) (sp_geq (Has.loc rfl) Has.cst) ?_
  refine Chain.op (φ := Is (.bool (decide ((0 : Int) ≤ (idx name ns 0 : Int))))) (st_is _) (sp_assign (Has.loc rfl)) ?_
  refine Chain.done ⟨by kernel_rfl, fun a4 g W4 hsz4 hdf4 hk hg henv hrest hpsi => ?_⟩
  obtain ⟨e4, -, -, -, -, -⟩ := henv
  replace D_v := D_v.ext hk
  have e4 : sl a4 4 = (.bool (decide ((0 : Int) ≤ (idx name ns 0 : Int)))) := e4
  replace kw := kw.trans (.of_ext hk)
  clear hrest hk hg hpsi
  refine tail_nil (hK3 _ _ ?_)
  refine wp_ret ?_
  refine (show bodyPost Try.prog Try.f39 _ .ret _ _ from ret1 rfl hdf4 e4 ⟨_, rfl, kw, ?_⟩)
  rw [idx_mem]

set_option maxRecDepth 100000 in
theorem hasA_ok (au : Au) (name : ByteArray) (w : World) (S : BSet) (v : Value) (hv : Rd w S au.d v) : Calls Try.prog 20 #[v, .string name] w (Ret w fun u _ => u = .bool (hasA au name)) := by
  obtain ⟨p0_1a, p0_1c, ev, D_p0_1⟩ := rdAu_out (rd_arg hv)
  subst ev
  refine enter Try.func20 rfl Try.ntmps20 (Nat.le_of_ble_eq_true rfl) fun a0 hsz0 hdf0 harg => ?_
  have e0 : sl a0 0 = (.agg #[(.int .i64 (au.th)), (.slice p0_1a (au.ids.length) p0_1c)]) := harg 0 (Nat.le_of_ble_eq_true rfl)
  have e1 : sl a0 1 = (.string (name)) := harg 1 (Nat.le_of_ble_eq_true rfl)
  have kw := Keeps.refl All w
  clear harg
  refine wp_seq_k fun K1 hK1 => ?_
  refine wp_reg All mixed hsz0 hdf0 st_tr trivial ?_
  refine Chain.boxOp (v := (.agg #[(.int .i64 (au.th)), (.slice p0_1a (au.ids.length) p0_1c)])) (Has.base rfl e0) ?_
  refine Chain.op (φ := Is (.bool (false))) (st_is _) (sp_assign Has.cst) ?_
  refine Chain.done ⟨by kernel_rfl, fun a2 g W2 hsz2 hdf2 hk hg henv hrest hpsi => ?_⟩
  obtain ⟨-, ⟨b2_2, e2, hb2, own_b2_2⟩, -⟩ := henv
  have lo_b2_2 : w.heap.size ≤ b2_2 := Nat.le_trans kw.size (hg.lo _ _ hb2)
  have own_b2_2 : Own W2 b2_2 [(.int .i64 (au.th)), (.slice p0_1a (au.ids.length) p0_1c)] 27 := own_b2_2
  replace e1 := (hrest 1 rfl).trans e1
  replace D_p0_1 := sa_more D_p0_1 hk [b2_2] (in_cons (hg.lo _ _ hb2) in_nil)
  replace kw := kw.trans (.of_ext hk)
  clear hrest hk hg hpsi hb2
  refine tail_nil (hK1 _ _ ?_)
  refine wp_seq_k fun K3 hK3 => ?_
  refine wp_reg All mixed hsz2 hdf2 st_tr trivial ?_
  refine Chain.op (φ := Is (.pointer (some ⟨b2_2, 1, none⟩))) (st_is _) (sp_fieldO (Has.base rfl e2) Try.underlying27 rfl sz23 rfl) ?_
  refine Chain.op (φ := Is (.slice p0_1a (au.ids.length) p0_1c)) (st_is _) (sp_loadO (v := (.slice p0_1a (au.ids.length) p0_1c)) (Has.loc rfl) own_b2_2 trivial agg23 sz23 (Nat.le_of_ble_eq_true rfl) (fun h => by first | rfl | cases h) rfl) ?_
  refine Chain.op (φ := Is (.string (name))) (st_is _) (sp_move (Has.base rfl e1)) ?_
  refine Chain.op (φ := Is (.bool (memB name au.ids))) (st_is _) (sp_call2 (φ1 := IsD (SA w S [b2_2]) (strsD (au.ids))) (φ2 := Is (.string (name))) ent39 ((Has.loc rfl).dat D_p0_1 sub_all) (Has.loc rfl) (fun g u1 u2 W hk hgk h1 h2 => by have h2 : u2 = _ := h2; subst u2; exact contains_ok (au.ids) (name) W _ _ h1)) ?_
  refine Chain.op (φ := Is (.bool (memB name au.ids))) (st_is _) (sp_assign (Has.loc rfl)) ?_
  refine Chain.done ⟨by kernel_rfl, fun a4 g W4 hsz4 hdf4 hk hg henv hrest hpsi => ?_⟩
  obtain ⟨e4, -, -, -, -, -⟩ := henv
  replace D_p0_1 := D_p0_1.ext hk
  have e4 : sl a4 4 = (.bool (memB name au.ids)) := e4
  replace own_b2_2 := own_b2_2.ext hk
  replace kw := kw.trans (.of_ext hk)
  clear hrest hk hg hpsi
  refine tail_nil (hK3 _ _ ?_)
  refine wp_ret ?_
  refine (show bodyPost Try.prog Try.f20 _ .ret _ _ from ret1 rfl hdf4 e4 ⟨_, rfl, kw, ?_⟩)
  exact rfl

set_option maxRecDepth 100000 in
theorem refSameA_ok (au bu : Au) (w : World) (S : BSet) (v u : Value) (hv : Rd w S au.d v) (hu : Rd w S bu.d u) : Calls Try.prog 15 #[v, u] w (Ret w fun u _ => u = .bool (sameA au bu)) := by
  obtain ⟨p0_1a, p0_1c, ev, D_p0_1⟩ := rdAu_out (rd_arg hv)
  subst ev
  obtain ⟨p1_1a, p1_1c, ev, D_p1_1⟩ := rdAu_out (rd_arg hu)
  subst ev
  refine enter Try.func15 rfl Try.ntmps15 (Nat.le_of_ble_eq_true rfl) fun a0 hsz0 hdf0 harg => ?_
  have e0 : sl a0 0 = (.agg #[(.int .i64 (au.th)), (.slice p0_1a (au.ids.length) p0_1c)]) := harg 0 (Nat.le_of_ble_eq_true rfl)
  have e1 : sl a0 1 = (.agg #[(.int .i64 (bu.th)), (.slice p1_1a (bu.ids.length) p1_1c)]) := harg 1 (Nat.le_of_ble_eq_true rfl)
  have kw := Keeps.refl All w
  clear harg
  refine wp_seq_k fun K1 hK1 => ?_
  refine wp_reg All mixed hsz0 hdf0 st_tr trivial ?_
  refine Chain.boxOp (v := (.agg #[(.int .i64 (au.th)), (.slice p0_1a (au.ids.length) p0_1c)])) (Has.base rfl e0) ?_
  refine Chain.boxOp (v := (.agg #[(.int .i64 (bu.th)), (.slice p1_1a (bu.ids.length) p1_1c)])) (Has.base rfl e1) ?_
  refine Chain.op (φ := Is (.bool (false))) (st_is _) (sp_assign Has.cst) ?_
  refine Chain.done ⟨by kernel_rfl, fun a2 g W2 hsz2 hdf2 hk hg henv hrest hpsi => ?_⟩
  obtain ⟨-, ⟨b3_2, e3, hb3, own_b3_2⟩, ⟨b2_2, e2, hb2, own_b2_2⟩, -⟩ := henv
  have lo_b3_2 : w.heap.size ≤ b3_2 := Nat.le_trans kw.size (hg.lo _ _ hb3)
  have own_b3_2 : Own W2 b3_2 [(.int .i64 (bu.th)), (.slice p1_1a (bu.ids.length) p1_1c)] 27 := own_b3_2
  have lo_b2_2 : w.heap.size ≤ b2_2 := Nat.le_trans kw.size (hg.lo _ _ hb2)
  have own_b2_2 : Own W2 b2_2 [(.int .i64 (au.th)), (.slice p0_1a (au.ids.length) p0_1c)] 27 := own_b2_2
  have ne_b3_2_b2_2 : b3_2 ≠ b2_2 := fun h => by have := hg.inj _ _ _ hb3 (h ▸ hb2); cases this
  replace D_p0_1 := sa_more D_p0_1 hk [b3_2, b2_2] (in_cons (hg.lo _ _ hb3) (in_cons (hg.lo _ _ hb2) in_nil))
  replace D_p1_1 := sa_more D_p1_1 hk [b3_2, b2_2] (in_cons (hg.lo _ _ hb3) (in_cons (hg.lo _ _ hb2) in_nil))
  replace kw := kw.trans (.of_ext hk)
  clear hrest hk hg hpsi hb3 hb2
  refine tail_nil (hK1 _ _ ?_)
  refine wp_seq_k fun K3 hK3 => ?_
  refine wp_seq_k fun K4 hK4 => ?_
  refine wp_reg All mixed hsz2 hdf2 st_tr trivial ?_
  refine Chain.op (φ := Is (.pointer (some ⟨b2_2, 0, none⟩))) (st_is _) (sp_fieldO (Has.base rfl e2) Try.underlying27 rfl sz3 rfl) ?_
  refine Chain.op (φ := Is (.int .i64 (au.th))) (st_is _) (sp_loadO (v := (.int .i64 (au.th))) (Has.loc rfl) own_b2_2 trivial agg3 sz3 (Nat.le_of_ble_eq_true rfl) (fun h => by first | rfl | cases h) rfl) ?_
  refine Chain.op (φ := Is (.pointer (some ⟨b3_2, 0, none⟩))) (st_is _) (sp_fieldO (Has.base rfl e3) Try.underlying27 rfl sz3 rfl) ?_
  refine Chain.op (φ := Is (.int .i64 (bu.th))) (st_is _) (sp_loadO (v := (.int .i64 (bu.th))) (Has.loc rfl) own_b3_2 trivial agg3 sz3 (Nat.le_of_ble_eq_true rfl) (fun h => by first | rfl | cases h) rfl) ?_
  refine Chain.op (φ := Is (.bool ((au.th : Int) != (bu.th : Int)))) (st_is _) (sp_neq (Has.loc rfl) (Has.loc rfl)) ?_
  refine Chain.op (φ := Is (.bool ((au.th : Int) != (bu.th : Int)))) (st_is _) (sp_move (Has.loc rfl)) ?_
  refine Chain.opE (t := 11) (x := (au.th : Int) != (bu.th : Int)) (φ := Is (.pointer (some ⟨b2_2, 1, none⟩))) rfl (Has.loc rfl) (st_is _) (fun hg => sp_fieldO (Has.base rfl e2) Try.underlying27 rfl sz23 rfl) ?_
  refine Chain.opE (t := 11) (x := (au.th : Int) != (bu.th : Int)) (φ := Is (.slice p0_1a (au.ids.length) p0_1c)) rfl (Has.loc rfl) (st_is _) (fun hg => sp_loadO (v := (.slice p0_1a (au.ids.length) p0_1c)) ((Has.loc rfl).undE hg) own_b2_2 trivial agg23 sz23 (Nat.le_of_ble_eq_true rfl) (fun h => by first | rfl | cases h) rfl) ?_
  refine Chain.opE (t := 11) (x := (au.th : Int) != (bu.th : Int)) (φ := Is (.int .i64 (au.ids.length))) rfl (Has.loc rfl) (st_is _) (fun hg => sp_lenSs Try.underlying23 (((Has.loc rfl).undE hg).dat D_p0_1 sub_all)) ?_
  refine Chain.opE (t := 11) (x := (au.th : Int) != (bu.th : Int)) (φ := Is (.pointer (some ⟨b3_2, 1, none⟩))) rfl (Has.loc rfl) (st_is _) (fun hg => sp_fieldO (Has.base rfl e3) Try.underlying27 rfl sz23 rfl) ?_
  refine Chain.opE (t := 11) (x := (au.th : Int) != (bu.th : Int)) (φ := Is (.slice p1_1a (bu.ids.length) p1_1c)) rfl (Has.loc rfl) (st_is _) (fun hg => sp_loadO (v := (.slice p1_1a (bu.ids.length) p1_1c)) ((Has.loc rfl).undE hg) own_b3_2 trivial agg23 sz23 (Nat.le_of_ble_eq_true rfl) (fun h => by first | rfl | cases h) rfl) ?_
  refine Chain.opE (t := 11) (x := (au.th : Int) != (bu.th : Int)) (φ := Is (.int .i64 (bu.ids.length))) rfl (Has.loc rfl) (st_is _) (fun hg => sp_lenSs Try.underlying23 (((Has.loc rfl).undE hg).dat D_p1_1 sub_all)) ?_
  refine Chain.opE (t := 11) (x := (au.th : Int) != (bu.th : Int)) (φ := Is (.bool ((au.ids.length : Int) != (bu.ids.length : Int)))) rfl (Has.loc rfl) (st_is _) (fun hg => sp_neq ((Has.loc rfl).undE hg) ((Has.loc rfl).undE hg)) ?_
  refine Chain.op (φ := Is (.bool (((au.th : Int) != (bu.th : Int)) || ((au.ids.length : Int) != (bu.ids.length : Int))))) (st_is _) (sp_or (Has.loc rfl) ((Has.loc rfl).weak fun hq => hq)) ?_
  refine Chain.done ⟨by kernel_rfl, fun a5 g W5 hsz5 hdf5 hk hg henv hrest hpsi => ?_⟩
  obtain ⟨e19, -, -, -, -, -, -, -, -, -, -, -, -, -, -⟩ := henv
  replace e3 := (hrest 3 rfl).trans e3
  replace e2 := (hrest 2 rfl).trans e2
  replace D_p0_1 := D_p0_1.ext hk
  replace D_p1_1 := D_p1_1.ext hk
  have e19 : sl a5 19 = (.bool (((au.th : Int) != (bu.th : Int)) || ((au.ids.length : Int) != (bu.ids.length : Int)))) := e19
  replace own_b3_2 := own_b3_2.ext hk
  replace own_b2_2 := own_b2_2.ext hk
  replace kw := kw.trans (.of_ext hk)
  clear hrest hk hg hpsi
  refine tail_nil (hK4 _ _ ?_)
  refine wp_cond_split e19 (fun hc => ?_) (fun hc => ?_)
  · -- T: ((au.th : Int) != (bu.th : Int)) || ((au.ids.length : Int) != (bu.ids.length : I
    have hfin : sameA au bu = false := by cases hq : sameA au bu with | false => rfl | true => have := (sameA_iff au bu).1 hq; subst this; simp at hc
    refine wp_seq_k fun K6 hK6 => ?_
    refine wp_reg All mixed hsz5 hdf5 st_tr trivial ?_
    refine Chain.op (φ := Is (.bool (false))) (st_is _) (sp_assign Has.cst) ?_
    refine Chain.done ⟨by kernel_rfl, fun a7 g W7 hsz7 hdf7 hk hg henv hrest hpsi => ?_⟩
    obtain ⟨e4, -⟩ := henv
    replace D_p0_1 := D_p0_1.ext hk
    replace D_p1_1 := D_p1_1.ext hk
    have e4 : sl a7 4 = (.bool (false)) := e4
    replace own_b3_2 := own_b3_2.ext hk
    replace own_b2_2 := own_b2_2.ext hk
    replace kw := kw.trans (.of_ext hk)
    clear hrest hk hg hpsi
    refine tail_nil (hK6 _ _ ?_)
    refine wp_ret ?_
    refine (show bodyPost Try.prog Try.f15 _ .ret _ _ from ret1 rfl hdf7 e4 ⟨_, rfl, kw, ?_⟩)
    rw [hfin]
  · -- E: ((au.th : Int) != (bu.th : Int)) || ((au.ids.length : Int) != (bu.ids.length : I
    simp at hc
    obtain ⟨q1, q2⟩ := hc
    have hl1 := rd_lenS D_p0_1
    simp only [maxLen] at hl1
    refine wp_skip (hK3 _ _ ?_)
    refine wp_seq_k fun K8 hK8 => ?_
    refine wp_seq_k fun K9 hK9 => ?_
    refine wp_reg All mixed hsz5 hdf5 st_tr trivial ?_
    refine Chain.op (φ := Is (.int .i64 (0))) (st_is _) (sp_assign Has.cst) ?_
    refine Chain.done ⟨by kernel_rfl, fun a10 g W10 hsz10 hdf10 hk hg henv hrest hpsi => ?_⟩
    obtain ⟨e5, -⟩ := henv
    replace e3 := (hrest 3 rfl).trans e3
    replace e2 := (hrest 2 rfl).trans e2
    replace D_p0_1 := D_p0_1.ext hk
    replace D_p1_1 := D_p1_1.ext hk
    have e5 : sl a10 5 = (.int .i64 (0)) := e5
    replace own_b3_2 := own_b3_2.ext hk
    replace own_b2_2 := own_b2_2.ext hk
    replace kw := kw.trans (.of_ext hk)
    clear hrest hk hg hpsi
    refine tail_nil (hK9 _ _ ?_)
    refine wp_block ?_
    refine wp_for (au.ids.length) (fun k a W => a.tmps.size = 38 ∧ a.defers = [] ∧ Keeps All w W ∧ sl a 2 = (.pointer (some ⟨b2_2, 0, none⟩)) ∧ sl a 3 = (.pointer (some ⟨b3_2, 0, none⟩)) ∧ sl a 5 = (.int .i64 ((k : Nat))) ∧ Own W b3_2 [(.int .i64 (bu.th)), (.slice p1_1a (bu.ids.length) p1_1c)] 27 ∧ Own W b2_2 [(.int .i64 (au.th)), (.slice p0_1a (au.ids.length) p0_1c)] 27 ∧ Rd W (SA w S [b3_2, b2_2]) (strsD (au.ids)) (.slice p0_1a (au.ids.length) p0_1c) ∧ Rd W (SA w S [b3_2, b2_2]) (strsD (bu.ids)) (.slice p1_1a (bu.ids.length) p1_1c) ∧ (∀ i (h1 : i < au.ids.length) (h2 : i < bu.ids.length), i < k → au.ids[i] = bu.ids[i])) ⟨hsz10, hdf10, kw, e2, e3, (e5.trans (congrArg (Value.int .i64) (rfl))), own_b3_2, own_b2_2, D_p0_1, D_p1_1, fun i h1 h2 hi => absurd hi (by omega)⟩ ?_
    clear kw e2 e3 e5 own_b3_2 own_b2_2 D_p0_1 D_p1_1
    rintro k a11 W11 hkk ⟨hsz11, hdf11, kw, e2, e3, e5, own_b3_2, own_b2_2, D_p0_1, D_p1_1, hinv⟩
    refine wp_seq_k fun K12 hK12 => ?_
    refine wp_seq_k fun K13 hK13 => ?_
    refine wp_reg All mixed hsz11 hdf11 st_tr trivial ?_
    refine Chain.op (φ := Is (.int .i64 ((k : Nat)))) (st_is _) (sp_move (Has.base rfl e5)) ?_
    refine Chain.op (φ := Is (.pointer (some ⟨b2_2, 1, none⟩))) (st_is _) (sp_fieldO (Has.base rfl e2) Try.underlying27 rfl sz23 rfl) ?_
    refine Chain.op (φ := Is (.slice p0_1a (au.ids.length) p0_1c)) (st_is _) (sp_loadO (v := (.slice p0_1a (au.ids.length) p0_1c)) (Has.loc rfl) own_b2_2 trivial agg23 sz23 (Nat.le_of_ble_eq_true rfl) (fun h => by first | rfl | cases h) rfl) ?_
    refine Chain.op (φ := Is (.int .i64 (au.ids.length))) (st_is _) (sp_lenSs Try.underlying23 ((Has.loc rfl).dat D_p0_1 sub_all)) ?_
    refine Chain.op (φ := Is (.bool (decide (((k : Nat) : Int) < (au.ids.length : Int))))) (st_is _) (sp_lss (Has.loc rfl) (Has.loc rfl)) ?_
    refine Chain.done ⟨by kernel_rfl, fun a14 g W14 hsz14 hdf14 hk hg henv hrest hpsi => ?_⟩
    obtain ⟨e24, -, -, -, -, -⟩ := henv
    replace e3 := (hrest 3 rfl).trans e3
    replace e2 := (hrest 2 rfl).trans e2
    replace e5 := (hrest 5 rfl).trans e5
    replace D_p0_1 := D_p0_1.ext hk
    replace D_p1_1 := D_p1_1.ext hk
    have e24 : sl a14 24 = (.bool (decide (((k : Nat) : Int) < (au.ids.length : Int)))) := e24
    replace own_b3_2 := own_b3_2.ext hk
    replace own_b2_2 := own_b2_2.ext hk
    replace kw := kw.trans (.of_ext hk)
    clear hrest hk hg hpsi
    refine tail_nil (hK13 _ _ ?_)
    refine wp_cond_split e24 (fun hc => ?_) (fun hc => ?_)
    · -- T: decide (((k : Nat) : Int) < (au.ids.length : Int))
      have hlt : k < au.ids.length := by simpa using hc
      refine wp_skip (hK12 _ _ ?_)
      refine wp_seq_k fun K15 hK15 => ?_
      refine wp_block ?_
      refine wp_seq_k fun K16 hK16 => ?_
      refine wp_reg All mixed hsz14 hdf14 st_tr trivial ?_
      refine Chain.op (φ := Is (.pointer (some ⟨b2_2, 1, none⟩))) (st_is _) (sp_fieldO (Has.base rfl e2) Try.underlying27 rfl sz23 rfl) ?_
      refine Chain.op (φ := Is (.slice p0_1a (au.ids.length) p0_1c)) (st_is _) (sp_loadO (v := (.slice p0_1a (au.ids.length) p0_1c)) (Has.loc rfl) own_b2_2 trivial agg23 sz23 (Nat.le_of_ble_eq_true rfl) (fun h => by first | rfl | cases h) rfl) ?_
      refine Chain.op (φ := Is (.int .i64 ((k : Nat)))) (st_is _) (sp_move (Has.base rfl e5)) ?_
      refine Chain.op (φ := IsR (SA w S [b3_2, b2_2]) (D.str (au.ids[k]'hlt))) (st_r sub_all) (sp_indexS (i := k) ((Has.loc rfl).dat D_p0_1 sub_all) (Has.loc rfl) Try.underlying23 sz9 rfl hlt) ?_
      refine Chain.op (φ := Is (.string (au.ids[k]'hlt))) (st_is _) (sp_loadStr (Has.loc rfl) agg9 sz9) ?_
      refine Chain.op (φ := Is (.pointer (some ⟨b3_2, 1, none⟩))) (st_is _) (sp_fieldO (Has.base rfl e3) Try.underlying27 rfl sz23 rfl) ?_
      refine Chain.op (φ := Is (.slice p1_1a (bu.ids.length) p1_1c)) (st_is _) (sp_loadO (v := (.slice p1_1a (bu.ids.length) p1_1c)) (Has.loc rfl) own_b3_2 trivial agg23 sz23 (Nat.le_of_ble_eq_true rfl) (fun h => by first | rfl | cases h) rfl) ?_
      refine Chain.op (φ := Is (.int .i64 ((k : Nat)))) (st_is _) (sp_move (Has.base rfl e5)) ?_
      refine Chain.op (φ := IsR (SA w S [b3_2, b2_2]) (D.str (bu.ids[k]'(by omega)))) (st_r sub_all) (sp_indexS (i := k) ((Has.loc rfl).dat D_p1_1 sub_all) (Has.loc rfl) Try.underlying23 sz9 rfl (by omega)) ?_
      refine Chain.op (φ := Is (.string (bu.ids[k]'(by omega)))) (st_is _) (sp_loadStr (Has.loc rfl) agg9 sz9) ?_
      refine Chain.op (φ := Is (.bool (!decide ((au.ids[k]'hlt) = (bu.ids[k]'(by omega)))))) (st_is _) (sp_sNeq (Has.loc rfl) (Has.loc rfl)) ?_
      refine Chain.done ⟨by kernel_rfl, fun a17 g W17 hsz17 hdf17 hk hg henv hrest hpsi => ?_⟩
      obtain ⟨e37, -, -, -, -, -, -, -, -, -, -, -⟩ := henv
      replace e3 := (hrest 3 rfl).trans e3
      replace e2 := (hrest 2 rfl).trans e2
      replace e5 := (hrest 5 rfl).trans e5
      replace D_p0_1 := D_p0_1.ext hk
      replace D_p1_1 := D_p1_1.ext hk
      have e37 : sl a17 37 = (.bool (!decide ((au.ids[k]'hlt) = (bu.ids[k]'(by omega))))) := e37
      replace own_b3_2 := own_b3_2.ext hk
      replace own_b2_2 := own_b2_2.ext hk
      replace kw := kw.trans (.of_ext hk)
      clear hrest hk hg hpsi
      refine tail_nil (hK16 _ _ ?_)
      refine wp_cond_split e37 (fun hc => ?_) (fun hc => ?_)
      · -- T: !decide ((au.ids[k]'hlt) = (bu.ids[k]'(by omega)))
        have hfin : sameA au bu = false := by cases hq : sameA au bu with | false => rfl | true => have := (sameA_iff au bu).1 hq; subst this; simp at hc
        refine wp_seq_k fun K18 hK18 => ?_
        refine wp_reg All mixed hsz17 hdf17 st_tr trivial ?_
        refine Chain.op (φ := Is (.bool (false))) (st_is _) (sp_assign Has.cst) ?_
        refine Chain.done ⟨by kernel_rfl, fun a19 g W19 hsz19 hdf19 hk hg henv hrest hpsi => ?_⟩
        obtain ⟨e4, -⟩ := henv
        replace D_p0_1 := D_p0_1.ext hk
        replace D_p1_1 := D_p1_1.ext hk
        have e4 : sl a19 4 = (.bool (false)) := e4
        replace own_b3_2 := own_b3_2.ext hk
        replace own_b2_2 := own_b2_2.ext hk
        replace kw := kw.trans (.of_ext hk)
        clear hrest hk hg hpsi
        refine tail_nil (hK18 _ _ ?_)
        refine wp_ret ?_
        refine (show bodyPost Try.prog Try.f15 _ .ret _ _ from ret1 rfl hdf19 e4 ⟨_, rfl, kw, ?_⟩)
        rw [hfin]
      · -- E: !decide ((au.ids[k]'hlt) = (bu.ids[k]'(by omega)))
        have hk1 : au.ids[k] = bu.ids[k] := by simpa using hc
        refine wp_skip (hK15 _ _ ?_)
        refine wp_reg All mixed hsz17 hdf17 st_tr trivial ?_
        refine Chain.op (φ := Is (.int .i64 ((k : Nat)))) (st_is _) (sp_move (Has.base rfl e5)) ?_
        refine Chain.op (φ := Is (.int .i64 (((k : Nat) : Int) + (1 : Int)))) (st_is _) (sp_add (Has.loc rfl) Has.cst (i64_in (by omega))) ?_
        refine Chain.op (φ := Is (.int .i64 (((k : Nat) : Int) + (1 : Int)))) (st_is _) (sp_assign (Has.loc rfl)) ?_
        refine Chain.done ⟨by kernel_rfl, fun a20 g W20 hsz20 hdf20 hk hg henv hrest hpsi => ?_⟩
        obtain ⟨e5, -, -, -⟩ := henv
        replace e3 := (hrest 3 rfl).trans e3
        replace e2 := (hrest 2 rfl).trans e2
        replace D_p0_1 := D_p0_1.ext hk
        replace D_p1_1 := D_p1_1.ext hk
        have e5 : sl a20 5 = (.int .i64 (((k : Nat) : Int) + (1 : Int))) := e5
        replace own_b3_2 := own_b3_2.ext hk
        replace own_b2_2 := own_b2_2.ext hk
        replace kw := kw.trans (.of_ext hk)
        clear hrest hk hg hpsi
        exact tail_nil ⟨hlt, hsz20, hdf20, kw, e2, e3, (e5.trans (congrArg (Value.int .i64) (by simp))), own_b3_2, own_b2_2, D_p0_1, D_p1_1, fun i h1 h2 hi => by rcases Nat.lt_succ_iff_lt_or_eq.1 hi with h | h; exact hinv i h1 h2 h; subst h; exact hk1⟩
    · -- E: decide (((k : Nat) : Int) < (au.ids.length : Int))
      have hge0 : ¬ k < au.ids.length := by simpa using hc
      have hge : k = au.ids.length := by omega
      have hfin : sameA au bu = true := (sameA_iff au bu).2 (Au.ext' q1 (List.ext_getElem (by omega) fun i h1 h2 => hinv i h1 h2 (by omega)))
      refine wp_exit (hK8 _ _ ?_)
      refine wp_seq_k fun K21 hK21 => ?_
      refine wp_reg All mixed hsz14 hdf14 st_tr trivial ?_
      refine Chain.op (φ := Is (.bool (true))) (st_is _) (sp_assign Has.cst) ?_
      refine Chain.done ⟨by kernel_rfl, fun a22 g W22 hsz22 hdf22 hk hg henv hrest hpsi => ?_⟩
      obtain ⟨e4, -⟩ := henv
      replace D_p0_1 := D_p0_1.ext hk
      replace D_p1_1 := D_p1_1.ext hk
      have e4 : sl a22 4 = (.bool (true)) := e4
      replace own_b3_2 := own_b3_2.ext hk
      replace own_b2_2 := own_b2_2.ext hk
      replace kw := kw.trans (.of_ext hk)
      clear hrest hk hg hpsi
      refine tail_nil (hK21 _ _ ?_)
      refine wp_ret ?_
      refine (show bodyPost Try.prog Try.f15 _ .ret _ _ from ret1 rfl hdf22 e4 ⟨_, rfl, kw, ?_⟩)
      rw [hfin]

end Go.Proofs.Ytipdogbeoflkoaa
