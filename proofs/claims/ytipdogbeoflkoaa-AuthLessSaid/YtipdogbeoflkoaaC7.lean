import Derived.Test.YtipdogbeoflkoaaC6
import Derived.Test.YtipdogbeoflkoaaEngI
import Derived.Test.YtipdogbeoflkoaaPureF
namespace Go.Proofs.Ytipdogbeoflkoaa
open Go.Eng
set_option maxRecDepth 100000 in
theorem search_ok (n : Nat) (hn : n ≤ 1073741824) (fi : FuncId) (cb : Array Value) (p : Nat → Bool) (w : World) (ef : Enters Try.prog fi) (hf : ∀ W, Ext w W → ∀ i, i < n → Calls Try.prog fi (#[.int .i64 i] ++ cb) W (Ret W fun u _ => u = .bool (p i))) :
    Calls Try.prog 88 #[.int .i64 n, .func (.func fi) #[] cb] w (Ret w fun u _ => ∃ m : Nat, u = .int .i64 m ∧ m ≤ n ∧ (m = 0 ∨ p (m - 1) = false) ∧ (m = n ∨ p m = true)) := by
  refine enter Try.func88 rfl Try.ntmps88 (Nat.le_of_ble_eq_true rfl) fun a0 hsz0 hdf0 harg => ?_
  have e0 : sl a0 0 = (.int .i64 ((n : Nat))) := harg 0 (Nat.le_of_ble_eq_true rfl)
  have e1 : sl a0 1 = (.func (.func fi) #[] cb) := harg 1 (Nat.le_of_ble_eq_true rfl)
  have kw := Keeps.refl All w
  clear harg
  refine wp_seq_k fun K1 hK1 => ?_
  refine wp_reg All mixed hsz0 hdf0 st_tr trivial ?_
  refine Chain.op (φ := Is (.int .i64 (0))) (st_is _) (sp_assign Has.cst) ?_
  refine Chain.done ⟨by kernel_rfl, fun a2 g W2 hsz2 hdf2 hk hg henv hrest hpsi => ?_⟩
  obtain ⟨-, -⟩ := henv
  replace e0 := (hrest 0 rfl).trans e0
  replace e1 := (hrest 1 rfl).trans e1
  replace kw := kw.trans (.of_ext hk)
  clear hrest hk hg hpsi
  refine tail_nil (hK1 _ _ ?_)
  refine wp_seq_k fun K3 hK3 => ?_
  refine wp_reg All mixed hsz2 hdf2 st_tr trivial ?_
  refine Chain.op (φ := Is (.int .i64 ((n : Nat)))) (st_is _) (sp_move (Has.base rfl e0)) ?_
  refine Chain.op (φ := Is (.int .i64 (0))) (st_is _) (sp_assign Has.cst) ?_
  refine Chain.op (φ := Is (.int .i64 ((n : Nat)))) (st_is _) (sp_assign (Has.loc rfl)) ?_
  refine Chain.done ⟨by kernel_rfl, fun a4 g W4 hsz4 hdf4 hk hg henv hrest hpsi => ?_⟩
  obtain ⟨e6, e5, -, -⟩ := henv
  replace e1 := (hrest 1 rfl).trans e1
  have e5 : sl a4 5 = (.int .i64 (0)) := e5
  have e6 : sl a4 6 = (.int .i64 ((n : Nat))) := e6
  replace kw := kw.trans (.of_ext hk)
  clear hrest hk hg hpsi
  refine tail_nil (hK3 _ _ ?_)
  refine wp_seq_k fun K5 hK5 => ?_
  refine wp_block ?_
  refine wp_for (n) (fun k a W => ∃ (lo : Nat), ∃ (hi : Nat), a.tmps.size = 26 ∧ a.defers = [] ∧ Keeps All w W ∧ sl a 1 = (.func (.func fi) #[] cb) ∧ sl a 5 = (.int .i64 ((lo : Nat))) ∧ sl a 6 = (.int .i64 ((hi : Nat))) ∧ (lo ≤ hi ∧ hi ≤ n ∧ k + (hi - lo) ≤ n) ∧ ((lo = 0 ∨ p (lo - 1) = false)) ∧ ((hi = n ∨ p hi = true))) ⟨0, n, hsz4, hdf4, kw, e1, (e5.trans (congrArg (Value.int .i64) (rfl))), (e6.trans (congrArg (Value.int .i64) (rfl))), by omega, .inl rfl, .inl rfl⟩ ?_
  clear kw e1 e5 e6
  rintro k a6 W6 hkk ⟨lo, hi, hsz6, hdf6, kw, e1, e5, e6, hlh, hp1, hp2⟩
  refine wp_seq_k fun K7 hK7 => ?_
  refine wp_seq_k fun K8 hK8 => ?_
  refine wp_reg All mixed hsz6 hdf6 st_tr trivial ?_
  refine Chain.op (φ := Is (.int .i64 ((lo : Nat)))) (st_is _) (sp_move (Has.base rfl e5)) ?_
  refine Chain.op (φ := Is (.int .i64 ((hi : Nat)))) (st_is _) (sp_move (Has.base rfl e6)) ?_
  refine Chain.op (φ := Is (.bool (decide (((lo : Nat) : Int) < ((hi : Nat) : Int))))) (st_is _) (sp_lss (Has.loc rfl) (Has.loc rfl)) ?_
  refine Chain.done ⟨by kernel_rfl, fun a9 g W9 hsz9 hdf9 hk hg henv hrest hpsi => ?_⟩
  obtain ⟨e11, -, -, -⟩ := henv
  replace e1 := (hrest 1 rfl).trans e1
  replace e5 := (hrest 5 rfl).trans e5
  replace e6 := (hrest 6 rfl).trans e6
  have e11 : sl a9 11 = (.bool (decide (((lo : Nat) : Int) < ((hi : Nat) : Int)))) := e11
  replace kw := kw.trans (.of_ext hk)
  clear hrest hk hg hpsi
  refine tail_nil (hK8 _ _ ?_)
  refine wp_cond_split e11 (fun hc => ?_) (fun hc => ?_)
  · -- T: decide (((lo : Nat) : Int) < ((hi : Nat) : Int))
    have hlt : lo < hi := by have := of_decide_eq_true hc; omega
    refine wp_skip (hK7 _ _ ?_)
    refine wp_block ?_
    refine wp_seq_k fun K10 hK10 => ?_
    refine wp_reg All mixed hsz9 hdf9 st_tr trivial ?_
    refine Chain.op (φ := Is (.int .i64 ((lo : Nat)))) (st_is _) (sp_move (Has.base rfl e5)) ?_
    refine Chain.op (φ := Is (.int .i64 ((hi : Nat)))) (st_is _) (sp_move (Has.base rfl e6)) ?_
    refine Chain.op (φ := Is (.int .i64 (((lo : Nat) : Int) + ((hi : Nat) : Int)))) (st_is _) (sp_add (Has.loc rfl) (Has.loc rfl) (i64_in (by omega))) ?_
    refine Chain.op (φ := Is (.int .u64 (((lo : Nat) : Int) + ((hi : Nat) : Int)))) (st_is _) (sp_conv Try.underlying3 Try.underlying47 (Has.loc rfl) (u64_in (by omega))) ?_
    refine Chain.op (φ := Is (.int .u64 ((((lo : Nat) : Int) + ((hi : Nat) : Int) : Int) / 2))) (st_is _) (sp_shr1 (Has.loc rfl)) ?_
    refine Chain.op (φ := Is (.int .i64 ((((lo : Nat) : Int) + ((hi : Nat) : Int) : Int) / 2))) (st_is _) (sp_conv Try.underlying47 Try.underlying3 (Has.loc rfl) (i64_in (by omega))) ?_
    refine Chain.op (φ := Is (.int .i64 ((((lo : Nat) : Int) + ((hi : Nat) : Int) : Int) / 2))) (st_is _) (sp_assign (Has.loc rfl)) ?_
    refine Chain.done ⟨by kernel_rfl, fun a11 g W11 hsz11 hdf11 hk hg henv hrest hpsi => ?_⟩
    obtain ⟨e7, -, -, -, -, -, -, -⟩ := henv
    replace e1 := (hrest 1 rfl).trans e1
    replace e5 := (hrest 5 rfl).trans e5
    replace e6 := (hrest 6 rfl).trans e6
    have e7 : sl a11 7 = (.int .i64 ((((lo : Nat) : Int) + ((hi : Nat) : Int) : Int) / 2)) := e7
    replace kw := kw.trans (.of_ext hk)
    clear hrest hk hg hpsi
    refine tail_nil (hK10 _ _ ?_)
    refine wp_seq_k fun K12 hK12 => ?_
    refine wp_reg All mixed hsz11 hdf11 st_tr trivial ?_
    refine Chain.op (φ := Is (.func (.func fi) #[] cb)) (st_is _) (sp_move (Has.base rfl e1)) ?_
    refine Chain.op (φ := Is (.int .i64 ((((lo : Nat) : Int) + ((hi : Nat) : Int) : Int) / 2))) (st_is _) (sp_move (Has.base rfl e7)) ?_
    refine Chain.op (φ := Is (.bool (p ((lo + hi) / 2)))) (st_is _) (sp_callF1 ef (Has.loc rfl) (Has.loc rfl) (fun g W hk hgk => by rw [show ((((lo : Nat) : Int) + ((hi : Nat) : Int) : Int) / 2 : Int) = (((lo + hi) / 2 : Nat) : Int) by omega]; exact hf W (kw.trans hk) _ (by omega))) ?_
    refine Chain.op (φ := Is (.bool (!(p ((lo + hi) / 2))))) (st_is _) (sp_not (Has.loc rfl)) ?_
    refine Chain.done ⟨by kernel_rfl, fun a13 g W13 hsz13 hdf13 hk hg henv hrest hpsi => ?_⟩
    obtain ⟨e21, -, -, -, -⟩ := henv
    replace e1 := (hrest 1 rfl).trans e1
    replace e5 := (hrest 5 rfl).trans e5
    replace e6 := (hrest 6 rfl).trans e6
    replace e7 := (hrest 7 rfl).trans e7
    have e21 : sl a13 21 = (.bool (!(p ((lo + hi) / 2)))) := e21
    replace kw := kw.trans (.of_ext hk)
    clear hrest hk hg hpsi
    refine tail_nil (hK12 _ _ ?_)
    refine wp_cond_split e21 (fun hc => ?_) (fun hc => ?_)
    · -- T: !(p ((lo + hi) / 2))
      have hpm : p ((lo + hi) / 2) = false := by simpa using hc
      refine wp_reg All mixed hsz13 hdf13 st_tr trivial ?_
      refine Chain.op (φ := Is (.int .i64 ((((lo : Nat) : Int) + ((hi : Nat) : Int) : Int) / 2))) (st_is _) (sp_move (Has.base rfl e7)) ?_
      refine Chain.op (φ := Is (.int .i64 (((((lo : Nat) : Int) + ((hi : Nat) : Int) : Int) / 2 : Int) + (1 : Int)))) (st_is _) (sp_add (Has.loc rfl) Has.cst (i64_in (by omega))) ?_
      refine Chain.op (φ := Is (.int .i64 (((((lo : Nat) : Int) + ((hi : Nat) : Int) : Int) / 2 : Int) + (1 : Int)))) (st_is _) (sp_assign (Has.loc rfl)) ?_
      refine Chain.done ⟨by kernel_rfl, fun a14 g W14 hsz14 hdf14 hk hg henv hrest hpsi => ?_⟩
      obtain ⟨e5, -, -, -⟩ := henv
      replace e1 := (hrest 1 rfl).trans e1
      replace e6 := (hrest 6 rfl).trans e6
      have e5 : sl a14 5 = (.int .i64 (((((lo : Nat) : Int) + ((hi : Nat) : Int) : Int) / 2 : Int) + (1 : Int))) := e5
      replace kw := kw.trans (.of_ext hk)
      clear hrest hk hg hpsi
      exact tail_nil ⟨by omega, ((lo + hi) / 2 + 1), hi, hsz14, hdf14, kw, e1, (e5.trans (congrArg (Value.int .i64) (by omega))), (e6.trans (congrArg (Value.int .i64) (by omega))), by omega, (by first | exact hp1 | exact .inr hpm), (by first | exact hp2 | exact .inr hpm)⟩
    · -- E: !(p ((lo + hi) / 2))
      have hpm : p ((lo + hi) / 2) = true := by simpa using hc
      refine wp_reg All mixed hsz13 hdf13 st_tr trivial ?_
      refine Chain.op (φ := Is (.int .i64 ((((lo : Nat) : Int) + ((hi : Nat) : Int) : Int) / 2))) (st_is _) (sp_move (Has.base rfl e7)) ?_
      refine Chain.op (φ := Is (.int .i64 ((((lo : Nat) : Int) + ((hi : Nat) : Int) : Int) / 2))) (st_is _) (sp_assign (Has.loc rfl)) ?_
      refine Chain.done ⟨by kernel_rfl, fun a15 g W15 hsz15 hdf15 hk hg henv hrest hpsi => ?_⟩
      obtain ⟨e6, -, -⟩ := henv
      replace e1 := (hrest 1 rfl).trans e1
      replace e5 := (hrest 5 rfl).trans e5
      have e6 : sl a15 6 = (.int .i64 ((((lo : Nat) : Int) + ((hi : Nat) : Int) : Int) / 2)) := e6
      replace kw := kw.trans (.of_ext hk)
      clear hrest hk hg hpsi
      exact tail_nil ⟨by omega, lo, ((lo + hi) / 2), hsz15, hdf15, kw, e1, (e5.trans (congrArg (Value.int .i64) (by omega))), (e6.trans (congrArg (Value.int .i64) (by omega))), by omega, (by first | exact hp1 | exact .inr hpm), (by first | exact hp2 | exact .inr hpm)⟩
  · -- E: decide (((lo : Nat) : Int) < ((hi : Nat) : Int))
    have hge : lo = hi := by have := of_decide_eq_false hc; omega
    subst hge
    refine wp_exit (hK5 _ _ ?_)
    refine wp_seq_k fun K16 hK16 => ?_
    refine wp_reg All mixed hsz9 hdf9 st_tr trivial ?_
    refine Chain.op (φ := Is (.int .i64 ((lo : Nat)))) (st_is _) (sp_move (Has.base rfl e5)) ?_
    refine Chain.op (φ := Is (.int .i64 ((lo : Nat)))) (st_is _) (sp_assign (Has.loc rfl)) ?_
    refine Chain.done ⟨by kernel_rfl, fun a17 g W17 hsz17 hdf17 hk hg henv hrest hpsi => ?_⟩
    obtain ⟨e4, -, -⟩ := henv
    have e4 : sl a17 4 = (.int .i64 ((lo : Nat))) := e4
    replace kw := kw.trans (.of_ext hk)
    clear hrest hk hg hpsi
    refine tail_nil (hK16 _ _ ?_)
    refine wp_ret ?_
    refine (show bodyPost Try.prog Try.f88 _ .ret _ _ from ret1 rfl hdf17 e4 ⟨_, rfl, kw, ?_⟩)
    exact ⟨_, rfl, hlh.2.1, hp1, hp2⟩

set_option maxRecDepth 100000 in
theorem index_ok (ns : List ByteArray) (name : ByteArray) (w : World) (S : BSet) (v : Value) (hv : Rd w S (strsD ns) v) : Calls Try.prog 58 #[v, .string name] w (Ret w fun u _ => u = .int .i64 (idx name ns 0)) := by
  have hmn : ns.length ≤ maxLen := rd_lenS hv
  simp only [maxLen] at hmn
  obtain ⟨va, vc, ev, D_v⟩ := rdS_out (rd_arg hv)
  subst ev
  refine enter Try.func58 rfl Try.ntmps58 (Nat.le_of_ble_eq_true rfl) fun a0 hsz0 hdf0 harg => ?_
  have e0 : sl a0 0 = (.slice va (ns.length) vc) := harg 0 (Nat.le_of_ble_eq_true rfl)
  have e1 : sl a0 1 = (.string (name)) := harg 1 (Nat.le_of_ble_eq_true rfl)
  have kw := Keeps.refl All w
  clear harg
  refine wp_seq_k fun K1 hK1 => ?_
  refine wp_reg All mixed hsz0 hdf0 st_tr trivial ?_
  refine Chain.op (φ := Is (.int .i64 (0))) (st_is _) (sp_assign Has.cst) ?_
  refine Chain.done ⟨by kernel_rfl, fun a2 g W2 hsz2 hdf2 hk hg henv hrest hpsi => ?_⟩
  obtain ⟨-, -⟩ := henv
  replace e0 := (hrest 0 rfl).trans e0
  replace e1 := (hrest 1 rfl).trans e1
  replace D_v := D_v.ext hk
  replace kw := kw.trans (.of_ext hk)
  clear hrest hk hg hpsi
  refine tail_nil (hK1 _ _ ?_)
  refine wp_seq_k fun K3 hK3 => ?_
  refine wp_seq_k fun K4 hK4 => ?_
  refine wp_reg All mixed hsz2 hdf2 st_tr trivial ?_
  refine Chain.op (φ := Is (.slice va (ns.length) vc)) (st_is _) (sp_move (Has.base rfl e0)) ?_
  refine Chain.op (φ := Is (.int .i64 (ns.length))) (st_is _) (sp_lenSs Try.underlying23 ((Has.loc rfl).dat D_v sub_all)) ?_
  refine Chain.op (φ := Is (.int .i64 (0))) (st_is _) (sp_move Has.cst) ?_
  refine Chain.done ⟨by kernel_rfl, fun a5 g W5 hsz5 hdf5 hk hg henv hrest hpsi => ?_⟩
  obtain ⟨e8, e7, -, -⟩ := henv
  replace e0 := (hrest 0 rfl).trans e0
  replace e1 := (hrest 1 rfl).trans e1
  replace D_v := D_v.ext hk
  have e7 : sl a5 7 = (.int .i64 (ns.length)) := e7
  have e8 : sl a5 8 = (.int .i64 (0)) := e8
  replace kw := kw.trans (.of_ext hk)
  clear hrest hk hg hpsi
  refine tail_nil (hK4 _ _ ?_)
  refine wp_block ?_
  refine wp_for (ns.length) (fun k a W => a.tmps.size = 19 ∧ a.defers = [] ∧ Keeps All w W ∧ sl a 0 = (.slice va (ns.length) vc) ∧ sl a 1 = (.string (name)) ∧ sl a 7 = (.int .i64 (ns.length)) ∧ sl a 8 = (.int .i64 ((k : Nat))) ∧ Rd W (SA w S []) (strsD (ns)) (.slice va (ns.length) vc) ∧ (idx name ns 0 = idx name (ns.drop k) k)) ⟨hsz5, hdf5, kw, e0, e1, e7, (e8.trans (congrArg (Value.int .i64) (rfl))), D_v, rfl⟩ ?_
  clear kw e0 e1 e7 e8 D_v
  rintro k a6 W6 hkk ⟨hsz6, hdf6, kw, e0, e1, e7, e8, D_v, hin⟩
  refine wp_seq_k fun K7 hK7 => ?_
  refine wp_reg All mixed hsz6 hdf6 st_tr trivial ?_
  refine Chain.op (φ := Is (.bool (decide (((k : Nat) : Int) < (ns.length : Int))))) (st_is _) (sp_lss (Has.base rfl e8) (Has.base rfl e7)) ?_
  refine Chain.done ⟨by kernel_rfl, fun a8 g W8 hsz8 hdf8 hk hg henv hrest hpsi => ?_⟩
  obtain ⟨e9, -⟩ := henv
  replace e0 := (hrest 0 rfl).trans e0
  replace e1 := (hrest 1 rfl).trans e1
  replace e7 := (hrest 7 rfl).trans e7
  replace e8 := (hrest 8 rfl).trans e8
  replace D_v := D_v.ext hk
  have e9 : sl a8 9 = (.bool (decide (((k : Nat) : Int) < (ns.length : Int)))) := e9
  replace kw := kw.trans (.of_ext hk)
  clear hrest hk hg hpsi
  refine tail_nil (hK7 _ _ ?_)
  refine wp_seq_k fun K9 hK9 => ?_
  refine wp_cond_split e9 (fun hc => ?_) (fun hc => ?_)
  · -- T: decide (((k : Nat) : Int) < (ns.length : Int))
    have hlt : k < ns.length := by simpa using hc
    rw [List.drop_eq_getElem_cons hlt, idx] at hin
    refine wp_skip (hK9 _ _ ?_)
    refine wp_seq_k fun K10 hK10 => ?_
    refine wp_block ?_
    refine wp_seq_k fun K11 hK11 => ?_
    refine wp_reg All mixed hsz8 hdf8 st_tr trivial ?_
    refine Chain.op (φ := Is (.int .i64 ((k : Nat)))) (st_is _) (sp_move (Has.base rfl e8)) ?_
    refine Chain.op (φ := Is (.int .i64 ((k : Nat)))) (st_is _) (sp_assign (Has.loc rfl)) ?_
    refine Chain.done ⟨by kernel_rfl, fun a12 g W12 hsz12 hdf12 hk hg henv hrest hpsi => ?_⟩
    obtain ⟨e5, -, -⟩ := henv
    replace e0 := (hrest 0 rfl).trans e0
    replace e1 := (hrest 1 rfl).trans e1
    replace e7 := (hrest 7 rfl).trans e7
    replace e8 := (hrest 8 rfl).trans e8
    replace D_v := D_v.ext hk
    have e5 : sl a12 5 = (.int .i64 ((k : Nat))) := e5
    replace kw := kw.trans (.of_ext hk)
    clear hrest hk hg hpsi
    refine tail_nil (hK11 _ _ ?_)
    refine wp_seq_k fun K13 hK13 => ?_
    refine wp_reg All mixed hsz12 hdf12 st_tr trivial ?_
    refine Chain.op (φ := Is (.string (name))) (st_is _) (sp_move (Has.base rfl e1)) ?_
    refine Chain.op (φ := Is (.slice va (ns.length) vc)) (st_is _) (sp_move (Has.base rfl e0)) ?_
    refine Chain.op (φ := Is (.int .i64 ((k : Nat)))) (st_is _) (sp_move (Has.base rfl e5)) ?_
    refine Chain.op (φ := IsR (SA w S []) (D.str (ns[k]'hlt))) (st_r sub_all) (sp_indexS (i := k) ((Has.loc rfl).dat D_v sub_all) (Has.loc rfl) Try.underlying23 sz9 rfl hlt) ?_
    refine Chain.op (φ := Is (.string (ns[k]'hlt))) (st_is _) (sp_loadStr (Has.loc rfl) agg9 sz9) ?_
    refine Chain.op (φ := Is (.bool (decide (name = (ns[k]'hlt))))) (st_is _) (sp_sEql (Has.loc rfl) (Has.loc rfl)) ?_
    refine Chain.done ⟨by kernel_rfl, fun a14 g W14 hsz14 hdf14 hk hg henv hrest hpsi => ?_⟩
    obtain ⟨e16, -, -, -, -, -, -⟩ := henv
    replace e0 := (hrest 0 rfl).trans e0
    replace e1 := (hrest 1 rfl).trans e1
    replace e7 := (hrest 7 rfl).trans e7
    replace e8 := (hrest 8 rfl).trans e8
    replace e5 := (hrest 5 rfl).trans e5
    replace D_v := D_v.ext hk
    have e16 : sl a14 16 = (.bool (decide (name = (ns[k]'hlt)))) := e16
    replace kw := kw.trans (.of_ext hk)
    clear hrest hk hg hpsi
    refine tail_nil (hK13 _ _ ?_)
    refine wp_cond_split e16 (fun hc => ?_) (fun hc => ?_)
    · -- T: decide (name = (ns[k]'hlt))
      have hfin : idx name ns 0 = (k : Nat) := by rw [hin, if_pos (by simpa using hc)]
      refine wp_seq_k fun K15 hK15 => ?_
      refine wp_reg All mixed hsz14 hdf14 st_tr trivial ?_
      refine Chain.op (φ := Is (.int .i64 ((k : Nat)))) (st_is _) (sp_move (Has.base rfl e5)) ?_
      refine Chain.op (φ := Is (.int .i64 ((k : Nat)))) (st_is _) (sp_assign (Has.loc rfl)) ?_
      refine Chain.done ⟨by kernel_rfl, fun a16 g W16 hsz16 hdf16 hk hg henv hrest hpsi => ?_⟩
      obtain ⟨e4, -, -⟩ := henv
      replace D_v := D_v.ext hk
      have e4 : sl a16 4 = (.int .i64 ((k : Nat))) := e4
      replace kw := kw.trans (.of_ext hk)
      clear hrest hk hg hpsi
      refine tail_nil (hK15 _ _ ?_)
      refine wp_ret ?_
      refine (show bodyPost Try.prog Try.f58 _ .ret _ _ from ret1 rfl hdf16 e4 ⟨_, rfl, kw, ?_⟩)
      rw [hfin]; try rfl
    · -- E: decide (name = (ns[k]'hlt))
      rw [if_neg (by simpa using hc)] at hin
      refine wp_skip (hK10 _ _ ?_)
      refine wp_reg All mixed hsz14 hdf14 st_tr trivial ?_
      refine Chain.op (φ := Is (.int .i64 (((k : Nat) : Int) + (1 : Int)))) (st_is _) (sp_add (Has.base rfl e8) Has.cst (i64_in (by omega))) ?_
      refine Chain.op (φ := Is (.int .i64 (((k : Nat) : Int) + (1 : Int)))) (st_is _) (sp_move (Has.loc rfl)) ?_
      refine Chain.done ⟨by kernel_rfl, fun a17 g W17 hsz17 hdf17 hk hg henv hrest hpsi => ?_⟩
      obtain ⟨e8, -, -⟩ := henv
      replace e0 := (hrest 0 rfl).trans e0
      replace e1 := (hrest 1 rfl).trans e1
      replace e7 := (hrest 7 rfl).trans e7
      replace D_v := D_v.ext hk
      have e8 : sl a17 8 = (.int .i64 (((k : Nat) : Int) + (1 : Int))) := e8
      replace kw := kw.trans (.of_ext hk)
      clear hrest hk hg hpsi
      exact tail_nil ⟨hlt, hsz17, hdf17, kw, e0, e1, e7, (e8.trans (congrArg (Value.int .i64) (by simp))), D_v, hin⟩
  · -- E: decide (((k : Nat) : Int) < (ns.length : Int))
    have hge0 : ¬ k < ns.length := by simpa using hc
    have hge : k = ns.length := by omega
    rw [hge, List.drop_length] at hin
    have hfin : idx name ns 0 = -1 := hin
    refine wp_exit (hK3 _ _ ?_)
    refine wp_seq_k fun K18 hK18 => ?_
    refine wp_reg All mixed hsz8 hdf8 st_tr trivial ?_
    refine Chain.op (φ := Is (.int .i64 (-1))) (st_is _) (sp_assign Has.cst) ?_
    refine Chain.done ⟨by kernel_rfl, fun a19 g W19 hsz19 hdf19 hk hg henv hrest hpsi => ?_⟩
    obtain ⟨e4, -⟩ := henv
    replace D_v := D_v.ext hk
    have e4 : sl a19 4 = (.int .i64 (-1)) := e4
    replace kw := kw.trans (.of_ext hk)
    clear hrest hk hg hpsi
    refine tail_nil (hK18 _ _ ?_)
    refine wp_ret ?_
    refine (show bodyPost Try.prog Try.f58 _ .ret _ _ from ret1 rfl hdf19 e4 ⟨_, rfl, kw, ?_⟩)
    rw [hfin]; try rfl

set_option maxRecDepth 100000 in
theorem find1_ok (ns : List ByteArray) (name : ByteArray) (i : Nat) (hi : i < ns.length) (w : World) (S : BSet) (v : Value) (bn bs : Nat) (hv : Rd w S (strsD ns) v) (own_bn : Own w bn [v] 23) (own_bs : Own w bs [.string name] 9) : Calls Try.prog 89 #[.int .i64 i, .pointer (some ⟨bn, 0, none⟩), .pointer (some ⟨bs, 0, none⟩)] w (Ret w fun u _ => u = .bool (!sLt ns[i] name)) := by
  obtain ⟨va, vc, ev, D_v⟩ := rdS_out (rd_arg hv)
  subst ev
  refine enter Try.func89 rfl Try.ntmps89 (Nat.le_of_ble_eq_true rfl) fun a0 hsz0 hdf0 harg => ?_
  have e0 : sl a0 0 = (.int .i64 ((i : Nat))) := harg 0 (Nat.le_of_ble_eq_true rfl)
  have e1 : sl a0 1 = (.pointer (some ⟨bn, 0, none⟩)) := harg 1 (Nat.le_of_ble_eq_true rfl)
  have e2 : sl a0 2 = (.pointer (some ⟨bs, 0, none⟩)) := harg 2 (Nat.le_of_ble_eq_true rfl)
  have kw := Keeps.refl All w
  clear harg
  refine wp_seq_k fun K1 hK1 => ?_
  refine wp_reg All mixed hsz0 hdf0 st_tr trivial ?_
  refine Chain.op (φ := Is (.bool (false))) (st_is _) (sp_assign Has.cst) ?_
  refine Chain.done ⟨by kernel_rfl, fun a2 g W2 hsz2 hdf2 hk hg henv hrest hpsi => ?_⟩
  obtain ⟨-, -⟩ := henv
  replace e0 := (hrest 0 rfl).trans e0
  replace e1 := (hrest 1 rfl).trans e1
  replace e2 := (hrest 2 rfl).trans e2
  replace D_v := D_v.ext hk
  replace own_bn := own_bn.ext hk
  replace own_bs := own_bs.ext hk
  replace kw := kw.trans (.of_ext hk)
  clear hrest hk hg hpsi
  refine tail_nil (hK1 _ _ ?_)
  refine wp_seq_k fun K3 hK3 => ?_
  refine wp_reg All mixed hsz2 hdf2 st_tr trivial ?_
  refine Chain.op (φ := Is (.slice va (ns.length) vc)) (st_is _) (sp_loadO (v := (.slice va (ns.length) vc)) (Has.base rfl e1) own_bn trivial agg23 sz23 (Nat.le_of_ble_eq_true rfl) (fun h => by first | rfl | cases h) rfl) ?_
  refine Chain.op (φ := Is (.int .i64 ((i : Nat)))) (st_is _) (sp_move (Has.base rfl e0)) ?_
  refine Chain.op (φ := IsR (SA w S []) (D.str (ns[i]'hi))) (st_r sub_all) (sp_indexS (i := i) ((Has.loc rfl).dat D_v sub_all) (Has.loc rfl) Try.underlying23 sz9 rfl hi) ?_
  refine Chain.op (φ := Is (.string (ns[i]'hi))) (st_is _) (sp_loadStr (Has.loc rfl) agg9 sz9) ?_
  refine Chain.op (φ := Is (.string (name))) (st_is _) (sp_loadO (v := (.string (name))) (Has.base rfl e2) own_bs trivial agg9 sz9 (Nat.le_of_ble_eq_true rfl) (fun h => by first | rfl | cases h) rfl) ?_
  refine Chain.op (φ := Is (.bool (!sLt (ns[i]'hi) name))) (st_is _) (sp_sGeq (Has.loc rfl) (Has.loc rfl)) ?_
  refine Chain.op (φ := Is (.bool (!sLt (ns[i]'hi) name))) (st_is _) (sp_assign (Has.loc rfl)) ?_
  refine Chain.done ⟨by kernel_rfl, fun a4 g W4 hsz4 hdf4 hk hg henv hrest hpsi => ?_⟩
  obtain ⟨e4, -, -, -, -, -, -, -⟩ := henv
  replace D_v := D_v.ext hk
  have e4 : sl a4 4 = (.bool (!sLt (ns[i]'hi) name)) := e4
  replace own_bn := own_bn.ext hk
  replace own_bs := own_bs.ext hk
  replace kw := kw.trans (.of_ext hk)
  clear hrest hk hg hpsi
  refine tail_nil (hK3 _ _ ?_)
  refine wp_ret ?_
  refine (show bodyPost Try.prog Try.f89 _ .ret _ _ from ret1 rfl hdf4 e4 ⟨_, rfl, kw, ?_⟩)
  exact rfl

set_option maxRecDepth 100000 in
theorem find_ok (ns : List ByteArray) (name : ByteArray) (hn : ns.length ≤ 1073741824) (w : World) (S : BSet) (v : Value) (hv : Rd w S (strsD ns) v) : Calls Try.prog 74 #[v, .string name] w (Ret w fun u _ => u = .tuple #[.int .i64 (findI ns name), .bool (findB ns name)]) := by
  have hlb := lb_le ns name
  obtain ⟨va, vc, ev, D_v⟩ := rdS_out (rd_arg hv)
  subst ev
  refine enter Try.func74 rfl Try.ntmps74 (Nat.le_of_ble_eq_true rfl) fun a0 hsz0 hdf0 harg => ?_
  have e0 : sl a0 0 = (.slice va (ns.length) vc) := harg 0 (Nat.le_of_ble_eq_true rfl)
  have e1 : sl a0 1 = (.string (name)) := harg 1 (Nat.le_of_ble_eq_true rfl)
  have kw := Keeps.refl All w
  clear harg
  refine wp_seq_k fun K1 hK1 => ?_
  refine wp_reg All mixed hsz0 hdf0 st_tr trivial ?_
  refine Chain.boxOp (v := (.slice va (ns.length) vc)) (Has.base rfl e0) ?_
  refine Chain.boxOp (v := (.string (name))) (Has.base rfl e1) ?_
  refine Chain.op (φ := Is (.int .i64 (0))) (st_is _) (sp_assign Has.cst) ?_
  refine Chain.op (φ := Is (.bool (false))) (st_is _) (sp_assign Has.cst) ?_
  refine Chain.done ⟨by kernel_rfl, fun a2 g W2 hsz2 hdf2 hk hg henv hrest hpsi => ?_⟩
  obtain ⟨-, -, ⟨b3_2, e3, hb3, own_b3_2⟩, ⟨b2_2, e2, hb2, own_b2_2⟩, -⟩ := henv
  have lo_b3_2 : w.heap.size ≤ b3_2 := Nat.le_trans kw.size (hg.lo _ _ hb3)
  have own_b3_2 : Own W2 b3_2 [(.string (name))] 9 := own_b3_2
  have lo_b2_2 : w.heap.size ≤ b2_2 := Nat.le_trans kw.size (hg.lo _ _ hb2)
  have own_b2_2 : Own W2 b2_2 [(.slice va (ns.length) vc)] 23 := own_b2_2
  have ne_b3_2_b2_2 : b3_2 ≠ b2_2 := fun h => by have := hg.inj _ _ _ hb3 (h ▸ hb2); cases this
  replace D_v := sa_more D_v hk [b3_2, b2_2] (in_cons (hg.lo _ _ hb3) (in_cons (hg.lo _ _ hb2) in_nil))
  replace kw := kw.trans (.of_ext hk)
  clear hrest hk hg hpsi hb3 hb2
  refine tail_nil (hK1 _ _ ?_)
  refine wp_seq_k fun K3 hK3 => ?_
  refine wp_seq_k fun K4 hK4 => ?_
  refine wp_reg All mixed hsz2 hdf2 st_tr trivial ?_
  refine Chain.op (φ := Is (.slice va (ns.length) vc)) (st_is _) (sp_loadO (v := (.slice va (ns.length) vc)) (Has.base rfl e2) own_b2_2 trivial agg23 sz23 (Nat.le_of_ble_eq_true rfl) (fun h => by first | rfl | cases h) rfl) ?_
  refine Chain.op (φ := Is (.bool (asc ns))) (st_is _) (sp_call1 (φ1 := IsD (SA w S [b3_2, b2_2]) (strsD (ns))) ent73 ((Has.loc rfl).dat D_v sub_all) (fun g u1 W hk hgk h1 => ascending_ok (ns) W _ _ h1)) ?_
  refine Chain.op (φ := Is (.bool (!(asc ns)))) (st_is _) (sp_not (Has.loc rfl)) ?_
  refine Chain.done ⟨by kernel_rfl, fun a5 g W5 hsz5 hdf5 hk hg henv hrest hpsi => ?_⟩
  obtain ⟨e10, -, -, -⟩ := henv
  replace e3 := (hrest 3 rfl).trans e3
  replace e2 := (hrest 2 rfl).trans e2
  replace D_v := D_v.ext hk
  have e10 : sl a5 10 = (.bool (!(asc ns))) := e10
  replace own_b3_2 := own_b3_2.ext hk
  replace own_b2_2 := own_b2_2.ext hk
  replace kw := kw.trans (.of_ext hk)
  clear hrest hk hg hpsi
  refine tail_nil (hK4 _ _ ?_)
  refine wp_cond_split e10 (fun hc => ?_) (fun hc => ?_)
  · -- T: !(asc ns)
    have hasc : asc ns = false := by simpa using hc
    refine wp_seq_k fun K6 hK6 => ?_
    refine wp_reg All mixed hsz5 hdf5 st_tr trivial ?_
    refine Chain.op (φ := Is (.slice va (ns.length) vc)) (st_is _) (sp_loadO (v := (.slice va (ns.length) vc)) (Has.base rfl e2) own_b2_2 trivial agg23 sz23 (Nat.le_of_ble_eq_true rfl) (fun h => by first | rfl | cases h) rfl) ?_
    refine Chain.op (φ := Is (.string (name))) (st_is _) (sp_loadO (v := (.string (name))) (Has.base rfl e3) own_b3_2 trivial agg9 sz9 (Nat.le_of_ble_eq_true rfl) (fun h => by first | rfl | cases h) rfl) ?_
    refine Chain.op (φ := Is (.int .i64 (idx name ns 0))) (st_is _) (sp_call2 (φ1 := IsD (SA w S [b3_2, b2_2]) (strsD (ns))) (φ2 := Is (.string (name))) ent58 ((Has.loc rfl).dat D_v sub_all) (Has.loc rfl) (fun g u1 u2 W hk hgk h1 h2 => by have h2 : u2 = _ := h2; subst u2; exact index_ok (ns) (name) W _ _ h1)) ?_
    refine Chain.op (φ := Is (.int .i64 (idx name ns 0))) (st_is _) (sp_assign (Has.loc rfl)) ?_
    refine Chain.done ⟨by kernel_rfl, fun a7 g W7 hsz7 hdf7 hk hg henv hrest hpsi => ?_⟩
    obtain ⟨e6, -, -, -, -⟩ := henv
    replace D_v := D_v.ext hk
    have e6 : sl a7 6 = (.int .i64 (idx name ns 0)) := e6
    replace own_b3_2 := own_b3_2.ext hk
    replace own_b2_2 := own_b2_2.ext hk
    replace kw := kw.trans (.of_ext hk)
    clear hrest hk hg hpsi
    refine tail_nil (hK6 _ _ ?_)
    refine wp_seq_k fun K8 hK8 => ?_
    refine wp_reg All mixed hsz7 hdf7 st_tr trivial ?_
    refine Chain.op (φ := Is (.int .i64 (idx name ns 0))) (st_is _) (sp_move (Has.base rfl e6)) ?_
    refine Chain.op (φ := Is (.int .i64 (idx name ns 0))) (st_is _) (sp_move (Has.base rfl e6)) ?_
    refine Chain.op (φ := Is (.bool (decide ((0 : Int) ≤ (idx name ns 0 : Int))))) (st_is _) (sp_geq (Has.loc rfl) Has.cst) ?_
    refine Chain.op (φ := Is (.int .i64 (idx name ns 0))) (st_is _) (sp_assign (Has.loc rfl)) ?_
    refine Chain.op (φ := Is (.bool (decide ((0 : Int) ≤ (idx name ns 0 : Int))))) (st_is _) (sp_assign (Has.loc rfl)) ?_
    refine Chain.done ⟨by kernel_rfl, fun a9 g W9 hsz9 hdf9 hk hg henv hrest hpsi => ?_⟩
    obtain ⟨e5, e4, -, -, -, -⟩ := henv
    have e4 : sl a9 4 = (.int .i64 (idx name ns 0)) := e4
    have e5 : sl a9 5 = (.bool (decide ((0 : Int) ≤ (idx name ns 0 : Int)))) := e5
    replace own_b3_2 := own_b3_2.ext hk
    replace own_b2_2 := own_b2_2.ext hk
    replace kw := kw.trans (.of_ext hk)
    clear hrest hk hg hpsi
    refine tail_nil (hK8 _ _ ?_)
    refine wp_ret ?_
    refine (show bodyPost Try.prog Try.f74 _ .ret _ _ from ret2 rfl hdf9 e4 e5 ⟨_, rfl, kw, ?_⟩)
    simp [findI, findB, hasc]
  · -- E: !(asc ns)
    have hasc : asc ns = true := by simpa using hc
    refine wp_skip (hK3 _ _ ?_)
    refine wp_seq_k fun K10 hK10 => ?_
    refine wp_reg All mixed hsz5 hdf5 st_tr trivial ?_
    refine Chain.op (φ := Is (.slice va (ns.length) vc)) (st_is _) (sp_loadO (v := (.slice va (ns.length) vc)) (Has.base rfl e2) own_b2_2 trivial agg23 sz23 (Nat.le_of_ble_eq_true rfl) (fun h => by first | rfl | cases h) rfl) ?_
    refine Chain.op (φ := Is (.int .i64 (ns.length))) (st_is _) (sp_lenSs Try.underlying23 ((Has.loc rfl).dat D_v sub_all)) ?_
    refine Chain.op (φ := Is (.func (.func 89) #[] #[(.pointer (some ⟨b2_2, 0, none⟩)), (.pointer (some ⟨b3_2, 0, none⟩))])) (st_is _) (sp_mkF2 (Has.base rfl e2) (Has.base rfl e3)) ?_
    refine Chain.op (φ := Is (.int .i64 (((lb ns name : Nat) : Int)))) (st_is _) (sp_call2 (φ1 := Is (.int .i64 (ns.length))) (φ2 := Is (.func (.func 89) #[] #[(.pointer (some ⟨b2_2, 0, none⟩)), (.pointer (some ⟨b3_2, 0, none⟩))])) ent88 (Has.loc rfl) (Has.loc rfl) (fun g u1 u2 W hk hgk h1 h2 => by have h1 : u1 = _ := h1; subst u1; have h2 : u2 = _ := h2; subst u2; exact ((search_ok ns.length (by omega) _ _ (fun i => !sLt (ns.getD i ⟨#[]⟩) name) W ent89 fun W2 hk2 i hi => by have h := find1_ok ns name i hi W2 _ _ _ _ (D_v.ext (hk.trans hk2)) (own_b2_2.ext (hk.trans hk2)) (own_b3_2.ext (hk.trans hk2)); rw [List.getD_eq_getElem?_getD, List.getElem?_eq_getElem hi]; exact h)).mono (fun _ _ ⟨v, h1, h2, m, h3, h4, h5, h6⟩ => ⟨v, h1, h2, by rw [lb_of (p := fun i => !sLt (ns.getD i ⟨#[]⟩) name) hasc (fun i h => by simp [List.getD_eq_getElem?_getD, h]) h4 h5 h6]; exact h3⟩))) ?_
    refine Chain.op (φ := Is (.int .i64 (((lb ns name : Nat) : Int)))) (st_is _) (sp_assign (Has.loc rfl)) ?_
    refine Chain.done ⟨by kernel_rfl, fun a11 g W11 hsz11 hdf11 hk hg henv hrest hpsi => ?_⟩
    obtain ⟨e7, -, -, -, -, -⟩ := henv
    replace e3 := (hrest 3 rfl).trans e3
    replace e2 := (hrest 2 rfl).trans e2
    replace D_v := D_v.ext hk
    have e7 : sl a11 7 = (.int .i64 (((lb ns name : Nat) : Int))) := e7
    replace own_b3_2 := own_b3_2.ext hk
    replace own_b2_2 := own_b2_2.ext hk
    replace kw := kw.trans (.of_ext hk)
    clear hrest hk hg hpsi
    refine tail_nil (hK10 _ _ ?_)
    refine wp_seq_k fun K12 hK12 => ?_
    refine wp_reg All mixed hsz11 hdf11 st_tr trivial ?_
    refine Chain.op (φ := Is (.int .i64 (((lb ns name : Nat) : Int)))) (st_is _) (sp_move (Has.base rfl e7)) ?_
    refine Chain.op (φ := Is (.int .i64 (((lb ns name : Nat) : Int)))) (st_is _) (sp_move (Has.base rfl e7)) ?_
    refine Chain.op (φ := Is (.slice va (ns.length) vc)) (st_is _) (sp_loadO (v := (.slice va (ns.length) vc)) (Has.base rfl e2) own_b2_2 trivial agg23 sz23 (Nat.le_of_ble_eq_true rfl) (fun h => by first | rfl | cases h) rfl) ?_
    refine Chain.op (φ := Is (.int .i64 (ns.length))) (st_is _) (sp_lenSs Try.underlying23 ((Has.loc rfl).dat D_v sub_all)) ?_
    refine Chain.op (φ := Is (.bool (decide ((((lb ns name : Nat) : Int) : Int) < (ns.length : Int))))) (st_is _) (sp_lss (Has.loc rfl) (Has.loc rfl)) ?_
    refine Chain.op (φ := Is (.bool (decide ((((lb ns name : Nat) : Int) : Int) < (ns.length : Int))))) (st_is _) (sp_move (Has.loc rfl)) ?_
    refine Chain.opE (t := 26) (x := decide ((((lb ns name : Nat) : Int) : Int) < (ns.length : Int))) (φ := Is (.slice va (ns.length) vc)) rfl (Has.loc rfl) (st_is _) (fun hg => sp_loadO (v := (.slice va (ns.length) vc)) (Has.base rfl e2) own_b2_2 trivial agg23 sz23 (Nat.le_of_ble_eq_true rfl) (fun h => by first | rfl | cases h) rfl) ?_
    refine Chain.opE (t := 26) (x := decide ((((lb ns name : Nat) : Int) : Int) < (ns.length : Int))) (φ := Is (.int .i64 (((lb ns name : Nat) : Int)))) rfl (Has.loc rfl) (st_is _) (fun hg => sp_move (Has.base rfl e7)) ?_
    refine Chain.opE (t := 26) (x := decide ((((lb ns name : Nat) : Int) : Int) < (ns.length : Int))) (φ := IsR (SA w S [b3_2, b2_2]) (D.str (ns.getD (lb ns name) ⟨#[]⟩))) rfl (Has.loc rfl) (st_r sub_all) (fun hg => sp_indexSD (i := (lb ns name)) (((Has.loc rfl).undE hg).dat D_v sub_all) ((Has.loc rfl).undE hg) Try.underlying23 sz9 rfl (by have := of_decide_eq_true hg; omega)) ?_
    refine Chain.opE (t := 26) (x := decide ((((lb ns name : Nat) : Int) : Int) < (ns.length : Int))) (φ := Is (.string (ns.getD (lb ns name) ⟨#[]⟩))) rfl (Has.loc rfl) (st_is _) (fun hg => sp_loadStr ((Has.loc rfl).undE hg) agg9 sz9) ?_
    refine Chain.opE (t := 26) (x := decide ((((lb ns name : Nat) : Int) : Int) < (ns.length : Int))) (φ := Is (.string (name))) rfl (Has.loc rfl) (st_is _) (fun hg => sp_loadO (v := (.string (name))) (Has.base rfl e3) own_b3_2 trivial agg9 sz9 (Nat.le_of_ble_eq_true rfl) (fun h => by first | rfl | cases h) rfl) ?_
    refine Chain.opE (t := 26) (x := decide ((((lb ns name : Nat) : Int) : Int) < (ns.length : Int))) (φ := Is (.bool (decide ((ns.getD (lb ns name) ⟨#[]⟩) = name)))) rfl (Has.loc rfl) (st_is _) (fun hg => sp_sEql ((Has.loc rfl).undE hg) ((Has.loc rfl).undE hg)) ?_
    refine Chain.op (φ := Is (.bool ((decide ((((lb ns name : Nat) : Int) : Int) < (ns.length : Int))) && (decide ((ns.getD (lb ns name) ⟨#[]⟩) = name))))) (st_is _) (sp_and (Has.loc rfl) ((Has.loc rfl).weak fun hq => hq)) ?_
    refine Chain.op (φ := Is (.int .i64 (((lb ns name : Nat) : Int)))) (st_is _) (sp_assign (Has.loc rfl)) ?_
    refine Chain.op (φ := Is (.bool ((decide ((((lb ns name : Nat) : Int) : Int) < (ns.length : Int))) && (decide ((ns.getD (lb ns name) ⟨#[]⟩) = name))))) (st_is _) (sp_assign (Has.loc rfl)) ?_
    refine Chain.done ⟨by kernel_rfl, fun a13 g W13 hsz13 hdf13 hk hg henv hrest hpsi => ?_⟩
    obtain ⟨e5, e4, -, -, -, -, -, -, -, -, -, -, -, -, -, -⟩ := henv
    replace D_v := D_v.ext hk
    have e4 : sl a13 4 = (.int .i64 (((lb ns name : Nat) : Int))) := e4
    have e5 : sl a13 5 = (.bool ((decide ((((lb ns name : Nat) : Int) : Int) < (ns.length : Int))) && (decide ((ns.getD (lb ns name) ⟨#[]⟩) = name)))) := e5
    replace own_b3_2 := own_b3_2.ext hk
    replace own_b2_2 := own_b2_2.ext hk
    replace kw := kw.trans (.of_ext hk)
    clear hrest hk hg hpsi
    refine tail_nil (hK12 _ _ ?_)
    refine wp_ret ?_
    refine (show bodyPost Try.prog Try.f74 _ .ret _ _ from ret2 rfl hdf13 e4 e5 ⟨_, rfl, kw, ?_⟩)
    simp only [findI, findB, hasc, if_true]
    rw [find_fin]

end Go.Proofs.Ytipdogbeoflkoaa
