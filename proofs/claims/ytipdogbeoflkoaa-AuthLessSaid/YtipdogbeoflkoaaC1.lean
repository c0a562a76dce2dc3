import Derived.Test.YtipdogbeoflkoaaTy
import Derived.Test.YtipdogbeoflkoaaEngI
namespace Go.Proofs.Ytipdogbeoflkoaa
open Go.Eng
set_option maxRecDepth 100000 in
theorem ascending_ok (ns : List ByteArray) (w : World) (S : BSet) (v : Value) (hv : Rd w S (strsD ns) v) : Calls Try.prog 73 #[v] w (Ret w fun u _ => u = .bool (asc ns)) := by
  have hn : ns.length ≤ maxLen := rd_lenS hv
  simp only [maxLen] at hn
  obtain ⟨va, vc, ev, D_v⟩ := rdS_out (rd_arg hv)
  subst ev
  refine enter Try.func73 rfl Try.ntmps73 (Nat.le_of_ble_eq_true rfl) fun a0 hsz0 hdf0 harg => ?_
  have e0 : sl a0 0 = (.slice va (ns.length) vc) := harg 0 (Nat.le_of_ble_eq_true rfl)
  have kw := Keeps.refl All w
  clear harg
  refine wp_seq_k fun K1 hK1 => ?_
  refine wp_reg All mixed hsz0 hdf0 st_tr trivial ?_
  refine Chain.op (φ := Is (.bool (false))) (st_is _) (sp_assign Has.cst) ?_
  refine Chain.done ⟨by kernel_rfl, fun a2 g W2 hsz2 hdf2 hk hg henv hrest hpsi => ?_⟩
  obtain ⟨-, -⟩ := henv
  replace e0 := (hrest 0 rfl).trans e0
  replace D_v := D_v.ext hk
  replace kw := kw.trans (.of_ext hk)
  clear hrest hk hg hpsi
  refine tail_nil (hK1 _ _ ?_)
  refine wp_seq_k fun K3 hK3 => ?_
  refine wp_seq_k fun K4 hK4 => ?_
  refine wp_reg All mixed hsz2 hdf2 st_tr trivial ?_
  refine Chain.op (φ := Is (.int .i64 (1))) (st_is _) (sp_assign Has.cst) ?_
  refine Chain.done ⟨by kernel_rfl, fun a5 g W5 hsz5 hdf5 hk hg henv hrest hpsi => ?_⟩
  obtain ⟨e3, -⟩ := henv
  replace e0 := (hrest 0 rfl).trans e0
  replace D_v := D_v.ext hk
  have e3 : sl a5 3 = (.int .i64 (1)) := e3
  replace kw := kw.trans (.of_ext hk)
  clear hrest hk hg hpsi
  refine tail_nil (hK4 _ _ ?_)
  refine wp_block ?_
  refine wp_for (ns.length) (fun k a W => a.tmps.size = 20 ∧ a.defers = [] ∧ Keeps All w W ∧ sl a 0 = (.slice va (ns.length) vc) ∧ sl a 3 = (.int .i64 (((k + 1 : Nat) : Int))) ∧ Rd W (SA w S []) (strsD (ns)) (.slice va (ns.length) vc) ∧ (∀ i (h : i + 1 < ns.length), i < k → sLt ns[i] ns[i + 1] = true)) ⟨hsz5, hdf5, kw, e0, (e3.trans (congrArg (Value.int .i64) (rfl))), D_v, fun i h hi => absurd hi (by omega)⟩ ?_
  clear kw e0 e3 D_v
  rintro k a6 W6 hkk ⟨hsz6, hdf6, kw, e0, e3, D_v, hinv⟩
  refine wp_seq_k fun K7 hK7 => ?_
  refine wp_seq_k fun K8 hK8 => ?_
  refine wp_reg All mixed hsz6 hdf6 st_tr trivial ?_
  refine Chain.op (φ := Is (.int .i64 (((k + 1 : Nat) : Int)))) (st_is _) (sp_move (Has.base rfl e3)) ?_
  refine Chain.op (φ := Is (.slice va (ns.length) vc)) (st_is _) (sp_move (Has.base rfl e0)) ?_
  refine Chain.op (φ := Is (.int .i64 (ns.length))) (st_is _) (sp_lenSs Try.underlying23 ((Has.loc rfl).dat D_v sub_all)) ?_
  refine Chain.op (φ := Is (.bool (decide ((((k + 1 : Nat) : Int) : Int) < (ns.length : Int))))) (st_is _) (sp_lss (Has.loc rfl) (Has.loc rfl)) ?_
  refine Chain.done ⟨by kernel_rfl, fun a9 g W9 hsz9 hdf9 hk hg henv hrest hpsi => ?_⟩
  obtain ⟨e7, -, -, -, -⟩ := henv
  replace e0 := (hrest 0 rfl).trans e0
  replace e3 := (hrest 3 rfl).trans e3
  replace D_v := D_v.ext hk
  have e7 : sl a9 7 = (.bool (decide ((((k + 1 : Nat) : Int) : Int) < (ns.length : Int)))) := e7
  replace kw := kw.trans (.of_ext hk)
  clear hrest hk hg hpsi
  refine tail_nil (hK8 _ _ ?_)
  refine wp_cond_split e7 (fun hc => ?_) (fun hc => ?_)
  · -- T: decide ((((k + 1 : Nat) : Int) : Int) < (ns.length : Int))
    have hlt : k + 1 < ns.length := by have := of_decide_eq_true hc; omega
    refine wp_skip (hK7 _ _ ?_)
    refine wp_seq_k fun K10 hK10 => ?_
    refine wp_block ?_
    refine wp_seq_k fun K11 hK11 => ?_
    refine wp_reg All mixed hsz9 hdf9 st_tr trivial ?_
    refine Chain.op (φ := Is (.slice va (ns.length) vc)) (st_is _) (sp_move (Has.base rfl e0)) ?_
    refine Chain.op (φ := Is (.int .i64 (((k + 1 : Nat) : Int)))) (st_is _) (sp_move (Has.base rfl e3)) ?_
    refine Chain.op (φ := Is (.int .i64 ((((k + 1 : Nat) : Int) : Int) - (1 : Int)))) (st_is _) (sp_sub (Has.loc rfl) Has.cst (i64_in (by omega))) ?_
    refine Chain.op (φ := IsR (SA w S []) (D.str (ns[k]'(by omega)))) (st_r sub_all) (sp_indexS (i := k) ((Has.loc rfl).dat D_v sub_all) (Has.loc rfl) Try.underlying23 sz9 (by omega) (by omega)) ?_
    refine Chain.op (φ := Is (.string (ns[k]'(by omega)))) (st_is _) (sp_loadStr (Has.loc rfl) agg9 sz9) ?_
    refine Chain.op (φ := Is (.slice va (ns.length) vc)) (st_is _) (sp_move (Has.base rfl e0)) ?_
    refine Chain.op (φ := Is (.int .i64 (((k + 1 : Nat) : Int)))) (st_is _) (sp_move (Has.base rfl e3)) ?_
    refine Chain.op (φ := IsR (SA w S []) (D.str (ns[(k + 1)]'hlt))) (st_r sub_all) (sp_indexS (i := (k + 1)) ((Has.loc rfl).dat D_v sub_all) (Has.loc rfl) Try.underlying23 sz9 rfl hlt) ?_
    refine Chain.op (φ := Is (.string (ns[(k + 1)]'hlt))) (st_is _) (sp_loadStr (Has.loc rfl) agg9 sz9) ?_
    refine Chain.op (φ := Is (.bool (!sLt (ns[k]'(by omega)) (ns[(k + 1)]'hlt)))) (st_is _) (sp_sGeq (Has.loc rfl) (Has.loc rfl)) ?_
    refine Chain.done ⟨by kernel_rfl, fun a12 g W12 hsz12 hdf12 hk hg henv hrest hpsi => ?_⟩
    obtain ⟨e19, -, -, -, -, -, -, -, -, -, -⟩ := henv
    replace e0 := (hrest 0 rfl).trans e0
    replace e3 := (hrest 3 rfl).trans e3
    replace D_v := D_v.ext hk
    have e19 : sl a12 19 = (.bool (!sLt (ns[k]'(by omega)) (ns[(k + 1)]'hlt))) := e19
    replace kw := kw.trans (.of_ext hk)
    clear hrest hk hg hpsi
    refine tail_nil (hK11 _ _ ?_)
    refine wp_cond_split e19 (fun hc => ?_) (fun hc => ?_)
    · -- T: !sLt (ns[k]'(by omega)) (ns[(k + 1)]'hlt)
      have hfin : asc ns = false := asc_false hlt (by simpa using hc)
      refine wp_seq_k fun K13 hK13 => ?_
      refine wp_reg All mixed hsz12 hdf12 st_tr trivial ?_
      refine Chain.op (φ := Is (.bool (false))) (st_is _) (sp_assign Has.cst) ?_
      refine Chain.done ⟨by kernel_rfl, fun a14 g W14 hsz14 hdf14 hk hg henv hrest hpsi => ?_⟩
      obtain ⟨e2, -⟩ := henv
      replace D_v := D_v.ext hk
      have e2 : sl a14 2 = (.bool (false)) := e2
      replace kw := kw.trans (.of_ext hk)
      clear hrest hk hg hpsi
      refine tail_nil (hK13 _ _ ?_)
      refine wp_ret ?_
      refine (show bodyPost Try.prog Try.f73 _ .ret _ _ from ret1 rfl hdf14 e2 ⟨_, rfl, kw, ?_⟩)
      rw [hfin]
    · -- E: !sLt (ns[k]'(by omega)) (ns[(k + 1)]'hlt)
      have hk1 : sLt ns[k] ns[k + 1] = true := by simpa using hc
      refine wp_skip (hK10 _ _ ?_)
      refine wp_reg All mixed hsz12 hdf12 st_tr trivial ?_
      refine Chain.op (φ := Is (.int .i64 (((k + 1 : Nat) : Int)))) (st_is _) (sp_move (Has.base rfl e3)) ?_
      refine Chain.op (φ := Is (.int .i64 ((((k + 1 : Nat) : Int) : Int) + (1 : Int)))) (st_is _) (sp_add (Has.loc rfl) Has.cst (i64_in (by omega))) ?_
      refine Chain.op (φ := Is (.int .i64 ((((k + 1 : Nat) : Int) : Int) + (1 : Int)))) (st_is _) (sp_assign (Has.loc rfl)) ?_
      refine Chain.done ⟨by kernel_rfl, fun a15 g W15 hsz15 hdf15 hk hg henv hrest hpsi => ?_⟩
      obtain ⟨e3, -, -, -⟩ := henv
      replace e0 := (hrest 0 rfl).trans e0
      replace D_v := D_v.ext hk
      have e3 : sl a15 3 = (.int .i64 ((((k + 1 : Nat) : Int) : Int) + (1 : Int))) := e3
      replace kw := kw.trans (.of_ext hk)
      clear hrest hk hg hpsi
      exact tail_nil ⟨by omega, hsz15, hdf15, kw, e0, (e3.trans (congrArg (Value.int .i64) (by omega))), D_v, fun i h hi => by rcases Nat.lt_succ_iff_lt_or_eq.1 hi with h1 | h1; exact hinv i h h1; subst h1; exact hk1⟩
  · -- E: decide ((((k + 1 : Nat) : Int) : Int) < (ns.length : Int))
    have hge : ¬ k + 1 < ns.length := by have := of_decide_eq_false hc; omega
    have hfin : asc ns = true := (asc_iff ns).2 fun i hi => hinv i hi (by omega)
    refine wp_exit (hK3 _ _ ?_)
    refine wp_seq_k fun K16 hK16 => ?_
    refine wp_reg All mixed hsz9 hdf9 st_tr trivial ?_
    refine Chain.op (φ := Is (.bool (true))) (st_is _) (sp_assign Has.cst) ?_
    refine Chain.done ⟨by kernel_rfl, fun a17 g W17 hsz17 hdf17 hk hg henv hrest hpsi => ?_⟩
    obtain ⟨e2, -⟩ := henv
    replace D_v := D_v.ext hk
    have e2 : sl a17 2 = (.bool (true)) := e2
    replace kw := kw.trans (.of_ext hk)
    clear hrest hk hg hpsi
    refine tail_nil (hK16 _ _ ?_)
    refine wp_ret ?_
    refine (show bodyPost Try.prog Try.f73 _ .ret _ _ from ret1 rfl hdf17 e2 ⟨_, rfl, kw, ?_⟩)
    rw [hfin]

end Go.Proofs.Ytipdogbeoflkoaa
