import Derived.Test.YtkhnemiflpjbpaaTy
import Derived.Test.YtkhnemiflpjbpaaEngI
namespace Go.Proofs.Ytkhnemiflpjbpaa
open Go.Eng
theorem num_ok (n : Int) (w : World) : Calls Try.prog 18 #[.int .i64 n] w (Ret w fun u _ => u = .agg #[.int .u8 2, .int .i64 n, .string ⟨#[]⟩, .slice none 0 0, .slice none 0 0]) := by
  refine enter Try.func18 rfl Try.ntmps18 (Nat.le_of_ble_eq_true rfl) fun a0 hsz0 hdf0 harg => ?_
  have e0 : sl a0 0 = (.int .i64 (n)) := harg 0 (Nat.le_of_ble_eq_true rfl)
  have kw := Keeps.refl All w
  clear harg
  refine wp_seq_k fun K1 hK1 => ?_
  refine wp_reg All mixed hsz0 hdf0 st_tr trivial ?_
  refine Chain.alloc z25 ?_
  refine Chain.done ⟨by kernel_rfl, fun a2 g W2 hsz2 hdf2 hk hg henv hrest hpsi => ?_⟩
  obtain ⟨⟨b2_2, e2, hb2, own_b2_2⟩, -⟩ := henv
  have lo_b2_2 : w.heap.size ≤ b2_2 := Nat.le_trans kw.size (hg.lo _ _ hb2)
  have own_b2_2 : Own W2 b2_2 [(.int .u8 (0)), (.int .i64 (0)), (.string (⟨#[]⟩)), (.slice none 0 0), (.slice none 0 0)] 25 := own_b2_2
  replace e0 := (hrest 0 rfl).trans e0
  replace kw := kw.trans (.of_ext hk)
  clear hrest hk hg hpsi hb2
  refine tail_nil (hK1 _ _ ?_)
  refine wp_seq_k fun K3 hK3 => ?_
  refine wp_reg All mixed hsz2 hdf2 st_tr trivial ?_
  refine Chain.op (φ := Is (.int .i64 (n))) (st_is _) (sp_move (Has.base rfl e0)) ?_
  refine Chain.op (φ := Is (.agg #[(.int .u8 (2)), (.int .i64 (n)), (.string (⟨#[]⟩)), (.slice none 0 0), (.slice none 0 0)])) (st_is _) (sp_build (vs := [(0, (.int .u8 (2))), (1, (.int .i64 (n)))]) Try.underlying25 z25 (pl25 Try.underlying25) ⟨rfl, Has.cst, rfl, (Has.loc rfl), trivial⟩ rfl) ?_
  refine Chain.done ⟨by kernel_rfl, fun a4 g W4 hsz4 hdf4 hk hg henv hrest hpsi => ?_⟩
  obtain ⟨e4, -, -⟩ := henv
  replace e2 := (hrest 2 rfl).trans e2
  have e4 : sl a4 4 = (.agg #[(.int .u8 (2)), (.int .i64 (n)), (.string (⟨#[]⟩)), (.slice none 0 0), (.slice none 0 0)]) := e4
  replace own_b2_2 := own_b2_2.ext hk
  replace kw := kw.trans (.of_ext hk)
  clear hrest hk hg hpsi
  refine tail_store (b := b2_2) (o := 0) (v := (.agg #[(.int .u8 (2)), (.int .i64 (n)), (.string (⟨#[]⟩)), (.slice none 0 0), (.slice none 0 0)])) e2 e4 sz25 rfl own_b2_2 (Nat.le_of_ble_eq_true rfl) (all_cons rfl (all_cons rfl (all_cons rfl (all_cons rfl (all_cons rfl all_nil))))) (fun W5 hs own_b2_2 => ?_)
  have own_b2_2 : Own W5 b2_2 [(.int .u8 (2)), (.int .i64 (n)), (.string (⟨#[]⟩)), (.slice none 0 0), (.slice none 0 0)] 25 := own_b2_2
  replace kw := keeps_store kw hs lo_b2_2
  clear hs
  refine tail_nil (hK3 _ _ ?_)
  refine wp_ret ?_
  refine (show bodyPost Try.prog Try.f18 _ .ret _ _ from retC (v := (.agg #[(.int .u8 (2)), (.int .i64 (n)), (.string (⟨#[]⟩)), (.slice none 0 0), (.slice none 0 0)])) rfl hdf4 e2 own_b2_2 agg25 sz25 rfl (fun h => by cases h) rfl ⟨_, rfl, kw, ?_⟩)
  exact rfl

theorem text_ok (t : ByteArray) (w : World) : Calls Try.prog 31 #[.string t] w (Ret w fun u _ => u = .agg #[.int .u8 3, .int .i64 0, .string t, .slice none 0 0, .slice none 0 0]) := by
  refine enter Try.func31 rfl Try.ntmps31 (Nat.le_of_ble_eq_true rfl) fun a0 hsz0 hdf0 harg => ?_
  have e0 : sl a0 0 = (.string (t)) := harg 0 (Nat.le_of_ble_eq_true rfl)
  have kw := Keeps.refl All w
  clear harg
  refine wp_seq_k fun K1 hK1 => ?_
  refine wp_reg All mixed hsz0 hdf0 st_tr trivial ?_
  refine Chain.alloc z25 ?_
  refine Chain.done ⟨by kernel_rfl, fun a2 g W2 hsz2 hdf2 hk hg henv hrest hpsi => ?_⟩
  obtain ⟨⟨b2_2, e2, hb2, own_b2_2⟩, -⟩ := henv
  have lo_b2_2 : w.heap.size ≤ b2_2 := Nat.le_trans kw.size (hg.lo _ _ hb2)
  have own_b2_2 : Own W2 b2_2 [(.int .u8 (0)), (.int .i64 (0)), (.string (⟨#[]⟩)), (.slice none 0 0), (.slice none 0 0)] 25 := own_b2_2
  replace e0 := (hrest 0 rfl).trans e0
  replace kw := kw.trans (.of_ext hk)
  clear hrest hk hg hpsi hb2
  refine tail_nil (hK1 _ _ ?_)
  refine wp_seq_k fun K3 hK3 => ?_
  refine wp_reg All mixed hsz2 hdf2 st_tr trivial ?_
  refine Chain.op (φ := Is (.string (t))) (st_is _) (sp_move (Has.base rfl e0)) ?_
  refine Chain.op (φ := Is (.agg #[(.int .u8 (3)), (.int .i64 (0)), (.string (t)), (.slice none 0 0), (.slice none 0 0)])) (st_is _) (sp_build (vs := [(0, (.int .u8 (3))), (2, (.string (t)))]) Try.underlying25 z25 (pl25 Try.underlying25) ⟨rfl, Has.cst, rfl, (Has.loc rfl), trivial⟩ rfl) ?_
  refine Chain.done ⟨by kernel_rfl, fun a4 g W4 hsz4 hdf4 hk hg henv hrest hpsi => ?_⟩
  obtain ⟨e4, -, -⟩ := henv
  replace e2 := (hrest 2 rfl).trans e2
  have e4 : sl a4 4 = (.agg #[(.int .u8 (3)), (.int .i64 (0)), (.string (t)), (.slice none 0 0), (.slice none 0 0)]) := e4
  replace own_b2_2 := own_b2_2.ext hk
  replace kw := kw.trans (.of_ext hk)
  clear hrest hk hg hpsi
  refine tail_store (b := b2_2) (o := 0) (v := (.agg #[(.int .u8 (3)), (.int .i64 (0)), (.string (t)), (.slice none 0 0), (.slice none 0 0)])) e2 e4 sz25 rfl own_b2_2 (Nat.le_of_ble_eq_true rfl) (all_cons rfl (all_cons rfl (all_cons rfl (all_cons rfl (all_cons rfl all_nil))))) (fun W5 hs own_b2_2 => ?_)
  have own_b2_2 : Own W5 b2_2 [(.int .u8 (3)), (.int .i64 (0)), (.string (t)), (.slice none 0 0), (.slice none 0 0)] 25 := own_b2_2
  replace kw := keeps_store kw hs lo_b2_2
  clear hs
  refine tail_nil (hK3 _ _ ?_)
  refine wp_ret ?_
  refine (show bodyPost Try.prog Try.f31 _ .ret _ _ from retC (v := (.agg #[(.int .u8 (3)), (.int .i64 (0)), (.string (t)), (.slice none 0 0), (.slice none 0 0)])) rfl hdf4 e2 own_b2_2 agg25 sz25 rfl (fun h => by cases h) rfl ⟨_, rfl, kw, ?_⟩)
  exact rfl

theorem yes_ok  (w : World) : Calls Try.prog 34 #[] w (Ret w fun u _ => u = .agg #[.int .u8 1, .int .i64 1, .string ⟨#[]⟩, .slice none 0 0, .slice none 0 0]) := by
  refine enter Try.func34 rfl Try.ntmps34 (Nat.le_of_ble_eq_true rfl) fun a0 hsz0 hdf0 harg => ?_
  have kw := Keeps.refl All w
  clear harg
  refine wp_seq_k fun K1 hK1 => ?_
  refine wp_reg All mixed hsz0 hdf0 st_tr trivial ?_
  refine Chain.alloc z25 ?_
  refine Chain.done ⟨by kernel_rfl, fun a2 g W2 hsz2 hdf2 hk hg henv hrest hpsi => ?_⟩
  obtain ⟨⟨b0_2, e0, hb0, own_b0_2⟩, -⟩ := henv
  have lo_b0_2 : w.heap.size ≤ b0_2 := Nat.le_trans kw.size (hg.lo _ _ hb0)
  have own_b0_2 : Own W2 b0_2 [(.int .u8 (0)), (.int .i64 (0)), (.string (⟨#[]⟩)), (.slice none 0 0), (.slice none 0 0)] 25 := own_b0_2
  replace kw := kw.trans (.of_ext hk)
  clear hrest hk hg hpsi hb0
  refine tail_nil (hK1 _ _ ?_)
  refine wp_seq_k fun K3 hK3 => ?_
  refine wp_reg All mixed hsz2 hdf2 st_tr trivial ?_
  refine Chain.op (φ := Is (.agg #[(.int .u8 (1)), (.int .i64 (1)), (.string (⟨#[]⟩)), (.slice none 0 0), (.slice none 0 0)])) (st_is _) (sp_build (vs := [(0, (.int .u8 (1))), (1, (.int .i64 (1)))]) Try.underlying25 z25 (pl25 Try.underlying25) ⟨rfl, Has.cst, rfl, Has.cst, trivial⟩ rfl) ?_
  refine Chain.done ⟨by kernel_rfl, fun a4 g W4 hsz4 hdf4 hk hg henv hrest hpsi => ?_⟩
  obtain ⟨e1, -⟩ := henv
  replace e0 := (hrest 0 rfl).trans e0
  have e1 : sl a4 1 = (.agg #[(.int .u8 (1)), (.int .i64 (1)), (.string (⟨#[]⟩)), (.slice none 0 0), (.slice none 0 0)]) := e1
  replace own_b0_2 := own_b0_2.ext hk
  replace kw := kw.trans (.of_ext hk)
  clear hrest hk hg hpsi
  refine tail_store (b := b0_2) (o := 0) (v := (.agg #[(.int .u8 (1)), (.int .i64 (1)), (.string (⟨#[]⟩)), (.slice none 0 0), (.slice none 0 0)])) e0 e1 sz25 rfl own_b0_2 (Nat.le_of_ble_eq_true rfl) (all_cons rfl (all_cons rfl (all_cons rfl (all_cons rfl (all_cons rfl all_nil))))) (fun W5 hs own_b0_2 => ?_)
  have own_b0_2 : Own W5 b0_2 [(.int .u8 (1)), (.int .i64 (1)), (.string (⟨#[]⟩)), (.slice none 0 0), (.slice none 0 0)] 25 := own_b0_2
  replace kw := keeps_store kw hs lo_b0_2
  clear hs
  refine tail_nil (hK3 _ _ ?_)
  refine wp_ret ?_
  refine (show bodyPost Try.prog Try.f34 _ .ret _ _ from retC (v := (.agg #[(.int .u8 (1)), (.int .i64 (1)), (.string (⟨#[]⟩)), (.slice none 0 0), (.slice none 0 0)])) rfl hdf4 e0 own_b0_2 agg25 sz25 rfl (fun h => by cases h) rfl ⟨_, rfl, kw, ?_⟩)
  exact rfl

theorem ascending_ok (ns : List ByteArray) (w : World) (S : BSet) (v : Value) (hv : Rd w S (strsD ns) v) : Calls Try.prog 44 #[v] w (Ret w fun u _ => u = .bool (asc ns)) := by
  have hn : ns.length ≤ maxLen := rd_lenS hv
  simp only [maxLen] at hn
  obtain ⟨va, vc, ev, D_v⟩ := rdS_out (rd_arg hv)
  subst ev
  refine enter Try.func44 rfl Try.ntmps44 (Nat.le_of_ble_eq_true rfl) fun a0 hsz0 hdf0 harg => ?_
  have e0 : sl a0 0 = (.slice va (ns.length) vc) := harg 0 (Nat.le_of_ble_eq_true rfl)
  have kw := Keeps.refl All w
  clear harg
  refine wp_seq_k fun K1 hK1 => ?_
  refine wp_reg All mixed hsz0 hdf0 st_tr trivial ?_
  refine Chain.op (φ := Is (.bool (false))) (st_is _) (sp_assign Has.cst) ?_
  refine Chain.done ⟨by kernel_rfl, fun a2 g W2 hsz2 hdf2 hk hg henv hrest hpsi => ?_⟩
  obtain ⟨-, -⟩ := henv
  replace e0 := (hrest 0 rfl).trans e0
  replace D_v := D_v.ext hk
  replace kw := kw.trans (.of_ext hk)
  clear hrest hk hg hpsi
  refine tail_nil (hK1 _ _ ?_)
  refine wp_seq_k fun K3 hK3 => ?_
  refine wp_seq_k fun K4 hK4 => ?_
  refine wp_reg All mixed hsz2 hdf2 st_tr trivial ?_
  refine Chain.op (φ := Is (.int .i64 (1))) (st_is _) (sp_assign Has.cst) ?_
  refine Chain.done ⟨by kernel_rfl, fun a5 g W5 hsz5 hdf5 hk hg henv hrest hpsi => ?_⟩
  obtain ⟨e3, -⟩ := henv
  replace e0 := (hrest 0 rfl).trans e0
  replace D_v := D_v.ext hk
  have e3 : sl a5 3 = (.int .i64 (1)) := e3
  replace kw := kw.trans (.of_ext hk)
  clear hrest hk hg hpsi
  refine tail_nil (hK4 _ _ ?_)
  refine wp_block ?_
  refine wp_for (ns.length) (fun k a W => a.tmps.size = 20 ∧ a.defers = [] ∧ Keeps All w W ∧ sl a 0 = (.slice va (ns.length) vc) ∧ sl a 3 = (.int .i64 (((k + 1 : Nat) : Int))) ∧ Rd W (SA w S []) (strsD (ns)) (.slice va (ns.length) vc) ∧ (∀ i (h : i + 1 < ns.length), i < k → sLt ns[i] ns[i + 1] = true)) ⟨hsz5, hdf5, kw, e0, (e3.trans (congrArg (Value.int .i64) (rfl))), D_v, fun i h hi => absurd hi (by omega)⟩ ?_
  clear kw e0 e3 D_v
  rintro k a6 W6 hkk ⟨hsz6, hdf6, kw, e0, e3, D_v, hinv⟩
  refine wp_seq_k fun K7 hK7 => ?_
  refine wp_seq_k fun K8 hK8 => ?_
  refine wp_reg All mixed hsz6 hdf6 st_tr trivial ?_
  refine Chain.op (φ := Is (.int .i64 (((k + 1 : Nat) : Int)))) (st_is _) (sp_move (Has.base rfl e3)) ?_
  refine Chain.op (φ := Is (.slice va (ns.length) vc)) (st_is _) (sp_move (Has.base rfl e0)) ?_
  refine Chain.op (φ := Is (.int .i64 (ns.length))) (st_is _) (sp_lenSs Try.underlying22 ((Has.loc rfl).dat D_v sub_all)) ?_
  refine Chain.op (φ := Is (.bool (decide ((((k + 1 : Nat) : Int) : Int) < (ns.length : Int))))) (st_is _) (sp_lss (Has.loc rfl) (Has.loc rfl)) ?_
  refine Chain.done ⟨by kernel_rfl, fun a9 g W9 hsz9 hdf9 hk hg henv hrest hpsi => ?_⟩
  obtain ⟨e7, -, -, -, -⟩ := henv
  replace e0 := (hrest 0 rfl).trans e0
  replace e3 := (hrest 3 rfl).trans e3
  replace D_v := D_v.ext hk
  have e7 : sl a9 7 = (.bool (decide ((((k + 1 : Nat) : Int) : Int) < (ns.length : Int)))) := e7
  replace kw := kw.trans (.of_ext hk)
  clear hrest hk hg hpsi
  refine tail_nil (hK8 _ _ ?_)
  refine wp_cond_split e7 (fun hc => ?_) (fun hc => ?_)
  · -- T: decide ((((k + 1 : Nat) : Int) : Int) < (ns.length : Int))
    have hlt : k + 1 < ns.length := by have := of_decide_eq_true hc; omega
    refine wp_skip (hK7 _ _ ?_)
    refine wp_seq_k fun K10 hK10 => ?_
    refine wp_block ?_
    refine wp_seq_k fun K11 hK11 => ?_
    refine wp_reg All mixed hsz9 hdf9 st_tr trivial ?_
    refine Chain.op (φ := Is (.slice va (ns.length) vc)) (st_is _) (sp_move (Has.base rfl e0)) ?_
    refine Chain.op (φ := Is (.int .i64 (((k + 1 : Nat) : Int)))) (st_is _) (sp_move (Has.base rfl e3)) ?_
    refine Chain.op (φ := Is (.int .i64 ((((k + 1 : Nat) : Int) : Int) - (1 : Int)))) (st_is _) (sp_sub (Has.loc rfl) Has.cst (i64_in (by omega))) ?_
    refine Chain.op (φ := IsR (SA w S []) (D.str (ns[k]'(by omega)))) (st_r sub_all) (sp_indexS (i := k) ((Has.loc rfl).dat D_v sub_all) (Has.loc rfl) Try.underlying22 sz9 (by omega) (by omega)) ?_
    refine Chain.op (φ := Is (.string (ns[k]'(by omega)))) (st_is _) (sp_loadStr (Has.loc rfl) agg9 sz9) ?_
    refine Chain.op (φ := Is (.slice va (ns.length) vc)) (st_is _) (sp_move (Has.base rfl e0)) ?_
    refine Chain.op (φ := Is (.int .i64 (((k + 1 : Nat) : Int)))) (st_is _) (sp_move (Has.base rfl e3)) ?_
    refine Chain.op (φ := IsR (SA w S []) (D.str (ns[(k + 1)]'hlt))) (st_r sub_all) (sp_indexS (i := (k + 1)) ((Has.loc rfl).dat D_v sub_all) (Has.loc rfl) Try.underlying22 sz9 rfl hlt) ?_
    refine Chain.op (φ := Is (.string (ns[(k + 1)]'hlt))) (st_is _) (sp_loadStr (Has.loc rfl) agg9 sz9) ?_
    refine Chain.op (φ := Is (.bool (!sLt (ns[k]'(by omega)) (ns[(k + 1)]'hlt)))) (st_is _) (sp_sGeq (Has.loc rfl) (Has.loc rfl)) ?_
    refine Chain.done ⟨by kernel_rfl, fun a12 g W12 hsz12 hdf12 hk hg henv hrest hpsi => ?_⟩
    obtain ⟨e19, -, -, -, -, -, -, -, -, -, -⟩ := henv
    replace e0 := (hrest 0 rfl).trans e0
    replace e3 := (hrest 3 rfl).trans e3
    replace D_v := D_v.ext hk
    have e19 : sl a12 19 = (.bool (!sLt (ns[k]'(by omega)) (ns[(k + 1)]'hlt))) := e19
    replace kw := kw.trans (.of_ext hk)
    clear hrest hk hg hpsi
    refine tail_nil (hK11 _ _ ?_)
    refine wp_cond_split e19 (fun hc => ?_) (fun hc => ?_)
    · -- T: !sLt (ns[k]'(by omega)) (ns[(k + 1)]'hlt)
      have hfin : asc ns = false := asc_false hlt (by simpa using hc)
      refine wp_seq_k fun K13 hK13 => ?_
      refine wp_reg All mixed hsz12 hdf12 st_tr trivial ?_
      refine Chain.op (φ := Is (.bool (false))) (st_is _) (sp_assign Has.cst) ?_
      refine Chain.done ⟨by kernel_rfl, fun a14 g W14 hsz14 hdf14 hk hg henv hrest hpsi => ?_⟩
      obtain ⟨e2, -⟩ := henv
      replace D_v := D_v.ext hk
      have e2 : sl a14 2 = (.bool (false)) := e2
      replace kw := kw.trans (.of_ext hk)
      clear hrest hk hg hpsi
      refine tail_nil (hK13 _ _ ?_)
      refine wp_ret ?_
      refine (show bodyPost Try.prog Try.f44 _ .ret _ _ from ret1 rfl hdf14 e2 ⟨_, rfl, kw, ?_⟩)
      rw [hfin]
    · -- E: !sLt (ns[k]'(by omega)) (ns[(k + 1)]'hlt)
      have hk1 : sLt ns[k] ns[k + 1] = true := by simpa using hc
      refine wp_skip (hK10 _ _ ?_)
      refine wp_reg All mixed hsz12 hdf12 st_tr trivial ?_
      refine Chain.op (φ := Is (.int .i64 (((k + 1 : Nat) : Int)))) (st_is _) (sp_move (Has.base rfl e3)) ?_
      refine Chain.op (φ := Is (.int .i64 ((((k + 1 : Nat) : Int) : Int) + (1 : Int)))) (st_is _) (sp_add (Has.loc rfl) Has.cst (i64_in (by omega))) ?_
      refine Chain.op (φ := Is (.int .i64 ((((k + 1 : Nat) : Int) : Int) + (1 : Int)))) (st_is _) (sp_assign (Has.loc rfl)) ?_
      refine Chain.done ⟨by kernel_rfl, fun a15 g W15 hsz15 hdf15 hk hg henv hrest hpsi => ?_⟩
      obtain ⟨e3, -, -, -⟩ := henv
      replace e0 := (hrest 0 rfl).trans e0
      replace D_v := D_v.ext hk
      have e3 : sl a15 3 = (.int .i64 ((((k + 1 : Nat) : Int) : Int) + (1 : Int))) := e3
      replace kw := kw.trans (.of_ext hk)
      clear hrest hk hg hpsi
      exact tail_nil ⟨by omega, hsz15, hdf15, kw, e0, (e3.trans (congrArg (Value.int .i64) (by omega))), D_v, fun i h hi => by rcases Nat.lt_succ_iff_lt_or_eq.1 hi with h1 | h1; exact hinv i h h1; subst h1; exact hk1⟩
  · -- E: decide ((((k + 1 : Nat) : Int) : Int) < (ns.length : Int))
    have hge : ¬ k + 1 < ns.length := by have := of_decide_eq_false hc; omega
    have hfin : asc ns = true := (asc_iff ns).2 fun i hi => hinv i hi (by omega)
    refine wp_exit (hK3 _ _ ?_)
    refine wp_seq_k fun K16 hK16 => ?_
    refine wp_reg All mixed hsz9 hdf9 st_tr trivial ?_
    refine Chain.op (φ := Is (.bool (true))) (st_is _) (sp_assign Has.cst) ?_
    refine Chain.done ⟨by kernel_rfl, fun a17 g W17 hsz17 hdf17 hk hg henv hrest hpsi => ?_⟩
    obtain ⟨e2, -⟩ := henv
    replace D_v := D_v.ext hk
    have e2 : sl a17 2 = (.bool (true)) := e2
    replace kw := kw.trans (.of_ext hk)
    clear hrest hk hg hpsi
    refine tail_nil (hK16 _ _ ?_)
    refine wp_ret ?_
    refine (show bodyPost Try.prog Try.f44 _ .ret _ _ from ret1 rfl hdf17 e2 ⟨_, rfl, kw, ?_⟩)
    rw [hfin]

theorem count_all : ∀ (n : Nat) (x : V), x.cnt ≤ n → n ≤ 1073741824 → ∀ (w : World) (S : BSet) (v : Value), Rd w S x.d v → Calls Try.prog 40 #[v] w (Ret w fun u _ => u = .int .i64 x.cnt) := by
  intro n
  induction n with
  | zero => intro x hx; cases x; simp [V.cnt] at hx
  | succ n ih =>
  intro x hx hn w S v hv
  have hcx := cnt_eq x
  have hlx := len_cnts x.xs
  obtain ⟨cn0a, cn0c, ci0a, ci0c, ev, ht0, D_cn0, D_ci0⟩ := rdV_out (rd_arg hv)
  subst ev
  refine enter Try.func40 rfl Try.ntmps40 (Nat.le_of_ble_eq_true rfl) fun a0 hsz0 hdf0 harg => ?_
  have e0 : sl a0 0 = (.agg #[(.int .u8 (x.k)), (.int .i64 (x.n)), (.string (x.t)), (.slice cn0a (x.ns.length) cn0c), (.slice ci0a (x.xs.length) ci0c)]) := harg 0 (Nat.le_of_ble_eq_true rfl)
  have kw := Keeps.refl All w
  clear harg
  refine wp_seq_k fun K1 hK1 => ?_
  refine wp_reg All mixed hsz0 hdf0 st_tr trivial ?_
  refine Chain.boxOp (v := (.agg #[(.int .u8 (x.k)), (.int .i64 (x.n)), (.string (x.t)), (.slice cn0a (x.ns.length) cn0c), (.slice ci0a (x.xs.length) ci0c)])) (Has.base rfl e0) ?_
  refine Chain.op (φ := Is (.int .i64 (0))) (st_is _) (sp_assign Has.cst) ?_
  refine Chain.done ⟨by kernel_rfl, fun a2 g W2 hsz2 hdf2 hk hg henv hrest hpsi => ?_⟩
  obtain ⟨-, ⟨b1_2, e1, hb1, own_b1_2⟩, -⟩ := henv
  have lo_b1_2 : w.heap.size ≤ b1_2 := Nat.le_trans kw.size (hg.lo _ _ hb1)
  have own_b1_2 : Own W2 b1_2 [(.int .u8 (x.k)), (.int .i64 (x.n)), (.string (x.t)), (.slice cn0a (x.ns.length) cn0c), (.slice ci0a (x.xs.length) ci0c)] 25 := own_b1_2
  replace D_cn0 := sa_more D_cn0 hk [b1_2] (in_cons (hg.lo _ _ hb1) in_nil)
  replace D_ci0 := sa_more D_ci0 hk [b1_2] (in_cons (hg.lo _ _ hb1) in_nil)
  replace kw := kw.trans (.of_ext hk)
  clear hrest hk hg hpsi hb1
  refine tail_nil (hK1 _ _ ?_)
  refine wp_seq_k fun K3 hK3 => ?_
  refine wp_reg All mixed hsz2 hdf2 st_tr trivial ?_
  refine Chain.op (φ := Is (.int .i64 (1))) (st_is _) (sp_assign Has.cst) ?_
  refine Chain.done ⟨by kernel_rfl, fun a4 g W4 hsz4 hdf4 hk hg henv hrest hpsi => ?_⟩
  obtain ⟨e3, -⟩ := henv
  replace e1 := (hrest 1 rfl).trans e1
  replace D_cn0 := D_cn0.ext hk
  replace D_ci0 := D_ci0.ext hk
  have e3 : sl a4 3 = (.int .i64 (1)) := e3
  replace own_b1_2 := own_b1_2.ext hk
  replace kw := kw.trans (.of_ext hk)
  clear hrest hk hg hpsi
  refine tail_nil (hK3 _ _ ?_)
  refine wp_seq_k fun K5 hK5 => ?_
  refine wp_seq_k fun K6 hK6 => ?_
  refine wp_reg All mixed hsz4 hdf4 st_tr trivial ?_
  refine Chain.op (φ := Is (.pointer (some ⟨b1_2, 4, none⟩))) (st_is _) (sp_fieldO (Has.base rfl e1) Try.underlying25 rfl sz23 rfl) ?_
  refine Chain.op (φ := Is (.slice ci0a (x.xs.length) ci0c)) (st_is _) (sp_loadO (v := (.slice ci0a (x.xs.length) ci0c)) (Has.loc rfl) own_b1_2 trivial agg23 sz23 (Nat.le_of_ble_eq_true rfl) (fun h => by first | rfl | cases h) rfl) ?_
  refine Chain.op (φ := Is (.int .i64 (x.xs.length))) (st_is _) (sp_lenVs Try.underlying23 ((Has.loc rfl).dat D_ci0 sub_all)) ?_
  refine Chain.op (φ := Is (.int .i64 (0))) (st_is _) (sp_move Has.cst) ?_
  refine Chain.done ⟨by kernel_rfl, fun a7 g W7 hsz7 hdf7 hk hg henv hrest hpsi => ?_⟩
  obtain ⟨e9, e8, e7, -, -⟩ := henv
  replace e3 := (hrest 3 rfl).trans e3
  replace D_cn0 := D_cn0.ext hk
  replace D_ci0 := D_ci0.ext hk
  have e7 : sl a7 7 = (.slice ci0a (x.xs.length) ci0c) := e7
  have e8 : sl a7 8 = (.int .i64 (x.xs.length)) := e8
  have e9 : sl a7 9 = (.int .i64 (0)) := e9
  replace own_b1_2 := own_b1_2.ext hk
  replace kw := kw.trans (.of_ext hk)
  clear hrest hk hg hpsi
  refine tail_nil (hK6 _ _ ?_)
  refine wp_block ?_
  replace D_ci0 := sa_less (M' := []) D_ci0 ls_nil
  refine wp_for (x.xs.length) (fun k a W => a.tmps.size = 19 ∧ a.defers = [] ∧ Keeps All w W ∧ sl a 3 = (.int .i64 (((V.cnts (x.xs.take k) + 1 : Nat) : Int))) ∧ sl a 7 = (.slice ci0a (x.xs.length) ci0c) ∧ sl a 8 = (.int .i64 (x.xs.length)) ∧ sl a 9 = (.int .i64 ((k : Nat))) ∧ Rd W (SA w S []) (valsD (x.xs)) (.slice ci0a (x.xs.length) ci0c)) ⟨hsz7, hdf7, kw, (e3.trans (congrArg (Value.int .i64) (by simp [V.cnts]))), e7, e8, (e9.trans (congrArg (Value.int .i64) (rfl))), D_ci0⟩ ?_
  clear kw e3 e7 e8 e9 D_ci0
  rintro k a8 W8 hkk ⟨hsz8, hdf8, kw, e3, e7, e8, e9, D_ci0⟩
  refine wp_seq_k fun K9 hK9 => ?_
  refine wp_reg All mixed hsz8 hdf8 st_tr trivial ?_
  refine Chain.op (φ := Is (.bool (decide (((k : Nat) : Int) < (x.xs.length : Int))))) (st_is _) (sp_lss (Has.base rfl e9) (Has.base rfl e8)) ?_
  refine Chain.done ⟨by kernel_rfl, fun a10 g W10 hsz10 hdf10 hk hg henv hrest hpsi => ?_⟩
  obtain ⟨e10, -⟩ := henv
  replace e3 := (hrest 3 rfl).trans e3
  replace e7 := (hrest 7 rfl).trans e7
  replace e8 := (hrest 8 rfl).trans e8
  replace e9 := (hrest 9 rfl).trans e9
  replace D_ci0 := D_ci0.ext hk
  have e10 : sl a10 10 = (.bool (decide (((k : Nat) : Int) < (x.xs.length : Int)))) := e10
  replace kw := kw.trans (.of_ext hk)
  clear hrest hk hg hpsi
  refine tail_nil (hK9 _ _ ?_)
  refine wp_seq_k fun K11 hK11 => ?_
  refine wp_cond_split e10 (fun hc => ?_) (fun hc => ?_)
  · -- T: decide (((k : Nat) : Int) < (x.xs.length : Int))
    have hlt : k < x.xs.length := by simpa using hc
    have hs1 := cnts_take x.xs k hlt
    have hs2 := cnts_le x.xs (k + 1)
    refine wp_skip (hK11 _ _ ?_)
    refine wp_seq_k fun K12 hK12 => ?_
    refine wp_block ?_
    refine wp_seq_k fun K13 hK13 => ?_
    refine wp_reg All mixed hsz10 hdf10 st_tr trivial ?_
    refine Chain.op (φ := IsR (SA w S []) (V.d (x.xs[k]'hlt))) (st_r sub_all) (sp_indexV (i := k) ((Has.base rfl e7).dat D_ci0 sub_all) (Has.base rfl e9) Try.underlying23 sz25 rfl hlt) ?_
    refine Chain.op (φ := IsD (SA w S []) (V.d (x.xs[k]'hlt))) (st_d sub_all) (sp_loadV (Has.loc rfl) agg25 sz25) ?_
    refine Chain.alloc z25 ?_
    refine Chain.done ⟨by kernel_rfl, fun a14 g W14 hsz14 hdf14 hk hg henv hrest hpsi => ?_⟩
    obtain ⟨⟨b5_14, e5, hb5, own_b5_14⟩, e12, -, -⟩ := henv
    have lo_b5_14 : w.heap.size ≤ b5_14 := Nat.le_trans kw.size (hg.lo _ _ hb5)
    have own_b5_14 : Own W14 b5_14 [(.int .u8 (0)), (.int .i64 (0)), (.string (⟨#[]⟩)), (.slice none 0 0), (.slice none 0 0)] 25 := own_b5_14
    replace e3 := (hrest 3 rfl).trans e3
    replace e7 := (hrest 7 rfl).trans e7
    replace e8 := (hrest 8 rfl).trans e8
    replace e9 := (hrest 9 rfl).trans e9
    replace D_ci0 := sa_more D_ci0 hk [b5_14] (in_cons (hg.lo _ _ hb5) in_nil)
    obtain ⟨v12_14, ev⟩ : ∃ v, sl a14 12 = v := ⟨_, rfl⟩
    rw [ev] at e12
    have D_v12_14 : Rd W14 (SA w S [b5_14]) (V.d (x.xs[k]'hlt)) v12_14 := sa_end e12 hk [b5_14] (in_cons ⟨_, hb5⟩ in_nil)
    replace e12 := ev; clear ev
    obtain ⟨cn12_14a, cn12_14c, ci12_14a, ci12_14c, ev, ht_v12_14, D_cn12_14, D_ci12_14⟩ := rdV_out D_v12_14
    subst ev; clear D_v12_14
    replace kw := kw.trans (.of_ext hk)
    clear hrest hk hg hpsi hb5
    refine tail_store (b := b5_14) (o := 0) (v := (.agg #[(.int .u8 ((x.xs[k]'hlt).k)), (.int .i64 ((x.xs[k]'hlt).n)), (.string ((x.xs[k]'hlt).t)), (.slice cn12_14a (((x.xs[k]'hlt).ns).length) cn12_14c), (.slice ci12_14a (((x.xs[k]'hlt).xs).length) ci12_14c)])) e5 e12 sz25 rfl own_b5_14 (Nat.le_of_ble_eq_true rfl) (all_cons rfl (all_cons rfl (all_cons rfl (all_cons rfl (all_cons rfl all_nil))))) (fun W15 hs own_b5_14 => ?_)
    have own_b5_14 : Own W15 b5_14 [(.int .u8 ((x.xs[k]'hlt).k)), (.int .i64 ((x.xs[k]'hlt).n)), (.string ((x.xs[k]'hlt).t)), (.slice cn12_14a (((x.xs[k]'hlt).ns).length) cn12_14c), (.slice ci12_14a (((x.xs[k]'hlt).xs).length) ci12_14c)] 25 := own_b5_14
    replace D_ci0 := sa_store D_ci0 hs (by simp)
    replace D_cn12_14 := sa_store D_cn12_14 hs (by simp)
    replace D_ci12_14 := sa_store D_ci12_14 hs (by simp)
    replace kw := keeps_store kw hs lo_b5_14
    clear hs
    refine tail_nil (hK13 _ _ ?_)
    refine wp_reg All mixed hsz14 hdf14 st_tr trivial ?_
    refine Chain.op (φ := Is (.int .i64 (((V.cnts (x.xs.take k) + 1 : Nat) : Int)))) (st_is _) (sp_move (Has.base rfl e3)) ?_
    refine Chain.op (φ := Is (.agg #[(.int .u8 ((x.xs[k]'hlt).k)), (.int .i64 ((x.xs[k]'hlt).n)), (.string ((x.xs[k]'hlt).t)), (.slice cn12_14a (((x.xs[k]'hlt).ns).length) cn12_14c), (.slice ci12_14a (((x.xs[k]'hlt).xs).length) ci12_14c)])) (st_is _) (sp_loadO (v := (.agg #[(.int .u8 ((x.xs[k]'hlt).k)), (.int .i64 ((x.xs[k]'hlt).n)), (.string ((x.xs[k]'hlt).t)), (.slice cn12_14a (((x.xs[k]'hlt).ns).length) cn12_14c), (.slice ci12_14a (((x.xs[k]'hlt).xs).length) ci12_14c)])) (Has.base rfl e5) own_b5_14 trivial agg25 sz25 (Nat.le_of_ble_eq_true rfl) (fun h => by first | rfl | cases h) rfl) ?_
    refine Chain.op (φ := Is (.int .i64 (V.cnt ((x.xs[k]'hlt))))) (st_is _) (sp_call1 (φ1 := IsD (SA w S [b5_14]) (V.d ((x.xs[k]'hlt)))) ent40 ((Has.loc rfl).dat (rdV_in (x := (x.xs[k]'hlt)) ht_v12_14 D_cn12_14 D_ci12_14 : Rd W15 (SA w S [b5_14]) (V.d ((x.xs[k]'hlt))) _) sub_all) (fun g u1 W hk hgk h1 => ih ((x.xs[k]'hlt)) (by omega) (by omega) W _ _ h1)) ?_
    refine Chain.op (φ := Is (.int .i64 ((((V.cnts (x.xs.take k) + 1 : Nat) : Int) : Int) + (V.cnt ((x.xs[k]'hlt)) : Int)))) (st_is _) (sp_add (Has.loc rfl) (Has.loc rfl) (i64_in (by omega))) ?_
    refine Chain.op (φ := Is (.int .i64 ((((V.cnts (x.xs.take k) + 1 : Nat) : Int) : Int) + (V.cnt ((x.xs[k]'hlt)) : Int)))) (st_is _) (sp_assign (Has.loc rfl)) ?_
    refine Chain.done ⟨by kernel_rfl, fun a16 g W16 hsz16 hdf16 hk hg henv hrest hpsi => ?_⟩
    obtain ⟨e3, -, -, -, -, -⟩ := henv
    replace e7 := (hrest 7 rfl).trans e7
    replace e8 := (hrest 8 rfl).trans e8
    replace e9 := (hrest 9 rfl).trans e9
    replace D_ci0 := D_ci0.ext hk
    replace D_cn12_14 := D_cn12_14.ext hk
    replace D_ci12_14 := D_ci12_14.ext hk
    have e3 : sl a16 3 = (.int .i64 ((((V.cnts (x.xs.take k) + 1 : Nat) : Int) : Int) + (V.cnt ((x.xs[k]'hlt)) : Int))) := e3
    replace own_b5_14 := own_b5_14.ext hk
    replace kw := kw.trans (.of_ext hk)
    clear hrest hk hg hpsi
    refine tail_nil (hK12 _ _ ?_)
    refine wp_reg All mixed hsz16 hdf16 st_tr trivial ?_
    refine Chain.op (φ := Is (.int .i64 (((k : Nat) : Int) + (1 : Int)))) (st_is _) (sp_add (Has.base rfl e9) Has.cst (i64_in (by omega))) ?_
    refine Chain.op (φ := Is (.int .i64 (((k : Nat) : Int) + (1 : Int)))) (st_is _) (sp_move (Has.loc rfl)) ?_
    refine Chain.done ⟨by kernel_rfl, fun a17 g W17 hsz17 hdf17 hk hg henv hrest hpsi => ?_⟩
    obtain ⟨e9, -, -⟩ := henv
    replace e3 := (hrest 3 rfl).trans e3
    replace e7 := (hrest 7 rfl).trans e7
    replace e8 := (hrest 8 rfl).trans e8
    replace D_ci0 := D_ci0.ext hk
    have e9 : sl a17 9 = (.int .i64 (((k : Nat) : Int) + (1 : Int))) := e9
    replace own_b5_14 := own_b5_14.ext hk
    replace kw := kw.trans (.of_ext hk)
    clear hrest hk hg hpsi
    exact tail_nil ⟨hlt, hsz17, hdf17, kw, (e3.trans (congrArg (Value.int .i64) (by rw [hs1]; simp; omega))), e7, e8, (e9.trans (congrArg (Value.int .i64) (by simp))), (sa_less D_ci0 ls_nil)⟩
  · -- E: decide (((k : Nat) : Int) < (x.xs.length : Int))
    have hge0 : ¬ k < x.xs.length := by simpa using hc
    have hge : k = x.xs.length := by omega
    refine wp_exit (hK5 _ _ ?_)
    refine wp_seq_k fun K18 hK18 => ?_
    refine wp_reg All mixed hsz10 hdf10 st_tr trivial ?_
    refine Chain.op (φ := Is (.int .i64 (((V.cnts (x.xs.take k) + 1 : Nat) : Int)))) (st_is _) (sp_move (Has.base rfl e3)) ?_
    refine Chain.op (φ := Is (.int .i64 (((V.cnts (x.xs.take k) + 1 : Nat) : Int)))) (st_is _) (sp_assign (Has.loc rfl)) ?_
    refine Chain.done ⟨by kernel_rfl, fun a19 g W19 hsz19 hdf19 hk hg henv hrest hpsi => ?_⟩
    obtain ⟨e2, -, -⟩ := henv
    replace D_ci0 := D_ci0.ext hk
    have e2 : sl a19 2 = (.int .i64 (((V.cnts (x.xs.take k) + 1 : Nat) : Int))) := e2
    replace kw := kw.trans (.of_ext hk)
    clear hrest hk hg hpsi
    refine tail_nil (hK18 _ _ ?_)
    refine wp_ret ?_
    refine (show bodyPost Try.prog Try.f40 _ .ret _ _ from ret1 rfl hdf19 e2 ⟨_, rfl, kw, ?_⟩)
    rw [hge, List.take_length, hcx]

theorem depth_all : ∀ (n : Nat) (x : V), x.cnt ≤ n → n ≤ 1073741824 → ∀ (w : World) (S : BSet) (v : Value), Rd w S x.d v → Calls Try.prog 41 #[v] w (Ret w fun u _ => u = .int .i64 x.dep) := by
  intro n
  induction n with
  | zero => intro x hx; cases x; simp [V.cnt] at hx
  | succ n ih =>
  intro x hx hn w S v hv
  have hcx := cnt_eq x
  have hdx := dep_eq x
  have hlx := len_cnts x.xs
  obtain ⟨cn0a, cn0c, ci0a, ci0c, ev, ht0, D_cn0, D_ci0⟩ := rdV_out (rd_arg hv)
  subst ev
  refine enter Try.func41 rfl Try.ntmps41 (Nat.le_of_ble_eq_true rfl) fun a0 hsz0 hdf0 harg => ?_
  have e0 : sl a0 0 = (.agg #[(.int .u8 (x.k)), (.int .i64 (x.n)), (.string (x.t)), (.slice cn0a (x.ns.length) cn0c), (.slice ci0a (x.xs.length) ci0c)]) := harg 0 (Nat.le_of_ble_eq_true rfl)
  have kw := Keeps.refl All w
  clear harg
  refine wp_seq_k fun K1 hK1 => ?_
  refine wp_reg All mixed hsz0 hdf0 st_tr trivial ?_
  refine Chain.boxOp (v := (.agg #[(.int .u8 (x.k)), (.int .i64 (x.n)), (.string (x.t)), (.slice cn0a (x.ns.length) cn0c), (.slice ci0a (x.xs.length) ci0c)])) (Has.base rfl e0) ?_
  refine Chain.op (φ := Is (.int .i64 (0))) (st_is _) (sp_assign Has.cst) ?_
  refine Chain.done ⟨by kernel_rfl, fun a2 g W2 hsz2 hdf2 hk hg henv hrest hpsi => ?_⟩
  obtain ⟨-, ⟨b1_2, e1, hb1, own_b1_2⟩, -⟩ := henv
  have lo_b1_2 : w.heap.size ≤ b1_2 := Nat.le_trans kw.size (hg.lo _ _ hb1)
  have own_b1_2 : Own W2 b1_2 [(.int .u8 (x.k)), (.int .i64 (x.n)), (.string (x.t)), (.slice cn0a (x.ns.length) cn0c), (.slice ci0a (x.xs.length) ci0c)] 25 := own_b1_2
  replace D_cn0 := sa_more D_cn0 hk [b1_2] (in_cons (hg.lo _ _ hb1) in_nil)
  replace D_ci0 := sa_more D_ci0 hk [b1_2] (in_cons (hg.lo _ _ hb1) in_nil)
  replace kw := kw.trans (.of_ext hk)
  clear hrest hk hg hpsi hb1
  refine tail_nil (hK1 _ _ ?_)
  refine wp_seq_k fun K3 hK3 => ?_
  refine wp_seq_k fun K4 hK4 => ?_
  refine wp_reg All mixed hsz2 hdf2 st_tr trivial ?_
  refine Chain.op (φ := Is (.pointer (some ⟨b1_2, 0, none⟩))) (st_is _) (sp_fieldO (Has.base rfl e1) Try.underlying25 rfl sz5 rfl) ?_
  refine Chain.op (φ := Is (.int .u8 (x.k))) (st_is _) (sp_loadO (v := (.int .u8 (x.k))) (Has.loc rfl) own_b1_2 trivial agg5 sz5 (Nat.le_of_ble_eq_true rfl) (fun h => by first | rfl | cases h) rfl) ?_
  refine Chain.op (φ := Is (.bool ((x.k : Int) != (4 : Int)))) (st_is _) (sp_neq (Has.loc rfl) Has.cst) ?_
  refine Chain.op (φ := Is (.bool ((x.k : Int) != (4 : Int)))) (st_is _) (sp_move (Has.loc rfl)) ?_
  refine Chain.opE (t := 9) (x := (x.k : Int) != (4 : Int)) (φ := Is (.pointer (some ⟨b1_2, 0, none⟩))) rfl (Has.loc rfl) (st_is _) (fun hg => sp_fieldO (Has.base rfl e1) Try.underlying25 rfl sz5 rfl) ?_
  refine Chain.opE (t := 9) (x := (x.k : Int) != (4 : Int)) (φ := Is (.int .u8 (x.k))) rfl (Has.loc rfl) (st_is _) (fun hg => sp_loadO (v := (.int .u8 (x.k))) ((Has.loc rfl).undE hg) own_b1_2 trivial agg5 sz5 (Nat.le_of_ble_eq_true rfl) (fun h => by first | rfl | cases h) rfl) ?_
  refine Chain.opE (t := 9) (x := (x.k : Int) != (4 : Int)) (φ := Is (.bool ((x.k : Int) != (5 : Int)))) rfl (Has.loc rfl) (st_is _) (fun hg => sp_neq ((Has.loc rfl).undE hg) Has.cst) ?_
  refine Chain.op (φ := Is (.bool (((x.k : Int) != (4 : Int)) && ((x.k : Int) != (5 : Int))))) (st_is _) (sp_and (Has.loc rfl) ((Has.loc rfl).weak fun hq => hq)) ?_
  refine Chain.done ⟨by kernel_rfl, fun a5 g W5 hsz5 hdf5 hk hg henv hrest hpsi => ?_⟩
  obtain ⟨e13, -, -, -, -, -, -, -, -⟩ := henv
  replace e1 := (hrest 1 rfl).trans e1
  replace D_cn0 := D_cn0.ext hk
  replace D_ci0 := D_ci0.ext hk
  have e13 : sl a5 13 = (.bool (((x.k : Int) != (4 : Int)) && ((x.k : Int) != (5 : Int)))) := e13
  replace own_b1_2 := own_b1_2.ext hk
  replace kw := kw.trans (.of_ext hk)
  clear hrest hk hg hpsi
  refine tail_nil (hK4 _ _ ?_)
  refine wp_cond_split e13 (fun hc => ?_) (fun hc => ?_)
  · -- T: ((x.k : Int) != (4 : Int)) && ((x.k : Int) != (5 : Int))
    have hfin : x.dep = 0 := by simp at hc; rw [hdx, if_neg (by omega)]
    refine wp_seq_k fun K6 hK6 => ?_
    refine wp_reg All mixed hsz5 hdf5 st_tr trivial ?_
    refine Chain.op (φ := Is (.int .i64 (0))) (st_is _) (sp_assign Has.cst) ?_
    refine Chain.done ⟨by kernel_rfl, fun a7 g W7 hsz7 hdf7 hk hg henv hrest hpsi => ?_⟩
    obtain ⟨e2, -⟩ := henv
    replace D_cn0 := D_cn0.ext hk
    replace D_ci0 := D_ci0.ext hk
    have e2 : sl a7 2 = (.int .i64 (0)) := e2
    replace own_b1_2 := own_b1_2.ext hk
    replace kw := kw.trans (.of_ext hk)
    clear hrest hk hg hpsi
    refine tail_nil (hK6 _ _ ?_)
    refine wp_ret ?_
    refine (show bodyPost Try.prog Try.f41 _ .ret _ _ from ret1 rfl hdf7 e2 ⟨_, rfl, kw, ?_⟩)
    rw [hfin]; rfl
  · -- E: ((x.k : Int) != (4 : Int)) && ((x.k : Int) != (5 : Int))
    have hkk : x.k = 4 ∨ x.k = 5 := by simp at hc; omega
    rw [if_pos hkk] at hdx
    refine wp_skip (hK3 _ _ ?_)
    refine wp_seq_k fun K8 hK8 => ?_
    refine wp_reg All mixed hsz5 hdf5 st_tr trivial ?_
    refine Chain.op (φ := Is (.int .i64 (0))) (st_is _) (sp_assign Has.cst) ?_
    refine Chain.done ⟨by kernel_rfl, fun a9 g W9 hsz9 hdf9 hk hg henv hrest hpsi => ?_⟩
    obtain ⟨e3, -⟩ := henv
    replace e1 := (hrest 1 rfl).trans e1
    replace D_cn0 := D_cn0.ext hk
    replace D_ci0 := D_ci0.ext hk
    have e3 : sl a9 3 = (.int .i64 (0)) := e3
    replace own_b1_2 := own_b1_2.ext hk
    replace kw := kw.trans (.of_ext hk)
    clear hrest hk hg hpsi
    refine tail_nil (hK8 _ _ ?_)
    refine wp_seq_k fun K10 hK10 => ?_
    refine wp_seq_k fun K11 hK11 => ?_
    refine wp_reg All mixed hsz9 hdf9 st_tr trivial ?_
    refine Chain.op (φ := Is (.pointer (some ⟨b1_2, 4, none⟩))) (st_is _) (sp_fieldO (Has.base rfl e1) Try.underlying25 rfl sz23 rfl) ?_
    refine Chain.op (φ := Is (.slice ci0a (x.xs.length) ci0c)) (st_is _) (sp_loadO (v := (.slice ci0a (x.xs.length) ci0c)) (Has.loc rfl) own_b1_2 trivial agg23 sz23 (Nat.le_of_ble_eq_true rfl) (fun h => by first | rfl | cases h) rfl) ?_
    refine Chain.op (φ := Is (.int .i64 (x.xs.length))) (st_is _) (sp_lenVs Try.underlying23 ((Has.loc rfl).dat D_ci0 sub_all)) ?_
    refine Chain.op (φ := Is (.int .i64 (0))) (st_is _) (sp_move Has.cst) ?_
    refine Chain.done ⟨by kernel_rfl, fun a12 g W12 hsz12 hdf12 hk hg henv hrest hpsi => ?_⟩
    obtain ⟨e17, e16, e15, -, -⟩ := henv
    replace e3 := (hrest 3 rfl).trans e3
    replace D_cn0 := D_cn0.ext hk
    replace D_ci0 := D_ci0.ext hk
    have e15 : sl a12 15 = (.slice ci0a (x.xs.length) ci0c) := e15
    have e16 : sl a12 16 = (.int .i64 (x.xs.length)) := e16
    have e17 : sl a12 17 = (.int .i64 (0)) := e17
    replace own_b1_2 := own_b1_2.ext hk
    replace kw := kw.trans (.of_ext hk)
    clear hrest hk hg hpsi
    refine tail_nil (hK11 _ _ ?_)
    refine wp_block ?_
    replace D_ci0 := sa_less (M' := []) D_ci0 ls_nil
    refine wp_for (x.xs.length) (fun k a W => a.tmps.size = 28 ∧ a.defers = [] ∧ Keeps All w W ∧ sl a 3 = (.int .i64 (((V.deps (x.xs.take k) : Nat) : Int))) ∧ sl a 15 = (.slice ci0a (x.xs.length) ci0c) ∧ sl a 16 = (.int .i64 (x.xs.length)) ∧ sl a 17 = (.int .i64 ((k : Nat))) ∧ Rd W (SA w S []) (valsD (x.xs)) (.slice ci0a (x.xs.length) ci0c)) ⟨hsz12, hdf12, kw, (e3.trans (congrArg (Value.int .i64) (by simp [V.deps]))), e15, e16, (e17.trans (congrArg (Value.int .i64) (rfl))), D_ci0⟩ ?_
    clear kw e3 e15 e16 e17 D_ci0
    rintro k a13 W13 hkk ⟨hsz13, hdf13, kw, e3, e15, e16, e17, D_ci0⟩
    refine wp_seq_k fun K14 hK14 => ?_
    refine wp_reg All mixed hsz13 hdf13 st_tr trivial ?_
    refine Chain.op (φ := Is (.bool (decide (((k : Nat) : Int) < (x.xs.length : Int))))) (st_is _) (sp_lss (Has.base rfl e17) (Has.base rfl e16)) ?_
    refine Chain.done ⟨by kernel_rfl, fun a15 g W15 hsz15 hdf15 hk hg henv hrest hpsi => ?_⟩
    obtain ⟨e18, -⟩ := henv
    replace e3 := (hrest 3 rfl).trans e3
    replace e15 := (hrest 15 rfl).trans e15
    replace e16 := (hrest 16 rfl).trans e16
    replace e17 := (hrest 17 rfl).trans e17
    replace D_ci0 := D_ci0.ext hk
    have e18 : sl a15 18 = (.bool (decide (((k : Nat) : Int) < (x.xs.length : Int)))) := e18
    replace kw := kw.trans (.of_ext hk)
    clear hrest hk hg hpsi
    refine tail_nil (hK14 _ _ ?_)
    refine wp_seq_k fun K16 hK16 => ?_
    refine wp_cond_split e18 (fun hc => ?_) (fun hc => ?_)
    · -- T: decide (((k : Nat) : Int) < (x.xs.length : Int))
      have hlt : k < x.xs.length := by simpa using hc
      have hs1 := deps_take x.xs k hlt
      have hs2 := cnt_elem hlt
      have hs3 := dep_cnt (x.xs[k])
      have hs4 := deps_cnts (x.xs.take k)
      have hs5 := cnts_le x.xs k
      refine wp_skip (hK16 _ _ ?_)
      refine wp_seq_k fun K17 hK17 => ?_
      refine wp_block ?_
      refine wp_seq_k fun K18 hK18 => ?_
      refine wp_reg All mixed hsz15 hdf15 st_tr trivial ?_
      refine Chain.op (φ := IsR (SA w S []) (V.d (x.xs[k]'hlt))) (st_r sub_all) (sp_indexV (i := k) ((Has.base rfl e15).dat D_ci0 sub_all) (Has.base rfl e17) Try.underlying23 sz25 rfl hlt) ?_
      refine Chain.op (φ := IsD (SA w S []) (V.d (x.xs[k]'hlt))) (st_d sub_all) (sp_loadV (Has.loc rfl) agg25 sz25) ?_
      refine Chain.alloc z25 ?_
      refine Chain.done ⟨by kernel_rfl, fun a19 g W19 hsz19 hdf19 hk hg henv hrest hpsi => ?_⟩
      obtain ⟨⟨b5_19, e5, hb5, own_b5_19⟩, e20, -, -⟩ := henv
      have lo_b5_19 : w.heap.size ≤ b5_19 := Nat.le_trans kw.size (hg.lo _ _ hb5)
      have own_b5_19 : Own W19 b5_19 [(.int .u8 (0)), (.int .i64 (0)), (.string (⟨#[]⟩)), (.slice none 0 0), (.slice none 0 0)] 25 := own_b5_19
      replace e3 := (hrest 3 rfl).trans e3
      replace e15 := (hrest 15 rfl).trans e15
      replace e16 := (hrest 16 rfl).trans e16
      replace e17 := (hrest 17 rfl).trans e17
      replace D_ci0 := sa_more D_ci0 hk [b5_19] (in_cons (hg.lo _ _ hb5) in_nil)
      obtain ⟨v20_19, ev⟩ : ∃ v, sl a19 20 = v := ⟨_, rfl⟩
      rw [ev] at e20
      have D_v20_19 : Rd W19 (SA w S [b5_19]) (V.d (x.xs[k]'hlt)) v20_19 := sa_end e20 hk [b5_19] (in_cons ⟨_, hb5⟩ in_nil)
      replace e20 := ev; clear ev
      obtain ⟨cn20_19a, cn20_19c, ci20_19a, ci20_19c, ev, ht_v20_19, D_cn20_19, D_ci20_19⟩ := rdV_out D_v20_19
      subst ev; clear D_v20_19
      replace kw := kw.trans (.of_ext hk)
      clear hrest hk hg hpsi hb5
      refine tail_store (b := b5_19) (o := 0) (v := (.agg #[(.int .u8 ((x.xs[k]'hlt).k)), (.int .i64 ((x.xs[k]'hlt).n)), (.string ((x.xs[k]'hlt).t)), (.slice cn20_19a (((x.xs[k]'hlt).ns).length) cn20_19c), (.slice ci20_19a (((x.xs[k]'hlt).xs).length) ci20_19c)])) e5 e20 sz25 rfl own_b5_19 (Nat.le_of_ble_eq_true rfl) (all_cons rfl (all_cons rfl (all_cons rfl (all_cons rfl (all_cons rfl all_nil))))) (fun W20 hs own_b5_19 => ?_)
      have own_b5_19 : Own W20 b5_19 [(.int .u8 ((x.xs[k]'hlt).k)), (.int .i64 ((x.xs[k]'hlt).n)), (.string ((x.xs[k]'hlt).t)), (.slice cn20_19a (((x.xs[k]'hlt).ns).length) cn20_19c), (.slice ci20_19a (((x.xs[k]'hlt).xs).length) ci20_19c)] 25 := own_b5_19
      replace D_ci0 := sa_store D_ci0 hs (by simp)
      replace D_cn20_19 := sa_store D_cn20_19 hs (by simp)
      replace D_ci20_19 := sa_store D_ci20_19 hs (by simp)
      replace kw := keeps_store kw hs lo_b5_19
      clear hs
      refine tail_nil (hK18 _ _ ?_)
      refine wp_reg All mixed hsz19 hdf19 st_tr trivial ?_
      refine Chain.op (φ := Is (.int .i64 (((V.deps (x.xs.take k) : Nat) : Int)))) (st_is _) (sp_move (Has.base rfl e3)) ?_
      refine Chain.op (φ := Is (.agg #[(.int .u8 ((x.xs[k]'hlt).k)), (.int .i64 ((x.xs[k]'hlt).n)), (.string ((x.xs[k]'hlt).t)), (.slice cn20_19a (((x.xs[k]'hlt).ns).length) cn20_19c), (.slice ci20_19a (((x.xs[k]'hlt).xs).length) ci20_19c)])) (st_is _) (sp_loadO (v := (.agg #[(.int .u8 ((x.xs[k]'hlt).k)), (.int .i64 ((x.xs[k]'hlt).n)), (.string ((x.xs[k]'hlt).t)), (.slice cn20_19a (((x.xs[k]'hlt).ns).length) cn20_19c), (.slice ci20_19a (((x.xs[k]'hlt).xs).length) ci20_19c)])) (Has.base rfl e5) own_b5_19 trivial agg25 sz25 (Nat.le_of_ble_eq_true rfl) (fun h => by first | rfl | cases h) rfl) ?_
      refine Chain.op (φ := Is (.int .i64 (V.dep ((x.xs[k]'hlt))))) (st_is _) (sp_call1 (φ1 := IsD (SA w S [b5_19]) (V.d ((x.xs[k]'hlt)))) ent41 ((Has.loc rfl).dat (rdV_in (x := (x.xs[k]'hlt)) ht_v20_19 D_cn20_19 D_ci20_19 : Rd W20 (SA w S [b5_19]) (V.d ((x.xs[k]'hlt))) _) sub_all) (fun g u1 W hk hgk h1 => ih ((x.xs[k]'hlt)) (by omega) (by omega) W _ _ h1)) ?_
      refine Chain.op (φ := Is (.int .i64 (max (((V.deps (x.xs.take k) : Nat) : Int) : Int) (V.dep ((x.xs[k]'hlt)) : Int)))) (st_is _) (sp_max (Has.loc rfl) (Has.loc rfl)) ?_
      refine Chain.op (φ := Is (.int .i64 (max (((V.deps (x.xs.take k) : Nat) : Int) : Int) (V.dep ((x.xs[k]'hlt)) : Int)))) (st_is _) (sp_assign (Has.loc rfl)) ?_
      refine Chain.done ⟨by kernel_rfl, fun a21 g W21 hsz21 hdf21 hk hg henv hrest hpsi => ?_⟩
      obtain ⟨e3, -, -, -, -, -⟩ := henv
      replace e15 := (hrest 15 rfl).trans e15
      replace e16 := (hrest 16 rfl).trans e16
      replace e17 := (hrest 17 rfl).trans e17
      replace D_ci0 := D_ci0.ext hk
      replace D_cn20_19 := D_cn20_19.ext hk
      replace D_ci20_19 := D_ci20_19.ext hk
      have e3 : sl a21 3 = (.int .i64 (max (((V.deps (x.xs.take k) : Nat) : Int) : Int) (V.dep ((x.xs[k]'hlt)) : Int))) := e3
      replace own_b5_19 := own_b5_19.ext hk
      replace kw := kw.trans (.of_ext hk)
      clear hrest hk hg hpsi
      refine tail_nil (hK17 _ _ ?_)
      refine wp_reg All mixed hsz21 hdf21 st_tr trivial ?_
      refine Chain.op (φ := Is (.int .i64 (((k : Nat) : Int) + (1 : Int)))) (st_is _) (sp_add (Has.base rfl e17) Has.cst (i64_in (by omega))) ?_
      refine Chain.op (φ := Is (.int .i64 (((k : Nat) : Int) + (1 : Int)))) (st_is _) (sp_move (Has.loc rfl)) ?_
      refine Chain.done ⟨by kernel_rfl, fun a22 g W22 hsz22 hdf22 hk hg henv hrest hpsi => ?_⟩
      obtain ⟨e17, -, -⟩ := henv
      replace e3 := (hrest 3 rfl).trans e3
      replace e15 := (hrest 15 rfl).trans e15
      replace e16 := (hrest 16 rfl).trans e16
      replace D_ci0 := D_ci0.ext hk
      have e17 : sl a22 17 = (.int .i64 (((k : Nat) : Int) + (1 : Int))) := e17
      replace own_b5_19 := own_b5_19.ext hk
      replace kw := kw.trans (.of_ext hk)
      clear hrest hk hg hpsi
      exact tail_nil ⟨hlt, hsz22, hdf22, kw, (e3.trans (congrArg (Value.int .i64) (by rw [hs1]; omega))), e15, e16, (e17.trans (congrArg (Value.int .i64) (by simp))), (sa_less D_ci0 ls_nil)⟩
    · -- E: decide (((k : Nat) : Int) < (x.xs.length : Int))
      have hge0 : ¬ k < x.xs.length := by simpa using hc
      have hge : k = x.xs.length := by omega
      have hfin : x.dep = V.deps (x.xs.take k) + 1 := by rw [hge, List.take_length, hdx]
      have hs4 := deps_cnts (x.xs.take k)
      have hs5 := cnts_le x.xs k
      refine wp_exit (hK10 _ _ ?_)
      refine wp_seq_k fun K23 hK23 => ?_
      refine wp_reg All mixed hsz15 hdf15 st_tr trivial ?_
      refine Chain.op (φ := Is (.int .i64 (((V.deps (x.xs.take k) : Nat) : Int)))) (st_is _) (sp_move (Has.base rfl e3)) ?_
      refine Chain.op (φ := Is (.int .i64 ((((V.deps (x.xs.take k) : Nat) : Int) : Int) + (1 : Int)))) (st_is _) (sp_add (Has.loc rfl) Has.cst (i64_in (by omega))) ?_
      refine Chain.op (φ := Is (.int .i64 ((((V.deps (x.xs.take k) : Nat) : Int) : Int) + (1 : Int)))) (st_is _) (sp_assign (Has.loc rfl)) ?_
      refine Chain.done ⟨by kernel_rfl, fun a24 g W24 hsz24 hdf24 hk hg henv hrest hpsi => ?_⟩
      obtain ⟨e2, -, -, -⟩ := henv
      replace D_ci0 := D_ci0.ext hk
      have e2 : sl a24 2 = (.int .i64 ((((V.deps (x.xs.take k) : Nat) : Int) : Int) + (1 : Int))) := e2
      replace kw := kw.trans (.of_ext hk)
      clear hrest hk hg hpsi
      refine tail_nil (hK23 _ _ ?_)
      refine wp_ret ?_
      refine (show bodyPost Try.prog Try.f41 _ .ret _ _ from ret1 rfl hdf24 e2 ⟨_, rfl, kw, ?_⟩)
      rw [hfin]; rfl

end Go.Proofs.Ytkhnemiflpjbpaa
