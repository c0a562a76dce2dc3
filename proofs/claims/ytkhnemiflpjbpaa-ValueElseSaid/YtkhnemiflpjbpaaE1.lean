import Derived.Test.YtkhnemiflpjbpaaC9
import Derived.Test.YtkhnemiflpjbpaaPureE
namespace Go.Proofs.Ytkhnemiflpjbpaa
open Go.Eng
theorem ValueElse_ok (x : V) (n : Int) (s : ByteArray) (hs : s.size ≤ maxLen) (w : World) (S : BSet) (v : Value) (hv : Rd w S x.d v) : Calls Try.prog 5 #[v, .int .i64 n, .string s] w (Ret w fun u _ => u = .bool true) := by
  obtain ⟨cn0a, cn0c, ci0a, ci0c, ev, ht0, D_cn0, D_ci0⟩ := rdV_out (rd_arg hv)
  subst ev
  refine enter Try.func5 rfl Try.ntmps5 (Nat.le_of_ble_eq_true rfl) fun a0 hsz0 hdf0 harg => ?_
  have e0 : sl a0 0 = (.agg #[(.int .u8 (x.k)), (.int .i64 (x.n)), (.string (x.t)), (.slice cn0a (x.ns.length) cn0c), (.slice ci0a (x.xs.length) ci0c)]) := harg 0 (Nat.le_of_ble_eq_true rfl)
  have e1 : sl a0 1 = (.int .i64 (n)) := harg 1 (Nat.le_of_ble_eq_true rfl)
  have e2 : sl a0 2 = (.string (s)) := harg 2 (Nat.le_of_ble_eq_true rfl)
  have kw := Keeps.refl All w
  clear harg
  refine wp_seq_k fun K1 hK1 => ?_
  refine wp_reg All mixed hsz0 hdf0 st_tr trivial ?_
  refine Chain.boxOp (v := (.agg #[(.int .u8 (x.k)), (.int .i64 (x.n)), (.string (x.t)), (.slice cn0a (x.ns.length) cn0c), (.slice ci0a (x.xs.length) ci0c)])) (Has.base rfl e0) ?_
  refine Chain.op (φ := Is (.bool (false))) (st_is _) (sp_assign Has.cst) ?_
  refine Chain.done ⟨by kernel_rfl, fun a2 g W2 hsz2 hdf2 hk hg henv hrest hpsi => ?_⟩
  obtain ⟨-, ⟨b3_2, e3, hb3, own_b3_2⟩, -⟩ := henv
  have lo_b3_2 : w.heap.size ≤ b3_2 := Nat.le_trans kw.size (hg.lo _ _ hb3)
  have own_b3_2 : Own W2 b3_2 [(.int .u8 (x.k)), (.int .i64 (x.n)), (.string (x.t)), (.slice cn0a (x.ns.length) cn0c), (.slice ci0a (x.xs.length) ci0c)] 25 := own_b3_2
  replace e1 := (hrest 1 rfl).trans e1
  replace e2 := (hrest 2 rfl).trans e2
  replace D_cn0 := sa_more D_cn0 hk [b3_2] (in_cons (hg.lo _ _ hb3) in_nil)
  replace D_ci0 := sa_more D_ci0 hk [b3_2] (in_cons (hg.lo _ _ hb3) in_nil)
  replace kw := kw.trans (.of_ext hk)
  clear hrest hk hg hpsi hb3
  refine tail_nil (hK1 _ _ ?_)
  refine wp_seq_k fun K3 hK3 => ?_
  refine wp_seq_k fun K4 hK4 => ?_
  refine wp_reg All mixed hsz2 hdf2 st_tr trivial ?_
  refine Chain.op (φ := Is (.agg #[(.int .u8 (x.k)), (.int .i64 (x.n)), (.string (x.t)), (.slice cn0a (x.ns.length) cn0c), (.slice ci0a (x.xs.length) ci0c)])) (st_is _) (sp_loadO (v := (.agg #[(.int .u8 (x.k)), (.int .i64 (x.n)), (.string (x.t)), (.slice cn0a (x.ns.length) cn0c), (.slice ci0a (x.xs.length) ci0c)])) (Has.base rfl e3) own_b3_2 trivial agg25 sz25 (Nat.le_of_ble_eq_true rfl) (fun h => by first | rfl | cases h) rfl) ?_
  refine Chain.op (φ := IsD (SA w S [b3_2]) (valsD ([x]))) (st_d sub_all) (sp_bsl (ds := [V.d (x)]) Try.underlying23 sz25 z25 (Nat.le_of_ble_eq_true rfl) (Nat.le_of_ble_eq_true rfl) ⟨rfl, ((Has.loc rfl).dat (rdV_in (x := x) ht0 D_cn0 D_ci0 : Rd W2 (SA w S [b3_2]) (V.d (x)) _) sub_all), trivial⟩ rfl (by intro e he; simp at he; rcases he with rfl <;> exact width_V _) (fr_sa kw (in_cons own_b3_2.lt in_nil))) ?_
  refine Chain.op (φ := Is (.bool (decide (20000 ≤ szL ([x]) 0 0)))) (st_is _) (sp_call1 (φ1 := IsD (SA w S [b3_2]) (valsD ([x]))) ent11 (Has.loc rfl) (fun g u1 W hk hgk h1 => Long_ok ([x]) W _ _ h1)) ?_
  refine Chain.op (φ := Is (.bool (decide (20000 ≤ szL ([x]) 0 0)))) (st_is _) (sp_move (Has.loc rfl)) ?_
  refine Chain.opE (t := 14) (x := decide (20000 ≤ szL ([x]) 0 0)) (φ := Is (.string (s))) rfl (Has.loc rfl) (st_is _) (fun hg => sp_move (Has.base rfl e2)) ?_
  refine Chain.opE (t := 14) (x := decide (20000 ≤ szL ([x]) 0 0)) (φ := Is (.int .i64 (s.size))) rfl (Has.loc rfl) (st_is _) (fun hg => sp_lenS Try.underlying9 ((Has.loc rfl).undE hg)) ?_
  refine Chain.opE (t := 14) (x := decide (20000 ≤ szL ([x]) 0 0)) (φ := Is (.bool (decide ((20000 : Int) < (s.size : Int))))) rfl (Has.loc rfl) (st_is _) (fun hg => sp_gtr ((Has.loc rfl).undE hg) Has.cst) ?_
  refine Chain.op (φ := Is (.bool ((decide (20000 ≤ szL ([x]) 0 0)) || (decide ((20000 : Int) < (s.size : Int)))))) (st_is _) (sp_or (Has.loc rfl) ((Has.loc rfl).weak fun hq => hq)) ?_
  refine Chain.op (φ := Is (.bool ((decide (20000 ≤ szL ([x]) 0 0)) || (decide ((20000 : Int) < (s.size : Int)))))) (st_is _) (sp_move (Has.loc rfl)) ?_
  refine Chain.opE (t := 19) (x := (decide (20000 ≤ szL ([x]) 0 0)) || (decide ((20000 : Int) < (s.size : Int)))) (φ := Is (.agg #[(.int .u8 (x.k)), (.int .i64 (x.n)), (.string (x.t)), (.slice cn0a (x.ns.length) cn0c), (.slice ci0a (x.xs.length) ci0c)])) rfl (Has.loc rfl) (st_is _) (fun hg => sp_loadO (v := (.agg #[(.int .u8 (x.k)), (.int .i64 (x.n)), (.string (x.t)), (.slice cn0a (x.ns.length) cn0c), (.slice ci0a (x.xs.length) ci0c)])) (Has.base rfl e3) own_b3_2 trivial agg25 sz25 (Nat.le_of_ble_eq_true rfl) (fun h => by first | rfl | cases h) rfl) ?_
  refine Chain.opE (t := 19) (x := (decide (20000 ≤ szL ([x]) 0 0)) || (decide ((20000 : Int) < (s.size : Int)))) (φ := Is (.bool (mayB (x)))) rfl (Has.loc rfl) (st_is _) (fun hg => sp_call1 (φ1 := IsD (SA w S [b3_2]) (V.d (x))) ent15 (((Has.loc rfl).undE hg).dat (rdV_in (x := x) ht0 D_cn0 D_ci0 : Rd W2 (SA w S [b3_2]) (V.d (x)) _) sub_all) (fun g u1 W hk hgk h1 => May_ok (x) (by first | exact may_bd hg | omega | (simp only [V.cnt, cnts_app, V.cnts]; omega)) W _ _ h1)) ?_
  refine Chain.opE (t := 19) (x := (decide (20000 ≤ szL ([x]) 0 0)) || (decide ((20000 : Int) < (s.size : Int)))) (φ := Is (.bool (!(mayB (x))))) rfl (Has.loc rfl) (st_is _) (fun hg => sp_not ((Has.loc rfl).undE hg)) ?_
  refine Chain.op (φ := Is (.bool (((decide (20000 ≤ szL ([x]) 0 0)) || (decide ((20000 : Int) < (s.size : Int)))) || (!(mayB (x)))))) (st_is _) (sp_or (Has.loc rfl) ((Has.loc rfl).weak fun hq => hq)) ?_
  refine Chain.op (φ := Is (.bool (((decide (20000 ≤ szL ([x]) 0 0)) || (decide ((20000 : Int) < (s.size : Int)))) || (!(mayB (x)))))) (st_is _) (sp_move (Has.loc rfl)) ?_
  refine Chain.opE (t := 24) (x := ((decide (20000 ≤ szL ([x]) 0 0)) || (decide ((20000 : Int) < (s.size : Int)))) || (!(mayB (x)))) (φ := Is (.bool (true))) rfl (Has.loc rfl) (st_is _) (fun hg => sp_call0  ent12  (fun g  W hk hgk  => awake_ok W)) ?_
  refine Chain.opE (t := 24) (x := ((decide (20000 ≤ szL ([x]) 0 0)) || (decide ((20000 : Int) < (s.size : Int)))) || (!(mayB (x)))) (φ := Is (.bool (!true))) rfl (Has.loc rfl) (st_is _) (fun hg => sp_not ((Has.loc rfl).undE hg)) ?_
  refine Chain.op (φ := Is (.bool ((((decide (20000 ≤ szL ([x]) 0 0)) || (decide ((20000 : Int) < (s.size : Int)))) || (!(mayB (x)))) || (!true)))) (st_is _) (sp_or (Has.loc rfl) ((Has.loc rfl).weak fun hq => hq)) ?_
  refine Chain.done ⟨by kernel_rfl, fun a5 g W5 hsz5 hdf5 hk hg henv hrest hpsi => ?_⟩
  obtain ⟨e27, -, -, -, -, -, -, -, -, -, -, -, -, -, -, -, -, -⟩ := henv
  replace e1 := (hrest 1 rfl).trans e1
  replace e2 := (hrest 2 rfl).trans e2
  replace e3 := (hrest 3 rfl).trans e3
  replace D_cn0 := D_cn0.ext hk
  replace D_ci0 := D_ci0.ext hk
  have e27 : sl a5 27 = (.bool ((((decide (20000 ≤ szL ([x]) 0 0)) || (decide ((20000 : Int) < (s.size : Int)))) || (!(mayB (x)))) || (!true))) := e27
  replace own_b3_2 := own_b3_2.ext hk
  replace kw := kw.trans (.of_ext hk)
  clear hrest hk hg hpsi
  refine tail_nil (hK4 _ _ ?_)
  refine wp_cond_split e27 (fun hc => ?_) (fun hc => ?_)
  · -- T: (((decide (20000 ≤ szL ([x]) 0 0)) || (decide ((20000 : Int) < (s.size : Int))))
    refine wp_seq_k fun K6 hK6 => ?_
    refine wp_reg All mixed hsz5 hdf5 st_tr trivial ?_
    refine Chain.op (φ := Is (.bool (true))) (st_is _) (sp_call0  ent12  (fun g  W hk hgk  => awake_ok W)) ?_
    refine Chain.op (φ := Is (.bool (true))) (st_is _) (sp_assign (Has.loc rfl)) ?_
    refine Chain.done ⟨by kernel_rfl, fun a7 g W7 hsz7 hdf7 hk hg henv hrest hpsi => ?_⟩
    obtain ⟨e6, -, -⟩ := henv
    replace D_cn0 := D_cn0.ext hk
    replace D_ci0 := D_ci0.ext hk
    have e6 : sl a7 6 = (.bool (true)) := e6
    replace own_b3_2 := own_b3_2.ext hk
    replace kw := kw.trans (.of_ext hk)
    clear hrest hk hg hpsi
    refine tail_nil (hK6 _ _ ?_)
    refine wp_ret ?_
    refine (show bodyPost Try.prog Try.f5 _ .ret _ _ from ret1 rfl hdf7 e6 ⟨_, rfl, kw, ?_⟩)
    exact rfl
  · -- E: (((decide (20000 ≤ szL ([x]) 0 0)) || (decide ((20000 : Int) < (s.size : Int))))
    simp only [Bool.or_eq_false_iff, decide_eq_false_iff_not, Bool.not_eq_false'] at hc
    obtain ⟨⟨⟨hlong, hslen⟩, hmay⟩, -⟩ := hc
    have hwt := long_wt (Nat.lt_of_not_le hlong)
    simp only [V.wts, Nat.add_zero] at hwt
    have hwx := wt_eq x
    have hwl := wts_len x.xs
    have hwn := wtN_len x.ns
    have hct := cnt_wt x
    have hce := cnt_eq x
    refine wp_skip (hK3 _ _ ?_)
    refine wp_seq_k fun K8 hK8 => ?_
    refine wp_regL All [(1, (.agg #[(.int .u8 (x.k)), (.int .i64 (x.n)), (.string (x.t)), (.slice cn0a (x.ns.length) cn0c), (.slice ci0a (x.xs.length) ci0c)])), (2, (.agg #[(.int .u8 (x.k)), (.int .i64 (x.n)), (.string (x.t)), (.slice cn0a (x.ns.length) cn0c), (.slice ci0a (x.xs.length) ci0c)])), (3, (.agg #[(.int .u8 (x.k)), (.int .i64 (x.n)), (.string (x.t)), (.slice cn0a (x.ns.length) cn0c), (.slice ci0a (x.xs.length) ci0c)]))] mixed hsz5 hdf5 st_tr trivial (by simp) ?_
    refine Chain.op (φ := Is (.agg #[(.int .u8 (x.k)), (.int .i64 (x.n)), (.string (x.t)), (.slice cn0a (x.ns.length) cn0c), (.slice ci0a (x.xs.length) ci0c)])) (st_is _) (sp_loadO (v := (.agg #[(.int .u8 (x.k)), (.int .i64 (x.n)), (.string (x.t)), (.slice cn0a (x.ns.length) cn0c), (.slice ci0a (x.xs.length) ci0c)])) (Has.base rfl e3) own_b3_2 trivial agg25 sz25 (Nat.le_of_ble_eq_true rfl) (fun h => by first | rfl | cases h) rfl) ?_
    refine Chain.op (φ := Is (.agg #[(.int .u8 (x.k)), (.int .i64 (x.n)), (.string (x.t)), (.slice cn0a (x.ns.length) cn0c), (.slice ci0a (x.xs.length) ci0c)])) (st_is _) (sp_loadO (v := (.agg #[(.int .u8 (x.k)), (.int .i64 (x.n)), (.string (x.t)), (.slice cn0a (x.ns.length) cn0c), (.slice ci0a (x.xs.length) ci0c)])) (Has.base rfl e3) own_b3_2 trivial agg25 sz25 (Nat.le_of_ble_eq_true rfl) (fun h => by first | rfl | cases h) rfl) ?_
    refine Chain.op (φ := Is (.agg #[(.int .u8 (x.k)), (.int .i64 (x.n)), (.string (x.t)), (.slice cn0a (x.ns.length) cn0c), (.slice ci0a (x.xs.length) ci0c)])) (st_is _) (sp_loadO (v := (.agg #[(.int .u8 (x.k)), (.int .i64 (x.n)), (.string (x.t)), (.slice cn0a (x.ns.length) cn0c), (.slice ci0a (x.xs.length) ci0c)])) (Has.base rfl e3) own_b3_2 trivial agg25 sz25 (Nat.le_of_ble_eq_true rfl) (fun h => by first | rfl | cases h) rfl) ?_
    refine Chain.op (φ := Is (.agg #[(.int .u8 (x.k)), (.int .i64 (x.n)), (.string (x.t)), (.slice cn0a (x.ns.length) cn0c), (.slice ci0a (x.xs.length) ci0c)])) (st_is _) (sp_loadO (v := (.agg #[(.int .u8 (x.k)), (.int .i64 (x.n)), (.string (x.t)), (.slice cn0a (x.ns.length) cn0c), (.slice ci0a (x.xs.length) ci0c)])) (Has.base rfl e3) own_b3_2 trivial agg25 sz25 (Nat.le_of_ble_eq_true rfl) (fun h => by first | rfl | cases h) rfl) ?_
    refine Chain.alloc z25 ?_
    refine Chain.alloc z25 ?_
    refine Chain.alloc z25 ?_
    refine Chain.alloc z25 ?_
    refine Chain.done ⟨by kernel_rfl, ⟨by kernel_rfl, by kernel_rfl⟩, (List.forall_mem_cons.2 ⟨⟨_, rfl, late_load e3 own_b3_2 trivial agg25 sz25 (Nat.le_of_ble_eq_true rfl) (fun h => by first | rfl | cases h) rfl⟩, (List.forall_mem_cons.2 ⟨⟨_, rfl, late_load e3 own_b3_2 trivial agg25 sz25 (Nat.le_of_ble_eq_true rfl) (fun h => by first | rfl | cases h) rfl⟩, (List.forall_mem_cons.2 ⟨⟨_, rfl, late_load e3 own_b3_2 trivial agg25 sz25 (Nat.le_of_ble_eq_true rfl) (fun h => by first | rfl | cases h) rfl⟩, List.forall_mem_nil _⟩)⟩)⟩), fun a9 g W9 hsz9 hdf9 hk hg henv hrest hpsi => ?_⟩
    have hkr := hk
    obtain ⟨⟨b10_9, e10, hb10, own_b10_9⟩, ⟨b9_9, e9, hb9, own_b9_9⟩, ⟨b8_9, e8, hb8, own_b8_9⟩, ⟨b7_9, e7, hb7, own_b7_9⟩, e32, e31, e30, e29, -⟩ := henv
    have lo_b10_9 : w.heap.size ≤ b10_9 := Nat.le_trans kw.size (hg.lo _ _ hb10)
    have lr_b10_9 := hg.lo _ _ hb10
    have ne_b3_2_b10_9 : b3_2 ≠ b10_9 := Nat.ne_of_lt (Nat.lt_of_lt_of_le own_b3_2.lt (hg.lo _ _ hb10))
    have own_b10_9 : Own W9 b10_9 [(.int .u8 (0)), (.int .i64 (0)), (.string (⟨#[]⟩)), (.slice none 0 0), (.slice none 0 0)] 25 := own_b10_9
    have lo_b9_9 : w.heap.size ≤ b9_9 := Nat.le_trans kw.size (hg.lo _ _ hb9)
    have lr_b9_9 := hg.lo _ _ hb9
    have ne_b3_2_b9_9 : b3_2 ≠ b9_9 := Nat.ne_of_lt (Nat.lt_of_lt_of_le own_b3_2.lt (hg.lo _ _ hb9))
    have own_b9_9 : Own W9 b9_9 [(.int .u8 (0)), (.int .i64 (0)), (.string (⟨#[]⟩)), (.slice none 0 0), (.slice none 0 0)] 25 := own_b9_9
    have lo_b8_9 : w.heap.size ≤ b8_9 := Nat.le_trans kw.size (hg.lo _ _ hb8)
    have lr_b8_9 := hg.lo _ _ hb8
    have ne_b3_2_b8_9 : b3_2 ≠ b8_9 := Nat.ne_of_lt (Nat.lt_of_lt_of_le own_b3_2.lt (hg.lo _ _ hb8))
    have own_b8_9 : Own W9 b8_9 [(.int .u8 (0)), (.int .i64 (0)), (.string (⟨#[]⟩)), (.slice none 0 0), (.slice none 0 0)] 25 := own_b8_9
    have lo_b7_9 : w.heap.size ≤ b7_9 := Nat.le_trans kw.size (hg.lo _ _ hb7)
    have lr_b7_9 := hg.lo _ _ hb7
    have ne_b3_2_b7_9 : b3_2 ≠ b7_9 := Nat.ne_of_lt (Nat.lt_of_lt_of_le own_b3_2.lt (hg.lo _ _ hb7))
    have own_b7_9 : Own W9 b7_9 [(.int .u8 (0)), (.int .i64 (0)), (.string (⟨#[]⟩)), (.slice none 0 0), (.slice none 0 0)] 25 := own_b7_9
    have ne_b10_9_b9_9 : b10_9 ≠ b9_9 := fun h => by have := hg.inj _ _ _ hb10 (h ▸ hb9); cases this
    have ne_b10_9_b8_9 : b10_9 ≠ b8_9 := fun h => by have := hg.inj _ _ _ hb10 (h ▸ hb8); cases this
    have ne_b10_9_b7_9 : b10_9 ≠ b7_9 := fun h => by have := hg.inj _ _ _ hb10 (h ▸ hb7); cases this
    have ne_b9_9_b8_9 : b9_9 ≠ b8_9 := fun h => by have := hg.inj _ _ _ hb9 (h ▸ hb8); cases this
    have ne_b9_9_b7_9 : b9_9 ≠ b7_9 := fun h => by have := hg.inj _ _ _ hb9 (h ▸ hb7); cases this
    have ne_b8_9_b7_9 : b8_9 ≠ b7_9 := fun h => by have := hg.inj _ _ _ hb8 (h ▸ hb7); cases this
    replace e1 := (hrest 1 rfl).trans e1
    replace e2 := (hrest 2 rfl).trans e2
    replace e3 := (hrest 3 rfl).trans e3
    replace D_cn0 := sa_more D_cn0 hk [b10_9, b9_9, b8_9, b7_9] (in_cons (hg.lo _ _ hb10) (in_cons (hg.lo _ _ hb9) (in_cons (hg.lo _ _ hb8) (in_cons (hg.lo _ _ hb7) in_nil))))
    replace D_ci0 := sa_more D_ci0 hk [b10_9, b9_9, b8_9, b7_9] (in_cons (hg.lo _ _ hb10) (in_cons (hg.lo _ _ hb9) (in_cons (hg.lo _ _ hb8) (in_cons (hg.lo _ _ hb7) in_nil))))
    have e29 : sl a9 29 = (.agg #[(.int .u8 (x.k)), (.int .i64 (x.n)), (.string (x.t)), (.slice cn0a (x.ns.length) cn0c), (.slice ci0a (x.xs.length) ci0c)]) := e29
    have e30 : sl a9 30 = (.agg #[(.int .u8 (x.k)), (.int .i64 (x.n)), (.string (x.t)), (.slice cn0a (x.ns.length) cn0c), (.slice ci0a (x.xs.length) ci0c)]) := e30
    have e31 : sl a9 31 = (.agg #[(.int .u8 (x.k)), (.int .i64 (x.n)), (.string (x.t)), (.slice cn0a (x.ns.length) cn0c), (.slice ci0a (x.xs.length) ci0c)]) := e31
    have e32 : sl a9 32 = (.agg #[(.int .u8 (x.k)), (.int .i64 (x.n)), (.string (x.t)), (.slice cn0a (x.ns.length) cn0c), (.slice ci0a (x.xs.length) ci0c)]) := e32
    replace own_b3_2 := own_b3_2.ext hk
    replace kw := kw.trans (.of_ext hk)
    clear hrest hk hg hpsi hb10 hb9 hb8 hb7
    refine tail_storeK (b := b7_9) (o := 0) (v := (.agg #[(.int .u8 (x.k)), (.int .i64 (x.n)), (.string (x.t)), (.slice cn0a (x.ns.length) cn0c), (.slice ci0a (x.xs.length) ci0c)])) e7 e29 sz25 rfl own_b7_9 (Nat.le_of_ble_eq_true rfl) (all_cons rfl (all_cons rfl (all_cons rfl (all_cons rfl (all_cons rfl all_nil))))) (fun W10 hs own_b7_9 => ⟨keeps_store hkr hs lr_b7_9, ?_⟩)
    replace hkr := keeps_store hkr hs lr_b7_9
    have own_b7_9 : Own W10 b7_9 [(.int .u8 (x.k)), (.int .i64 (x.n)), (.string (x.t)), (.slice cn0a (x.ns.length) cn0c), (.slice ci0a (x.xs.length) ci0c)] 25 := own_b7_9
    replace own_b3_2 := own_store own_b3_2 hs ne_b3_2_b7_9
    replace own_b10_9 := own_store own_b10_9 hs ne_b10_9_b7_9
    replace own_b9_9 := own_store own_b9_9 hs ne_b9_9_b7_9
    replace own_b8_9 := own_store own_b8_9 hs ne_b8_9_b7_9
    replace D_cn0 := sa_store D_cn0 hs (by simp)
    replace D_ci0 := sa_store D_ci0 hs (by simp)
    replace kw := keeps_store kw hs lo_b7_9
    clear hs
    refine tail_storeK (b := b8_9) (o := 0) (v := (.agg #[(.int .u8 (x.k)), (.int .i64 (x.n)), (.string (x.t)), (.slice cn0a (x.ns.length) cn0c), (.slice ci0a (x.xs.length) ci0c)])) e8 e30 sz25 rfl own_b8_9 (Nat.le_of_ble_eq_true rfl) (all_cons rfl (all_cons rfl (all_cons rfl (all_cons rfl (all_cons rfl all_nil))))) (fun W11 hs own_b8_9 => ⟨keeps_store hkr hs lr_b8_9, ?_⟩)
    replace hkr := keeps_store hkr hs lr_b8_9
    have own_b8_9 : Own W11 b8_9 [(.int .u8 (x.k)), (.int .i64 (x.n)), (.string (x.t)), (.slice cn0a (x.ns.length) cn0c), (.slice ci0a (x.xs.length) ci0c)] 25 := own_b8_9
    replace own_b3_2 := own_store own_b3_2 hs ne_b3_2_b8_9
    replace own_b10_9 := own_store own_b10_9 hs ne_b10_9_b8_9
    replace own_b9_9 := own_store own_b9_9 hs ne_b9_9_b8_9
    replace own_b7_9 := own_store own_b7_9 hs ne_b8_9_b7_9.symm
    replace D_cn0 := sa_store D_cn0 hs (by simp)
    replace D_ci0 := sa_store D_ci0 hs (by simp)
    replace kw := keeps_store kw hs lo_b8_9
    clear hs
    refine tail_storeK (b := b9_9) (o := 0) (v := (.agg #[(.int .u8 (x.k)), (.int .i64 (x.n)), (.string (x.t)), (.slice cn0a (x.ns.length) cn0c), (.slice ci0a (x.xs.length) ci0c)])) e9 e31 sz25 rfl own_b9_9 (Nat.le_of_ble_eq_true rfl) (all_cons rfl (all_cons rfl (all_cons rfl (all_cons rfl (all_cons rfl all_nil))))) (fun W12 hs own_b9_9 => ⟨keeps_store hkr hs lr_b9_9, ?_⟩)
    replace hkr := keeps_store hkr hs lr_b9_9
    have own_b9_9 : Own W12 b9_9 [(.int .u8 (x.k)), (.int .i64 (x.n)), (.string (x.t)), (.slice cn0a (x.ns.length) cn0c), (.slice ci0a (x.xs.length) ci0c)] 25 := own_b9_9
    replace own_b3_2 := own_store own_b3_2 hs ne_b3_2_b9_9
    replace own_b10_9 := own_store own_b10_9 hs ne_b10_9_b9_9
    replace own_b8_9 := own_store own_b8_9 hs ne_b9_9_b8_9.symm
    replace own_b7_9 := own_store own_b7_9 hs ne_b9_9_b7_9.symm
    replace D_cn0 := sa_store D_cn0 hs (by simp)
    replace D_ci0 := sa_store D_ci0 hs (by simp)
    replace kw := keeps_store kw hs lo_b9_9
    clear hs
    refine tail_storeK (b := b10_9) (o := 0) (v := (.agg #[(.int .u8 (x.k)), (.int .i64 (x.n)), (.string (x.t)), (.slice cn0a (x.ns.length) cn0c), (.slice ci0a (x.xs.length) ci0c)])) e10 e32 sz25 rfl own_b10_9 (Nat.le_of_ble_eq_true rfl) (all_cons rfl (all_cons rfl (all_cons rfl (all_cons rfl (all_cons rfl all_nil))))) (fun W13 hs own_b10_9 => ⟨keeps_store hkr hs lr_b10_9, ?_⟩)
    replace hkr := keeps_store hkr hs lr_b10_9
    have own_b10_9 : Own W13 b10_9 [(.int .u8 (x.k)), (.int .i64 (x.n)), (.string (x.t)), (.slice cn0a (x.ns.length) cn0c), (.slice ci0a (x.xs.length) ci0c)] 25 := own_b10_9
    replace own_b3_2 := own_store own_b3_2 hs ne_b3_2_b10_9
    replace own_b9_9 := own_store own_b9_9 hs ne_b10_9_b9_9.symm
    replace own_b8_9 := own_store own_b8_9 hs ne_b10_9_b8_9.symm
    replace own_b7_9 := own_store own_b7_9 hs ne_b10_9_b7_9.symm
    replace D_cn0 := sa_store D_cn0 hs (by simp)
    replace D_ci0 := sa_store D_ci0 hs (by simp)
    replace kw := keeps_store kw hs lo_b10_9
    clear hs
    clear hkr
    refine tail_nilK ?_
    refine id (hK8 _ _ ?_)
    refine wp_seq_k fun K14 hK14 => ?_
    refine wp_reg All mixed hsz9 hdf9 st_tr trivial ?_
    refine Chain.op (φ := Is (.int .i64 (n))) (st_is _) (sp_move (Has.base rfl e1)) ?_
    refine Chain.op (φ := Is (.pointer (some ⟨b7_9, 1, none⟩))) (st_is _) (sp_fieldO (Has.base rfl e7) Try.underlying25 rfl sz2 rfl) ?_
    refine Chain.done ⟨by kernel_rfl, fun a15 g W15 hsz15 hdf15 hk hg henv hrest hpsi => ?_⟩
    obtain ⟨e34, e33, -⟩ := henv
    replace e1 := (hrest 1 rfl).trans e1
    replace e2 := (hrest 2 rfl).trans e2
    replace e3 := (hrest 3 rfl).trans e3
    replace e10 := (hrest 10 rfl).trans e10
    replace e9 := (hrest 9 rfl).trans e9
    replace e8 := (hrest 8 rfl).trans e8
    replace e7 := (hrest 7 rfl).trans e7
    replace D_cn0 := D_cn0.ext hk
    replace D_ci0 := D_ci0.ext hk
    have e33 : sl a15 33 = (.int .i64 (n)) := e33
    have e34 : sl a15 34 = (.pointer (some ⟨b7_9, 1, none⟩)) := e34
    replace own_b3_2 := own_b3_2.ext hk
    replace own_b10_9 := own_b10_9.ext hk
    replace own_b9_9 := own_b9_9.ext hk
    replace own_b8_9 := own_b8_9.ext hk
    replace own_b7_9 := own_b7_9.ext hk
    replace kw := kw.trans (.of_ext hk)
    clear hrest hk hg hpsi
    refine tail_store (b := b7_9) (o := 1) (v := (.int .i64 (n))) e34 e33 sz2 rfl own_b7_9 (Nat.le_of_ble_eq_true rfl) (all_cons rfl all_nil) (fun W16 hs own_b7_9 => ?_)
    have own_b7_9 : Own W16 b7_9 [(.int .u8 (x.k)), (.int .i64 (n)), (.string (x.t)), (.slice cn0a (x.ns.length) cn0c), (.slice ci0a (x.xs.length) ci0c)] 25 := own_b7_9
    replace own_b3_2 := own_store own_b3_2 hs ne_b3_2_b7_9
    replace own_b10_9 := own_store own_b10_9 hs ne_b10_9_b7_9
    replace own_b9_9 := own_store own_b9_9 hs ne_b9_9_b7_9
    replace own_b8_9 := own_store own_b8_9 hs ne_b8_9_b7_9
    replace D_cn0 := sa_store D_cn0 hs (by simp)
    replace D_ci0 := sa_store D_ci0 hs (by simp)
    replace kw := keeps_store kw hs lo_b7_9
    clear hs
    refine tail_nil (hK14 _ _ ?_)
    refine wp_seq_k fun K17 hK17 => ?_
    refine wp_reg All mixed hsz15 hdf15 st_tr trivial ?_
    refine Chain.op (φ := Is (.string (s))) (st_is _) (sp_move (Has.base rfl e2)) ?_
    refine Chain.op (φ := Is (.pointer (some ⟨b8_9, 2, none⟩))) (st_is _) (sp_fieldO (Has.base rfl e8) Try.underlying25 rfl sz9 rfl) ?_
    refine Chain.done ⟨by kernel_rfl, fun a18 g W18 hsz18 hdf18 hk hg henv hrest hpsi => ?_⟩
    obtain ⟨e36, e35, -⟩ := henv
    replace e1 := (hrest 1 rfl).trans e1
    replace e2 := (hrest 2 rfl).trans e2
    replace e3 := (hrest 3 rfl).trans e3
    replace e10 := (hrest 10 rfl).trans e10
    replace e9 := (hrest 9 rfl).trans e9
    replace e8 := (hrest 8 rfl).trans e8
    replace e7 := (hrest 7 rfl).trans e7
    replace D_cn0 := D_cn0.ext hk
    replace D_ci0 := D_ci0.ext hk
    have e35 : sl a18 35 = (.string (s)) := e35
    have e36 : sl a18 36 = (.pointer (some ⟨b8_9, 2, none⟩)) := e36
    replace own_b3_2 := own_b3_2.ext hk
    replace own_b10_9 := own_b10_9.ext hk
    replace own_b9_9 := own_b9_9.ext hk
    replace own_b8_9 := own_b8_9.ext hk
    replace own_b7_9 := own_b7_9.ext hk
    replace kw := kw.trans (.of_ext hk)
    clear hrest hk hg hpsi
    refine tail_store (b := b8_9) (o := 2) (v := (.string (s))) e36 e35 sz9 rfl own_b8_9 (Nat.le_of_ble_eq_true rfl) (all_cons rfl all_nil) (fun W19 hs own_b8_9 => ?_)
    have own_b8_9 : Own W19 b8_9 [(.int .u8 (x.k)), (.int .i64 (x.n)), (.string (s)), (.slice cn0a (x.ns.length) cn0c), (.slice ci0a (x.xs.length) ci0c)] 25 := own_b8_9
    replace own_b3_2 := own_store own_b3_2 hs ne_b3_2_b8_9
    replace own_b10_9 := own_store own_b10_9 hs ne_b10_9_b8_9
    replace own_b9_9 := own_store own_b9_9 hs ne_b9_9_b8_9
    replace own_b7_9 := own_store own_b7_9 hs ne_b8_9_b7_9.symm
    replace D_cn0 := sa_store D_cn0 hs (by simp)
    replace D_ci0 := sa_store D_ci0 hs (by simp)
    replace kw := keeps_store kw hs lo_b8_9
    clear hs
    refine tail_nil (hK17 _ _ ?_)
    refine wp_seq_k fun K20 hK20 => ?_
    refine wp_reg All mixed hsz18 hdf18 st_tr trivial ?_
    refine Chain.op (φ := IsArr W19 w.heap.size 9 1 (SA w S [b10_9, b9_9, b8_9, b7_9, b3_2]) [] none) st_arr (sp_bslA Try.underlying22 sz9 kw.size) ?_
    refine Chain.done ⟨by kernel_rfl, fun a21 g W21 hsz21 hdf21 hk hg henv hrest hpsi => ?_⟩
    obtain ⟨e37, -⟩ := henv
    replace e1 := (hrest 1 rfl).trans e1
    replace e2 := (hrest 2 rfl).trans e2
    replace e3 := (hrest 3 rfl).trans e3
    replace e10 := (hrest 10 rfl).trans e10
    replace e9 := (hrest 9 rfl).trans e9
    replace e8 := (hrest 8 rfl).trans e8
    replace e7 := (hrest 7 rfl).trans e7
    obtain ⟨v37_21, ev⟩ : ∃ v, sl a21 37 = v := ⟨_, rfl⟩
    rw [ev] at e37
    obtain ⟨hd37_21, A_37_21, hf37_21⟩ := e37
    have e37 := ev; clear ev
    replace hf37_21 := row_new hf37_21
    obtain ⟨v37_21a, v37_21n, v37_21c, ev⟩ := arr_sl A_37_21; subst ev
    replace A_37_21 : Arr W21 w.heap.size 9 1 (SA w S (blks hd37_21 ++ (b10_9 :: (b9_9 :: (b8_9 :: (b7_9 :: (b3_2 :: []))))))) (List.map D.str ([])) (.slice v37_21a v37_21n v37_21c) hd37_21 := arrA_new A_37_21 (M' := (blks hd37_21 ++ (b10_9 :: (b9_9 :: (b8_9 :: (b7_9 :: (b3_2 :: []))))))) (fun b hb => (List.mem_append.1 hb).symm)
    have nb_b3_2_21 : b3_2 ∉ blks hd37_21 := fun hm => absurd (hf37_21 _ hm) (Nat.not_le.2 own_b3_2.lt)
    have nb_b10_9_21 : b10_9 ∉ blks hd37_21 := fun hm => absurd (hf37_21 _ hm) (Nat.not_le.2 own_b10_9.lt)
    have nb_b9_9_21 : b9_9 ∉ blks hd37_21 := fun hm => absurd (hf37_21 _ hm) (Nat.not_le.2 own_b9_9.lt)
    have nb_b8_9_21 : b8_9 ∉ blks hd37_21 := fun hm => absurd (hf37_21 _ hm) (Nat.not_le.2 own_b8_9.lt)
    have nb_b7_9_21 : b7_9 ∉ blks hd37_21 := fun hm => absurd (hf37_21 _ hm) (Nat.not_le.2 own_b7_9.lt)
    replace D_cn0 : Rd W21 (SA w S (blks hd37_21 ++ (b10_9 :: (b9_9 :: (b8_9 :: (b7_9 :: (b3_2 :: []))))))) (strsD (x.ns)) (.slice cn0a (x.ns.length) cn0c) := sa_more D_cn0 hk (blks hd37_21) hf37_21
    replace D_ci0 : Rd W21 (SA w S (blks hd37_21 ++ (b10_9 :: (b9_9 :: (b8_9 :: (b7_9 :: (b3_2 :: []))))))) (valsD (x.xs)) (.slice ci0a (x.xs.length) ci0c) := sa_more D_ci0 hk (blks hd37_21) hf37_21
    replace own_b3_2 := own_b3_2.ext hk
    replace own_b10_9 := own_b10_9.ext hk
    replace own_b9_9 := own_b9_9.ext hk
    replace own_b8_9 := own_b8_9.ext hk
    replace own_b7_9 := own_b7_9.ext hk
    replace kw := kw.trans (.of_ext hk)
    clear hrest hk hg hpsi hf37_21
    refine tail_reg 3 (fun k => k ∉ blks hd37_21) (Ψ := fun W => Arr W w.heap.size 9 1 (SA w S (blks hd37_21 ++ (b10_9 :: (b9_9 :: (b8_9 :: (b7_9 :: (b3_2 :: []))))))) (List.map D.str ([])) (.slice v37_21a v37_21n v37_21c) hd37_21) hsz21 hdf21 (fun W W' k h => h.ext k) A_37_21 rfl ?_
    refine Chain.op (φ := Is (.pointer (some ⟨b3_2, 3, none⟩))) (st_is _) (sp_fieldO (Has.base rfl e3) Try.underlying25 rfl sz22 rfl) ?_
    refine Chain.op (φ := Is (.slice cn0a (x.ns.length) cn0c)) (st_is _) (sp_loadO (v := (.slice cn0a (x.ns.length) cn0c)) (Has.loc rfl) own_b3_2 nb_b3_2_21 agg22 sz22 (Nat.le_of_ble_eq_true rfl) (fun h => by first | rfl | cases h) rfl) ?_
    refine Chain.appB (ds := List.map D.str ([])) (es := List.map D.str (x.ns)) (X := SA w S (blks hd37_21 ++ (b10_9 :: (b9_9 :: (b8_9 :: (b7_9 :: (b3_2 :: []))))))) Try.underlying22 inf9 (Nat.le_of_ble_eq_true rfl) (Has.base rfl e37) ((Has.loc rfl).dat D_cn0 (sub_nb (fun b hb => List.mem_append_left _ hb))) (sub_nb (fun b hb => List.mem_append_left _ hb)) (by simp [maxLen]; omega) (by simp; omega) kw.size ?_
    refine Chain.done ⟨by kernel_rfl, fun a22 g W22 hsz22 hdf22 hk hg henv hrest hpsi => ?_⟩
    refine tail_nil ?_
    show runTail _ _ _ _ _ _
    obtain ⟨e40, -, -, -⟩ := henv
    replace e1 := (hrest 1 rfl).trans e1
    replace e2 := (hrest 2 rfl).trans e2
    replace e3 := (hrest 3 rfl).trans e3
    replace e10 := (hrest 10 rfl).trans e10
    replace e9 := (hrest 9 rfl).trans e9
    replace e8 := (hrest 8 rfl).trans e8
    replace e7 := (hrest 7 rfl).trans e7
    obtain ⟨v40_22, ev⟩ : ∃ v, sl a22 40 = v := ⟨_, rfl⟩
    rw [ev] at e40
    obtain ⟨hd40_22, A_40_22, hf40_22⟩ := e40
    have e40 := ev; clear ev
    obtain ⟨v40_22a, v40_22n, v40_22c, ev⟩ := arr_sl A_40_22; subst ev
    replace A_40_22 := arrA_new (M' := (blks hd40_22 ++ (b10_9 :: (b9_9 :: (b8_9 :: (b7_9 :: (b3_2 :: []))))))) A_40_22 (rep_app (rep_q fun _ h => h) (rep_cons (rep_cons (rep_cons (rep_cons (rep_cons rep_nil))))))
    replace A_40_22 : Arr W22 w.heap.size 9 1 (SA w S (blks hd40_22 ++ (b10_9 :: (b9_9 :: (b8_9 :: (b7_9 :: (b3_2 :: []))))))) (List.map D.str (x.ns)) (.slice v40_22a v40_22n v40_22c) hd40_22 := by first | exact A_40_22 | (rw [List.map_append]; exact A_40_22)
    have nb_b3_2_22 : b3_2 ∉ blks hd40_22 := nb_new nb_b3_2_21 own_b3_2.lt hf40_22
    have nb_b10_9_22 : b10_9 ∉ blks hd40_22 := nb_new nb_b10_9_21 own_b10_9.lt hf40_22
    have nb_b9_9_22 : b9_9 ∉ blks hd40_22 := nb_new nb_b9_9_21 own_b9_9.lt hf40_22
    have nb_b8_9_22 : b8_9 ∉ blks hd40_22 := nb_new nb_b8_9_21 own_b8_9.lt hf40_22
    have nb_b7_9_22 : b7_9 ∉ blks hd40_22 := nb_new nb_b7_9_21 own_b7_9.lt hf40_22
    replace D_cn0 := sa_app (M' := (blks hd40_22 ++ (b10_9 :: (b9_9 :: (b8_9 :: (b7_9 :: (b3_2 :: []))))))) D_cn0 hk (fun b hb => List.mem_append_left _ hb) (rep_app hf40_22 (rep_cons (rep_cons (rep_cons (rep_cons (rep_cons rep_nil))))))
    replace D_ci0 := sa_app (M' := (blks hd40_22 ++ (b10_9 :: (b9_9 :: (b8_9 :: (b7_9 :: (b3_2 :: []))))))) D_ci0 hk (fun b hb => List.mem_append_left _ hb) (rep_app hf40_22 (rep_cons (rep_cons (rep_cons (rep_cons (rep_cons rep_nil))))))
    replace own_b3_2 := own_app own_b3_2 hk nb_b3_2_21
    replace own_b10_9 := own_app own_b10_9 hk nb_b10_9_21
    replace own_b9_9 := own_app own_b9_9 hk nb_b9_9_21
    replace own_b8_9 := own_app own_b8_9 hk nb_b8_9_21
    replace own_b7_9 := own_app own_b7_9 hk nb_b7_9_21
    replace kw := keeps_app kw hk A_37_21.ge
    clear hrest hk hg hpsi hf40_22 A_37_21
    refine tail_reg 4 (fun k => k ∉ blks hd40_22) (Ψ := fun W => Arr W w.heap.size 9 1 (SA w S (blks hd40_22 ++ (b10_9 :: (b9_9 :: (b8_9 :: (b7_9 :: (b3_2 :: []))))))) (List.map D.str (x.ns)) (.slice v40_22a v40_22n v40_22c) hd40_22) hsz22 hdf22 (fun W W' k h => h.ext k) A_40_22 rfl ?_
    refine Chain.op (φ := Is (.string (s))) (st_is _) (sp_move (Has.base rfl e2)) ?_
    refine Chain.op (φ := IsD (SA w S (blks hd40_22 ++ (b10_9 :: (b9_9 :: (b8_9 :: (b7_9 :: (b3_2 :: []))))))) (strsD ([s]))) (st_d (sub_nb (fun b hb => List.mem_append_left _ hb))) (sp_bsl (ds := [D.str (s)]) Try.underlying22 sz9 z9 (Nat.le_of_ble_eq_true rfl) (Nat.le_of_ble_eq_true rfl) ⟨rfl, ((Has.loc rfl).str hs), trivial⟩ rfl (by simp [width]) (fr_sa kw (in_app A_40_22.lt (in_cons own_b10_9.lt (in_cons own_b9_9.lt (in_cons own_b8_9.lt (in_cons own_b7_9.lt (in_cons own_b3_2.lt in_nil)))))))) ?_
    refine Chain.appB (ds := List.map D.str (x.ns)) (es := [D.str (s)]) (X := SA w S (blks hd40_22 ++ (b10_9 :: (b9_9 :: (b8_9 :: (b7_9 :: (b3_2 :: []))))))) Try.underlying22 inf9 (Nat.le_of_ble_eq_true rfl) (Has.base rfl e40) (Has.loc rfl) (sub_nb (fun b hb => List.mem_append_left _ hb)) (by simp [maxLen]; omega) (by simp; omega) kw.size ?_
    refine Chain.op (φ := Is (.pointer (some ⟨b9_9, 3, none⟩))) (st_is _) (sp_fieldO (Has.base rfl e9) Try.underlying25 rfl sz22 rfl) ?_
    refine Chain.done ⟨by kernel_rfl, fun a23 g W23 hsz23 hdf23 hk hg henv hrest hpsi => ?_⟩
    refine tail_nil ?_
    show runTail _ _ _ _ _ _
    obtain ⟨e44, e43, -, -, -⟩ := henv
    replace e1 := (hrest 1 rfl).trans e1
    replace e2 := (hrest 2 rfl).trans e2
    replace e3 := (hrest 3 rfl).trans e3
    replace e10 := (hrest 10 rfl).trans e10
    replace e9 := (hrest 9 rfl).trans e9
    replace e8 := (hrest 8 rfl).trans e8
    replace e7 := (hrest 7 rfl).trans e7
    obtain ⟨v43_23, ev⟩ : ∃ v, sl a23 43 = v := ⟨_, rfl⟩
    rw [ev] at e43
    obtain ⟨hd43_23, A_43_23, hf43_23⟩ := e43
    have e43 := ev; clear ev
    obtain ⟨v43_23a, v43_23n, v43_23c, ev⟩ := arr_sl A_43_23; subst ev
    replace A_43_23 := arrA_new (M' := (blks hd43_23 ++ (b10_9 :: (b9_9 :: (b8_9 :: (b7_9 :: (b3_2 :: []))))))) A_43_23 (rep_app (rep_q fun _ h => h) (rep_cons (rep_cons (rep_cons (rep_cons (rep_cons rep_nil))))))
    replace A_43_23 : Arr W23 w.heap.size 9 1 (SA w S (blks hd43_23 ++ (b10_9 :: (b9_9 :: (b8_9 :: (b7_9 :: (b3_2 :: []))))))) (List.map D.str (x.ns ++ [s])) (.slice v43_23a v43_23n v43_23c) hd43_23 := by first | exact A_43_23 | (rw [List.map_append]; exact A_43_23)
    have nb_b3_2_23 : b3_2 ∉ blks hd43_23 := nb_new nb_b3_2_22 own_b3_2.lt hf43_23
    have nb_b10_9_23 : b10_9 ∉ blks hd43_23 := nb_new nb_b10_9_22 own_b10_9.lt hf43_23
    have nb_b9_9_23 : b9_9 ∉ blks hd43_23 := nb_new nb_b9_9_22 own_b9_9.lt hf43_23
    have nb_b8_9_23 : b8_9 ∉ blks hd43_23 := nb_new nb_b8_9_22 own_b8_9.lt hf43_23
    have nb_b7_9_23 : b7_9 ∉ blks hd43_23 := nb_new nb_b7_9_22 own_b7_9.lt hf43_23
    replace D_cn0 := sa_app (M' := (blks hd43_23 ++ (b10_9 :: (b9_9 :: (b8_9 :: (b7_9 :: (b3_2 :: []))))))) D_cn0 hk (fun b hb => List.mem_append_left _ hb) (rep_app hf43_23 (rep_cons (rep_cons (rep_cons (rep_cons (rep_cons rep_nil))))))
    replace D_ci0 := sa_app (M' := (blks hd43_23 ++ (b10_9 :: (b9_9 :: (b8_9 :: (b7_9 :: (b3_2 :: []))))))) D_ci0 hk (fun b hb => List.mem_append_left _ hb) (rep_app hf43_23 (rep_cons (rep_cons (rep_cons (rep_cons (rep_cons rep_nil))))))
    replace own_b3_2 := own_app own_b3_2 hk nb_b3_2_22
    replace own_b10_9 := own_app own_b10_9 hk nb_b10_9_22
    replace own_b9_9 := own_app own_b9_9 hk nb_b9_9_22
    replace own_b8_9 := own_app own_b8_9 hk nb_b8_9_22
    replace own_b7_9 := own_app own_b7_9 hk nb_b7_9_22
    replace kw := keeps_app kw hk A_40_22.ge
    have e44 : sl a23 44 = (.pointer (some ⟨b9_9, 3, none⟩)) := e44
    clear hrest hk hg hpsi hf43_23 A_40_22
    refine tail_store (b := b9_9) (o := 3) (v := (.slice v43_23a v43_23n v43_23c)) e44 e43 sz22 rfl own_b9_9 (Nat.le_of_ble_eq_true rfl) (all_cons rfl all_nil) (fun W24 hs own_b9_9 => ?_)
    have own_b9_9 : Own W24 b9_9 [(.int .u8 (x.k)), (.int .i64 (x.n)), (.string (x.t)), (.slice v43_23a v43_23n v43_23c), (.slice ci0a (x.xs.length) ci0c)] 25 := own_b9_9
    replace own_b3_2 := own_store own_b3_2 hs ne_b3_2_b9_9
    replace own_b10_9 := own_store own_b10_9 hs ne_b10_9_b9_9
    replace own_b8_9 := own_store own_b8_9 hs ne_b9_9_b8_9.symm
    replace own_b7_9 := own_store own_b7_9 hs ne_b9_9_b7_9.symm
    replace D_cn0 := sa_store D_cn0 hs (by simp)
    replace D_ci0 := sa_store D_ci0 hs (by simp)
    replace A_43_23 := arrA_store A_43_23 hs (by simp) nb_b9_9_23
    replace kw := keeps_store kw hs lo_b9_9
    clear hs
    have D_v43_23 : Rd W24 (SA w S [b10_9, b9_9, b8_9, b7_9, b3_2]) (strsD (x.ns ++ [s])) (.slice v43_23a v43_23n v43_23c) := arrA_rd A_43_23 (ls_skipA (ls_keep (ls_keep (ls_keep (ls_keep (ls_keep ls_nil)))))) (nin_cons nb_b10_9_23 (nin_cons nb_b9_9_23 (nin_cons nb_b8_9_23 (nin_cons nb_b7_9_23 (nin_cons nb_b3_2_23 nin_nil)))))
    obtain ⟨xa, xc, ev, D2⟩ := rdS_out D_v43_23
    injection ev with h1 h2 h3; subst h1 h2 h3; replace D_v43_23 := D2; clear D2
    replace D_cn0 := sa_less (M' := [b10_9, b9_9, b8_9, b7_9, b3_2]) D_cn0 (ls_skipA (ls_keep (ls_keep (ls_keep (ls_keep (ls_keep ls_nil))))))
    replace D_ci0 := sa_less (M' := [b10_9, b9_9, b8_9, b7_9, b3_2]) D_ci0 (ls_skipA (ls_keep (ls_keep (ls_keep (ls_keep (ls_keep ls_nil))))))
    refine tail_nil (hK20 _ _ ?_)
    refine wp_seq_k fun K25 hK25 => ?_
    refine wp_reg All mixed hsz23 hdf23 st_tr trivial ?_
    refine Chain.op (φ := IsArr W24 w.heap.size 25 5 (SA w S [b10_9, b9_9, b8_9, b7_9, b3_2]) [] none) st_arr (sp_bslA Try.underlying23 sz25 kw.size) ?_
    refine Chain.done ⟨by kernel_rfl, fun a26 g W26 hsz26 hdf26 hk hg henv hrest hpsi => ?_⟩
    obtain ⟨e45, -⟩ := henv
    replace e1 := (hrest 1 rfl).trans e1
    replace e2 := (hrest 2 rfl).trans e2
    replace e3 := (hrest 3 rfl).trans e3
    replace e10 := (hrest 10 rfl).trans e10
    replace e9 := (hrest 9 rfl).trans e9
    replace e8 := (hrest 8 rfl).trans e8
    replace e7 := (hrest 7 rfl).trans e7
    obtain ⟨v45_26, ev⟩ : ∃ v, sl a26 45 = v := ⟨_, rfl⟩
    rw [ev] at e45
    obtain ⟨hd45_26, A_45_26, hf45_26⟩ := e45
    have e45 := ev; clear ev
    replace hf45_26 := row_new hf45_26
    obtain ⟨v45_26a, v45_26n, v45_26c, ev⟩ := arr_sl A_45_26; subst ev
    replace A_45_26 : Arr W26 w.heap.size 25 5 (SA w S (blks hd45_26 ++ (b10_9 :: (b9_9 :: (b8_9 :: (b7_9 :: (b3_2 :: []))))))) (List.map V.d ([])) (.slice v45_26a v45_26n v45_26c) hd45_26 := arrA_new A_45_26 (M' := (blks hd45_26 ++ (b10_9 :: (b9_9 :: (b8_9 :: (b7_9 :: (b3_2 :: []))))))) (fun b hb => (List.mem_append.1 hb).symm)
    have nb_b3_2_26 : b3_2 ∉ blks hd45_26 := fun hm => absurd (hf45_26 _ hm) (Nat.not_le.2 own_b3_2.lt)
    have nb_b10_9_26 : b10_9 ∉ blks hd45_26 := fun hm => absurd (hf45_26 _ hm) (Nat.not_le.2 own_b10_9.lt)
    have nb_b9_9_26 : b9_9 ∉ blks hd45_26 := fun hm => absurd (hf45_26 _ hm) (Nat.not_le.2 own_b9_9.lt)
    have nb_b8_9_26 : b8_9 ∉ blks hd45_26 := fun hm => absurd (hf45_26 _ hm) (Nat.not_le.2 own_b8_9.lt)
    have nb_b7_9_26 : b7_9 ∉ blks hd45_26 := fun hm => absurd (hf45_26 _ hm) (Nat.not_le.2 own_b7_9.lt)
    replace D_cn0 : Rd W26 (SA w S (blks hd45_26 ++ (b10_9 :: (b9_9 :: (b8_9 :: (b7_9 :: (b3_2 :: []))))))) (strsD (x.ns)) (.slice cn0a (x.ns.length) cn0c) := sa_more D_cn0 hk (blks hd45_26) hf45_26
    replace D_ci0 : Rd W26 (SA w S (blks hd45_26 ++ (b10_9 :: (b9_9 :: (b8_9 :: (b7_9 :: (b3_2 :: []))))))) (valsD (x.xs)) (.slice ci0a (x.xs.length) ci0c) := sa_more D_ci0 hk (blks hd45_26) hf45_26
    replace D_v43_23 : Rd W26 (SA w S (blks hd45_26 ++ (b10_9 :: (b9_9 :: (b8_9 :: (b7_9 :: (b3_2 :: []))))))) (strsD (x.ns ++ [s])) (.slice v43_23a ((x.ns ++ [s]).length) v43_23c) := sa_more D_v43_23 hk (blks hd45_26) hf45_26
    replace own_b3_2 := own_b3_2.ext hk
    replace own_b10_9 := own_b10_9.ext hk
    replace own_b9_9 := own_b9_9.ext hk
    replace own_b8_9 := own_b8_9.ext hk
    replace own_b7_9 := own_b7_9.ext hk
    replace kw := kw.trans (.of_ext hk)
    clear hrest hk hg hpsi hf45_26
    refine tail_reg 3 (fun k => k ∉ blks hd45_26) (Ψ := fun W => Arr W w.heap.size 25 5 (SA w S (blks hd45_26 ++ (b10_9 :: (b9_9 :: (b8_9 :: (b7_9 :: (b3_2 :: []))))))) (List.map V.d ([])) (.slice v45_26a v45_26n v45_26c) hd45_26) hsz26 hdf26 (fun W W' k h => h.ext k) A_45_26 rfl ?_
    refine Chain.op (φ := Is (.pointer (some ⟨b3_2, 4, none⟩))) (st_is _) (sp_fieldO (Has.base rfl e3) Try.underlying25 rfl sz23 rfl) ?_
    refine Chain.op (φ := Is (.slice ci0a (x.xs.length) ci0c)) (st_is _) (sp_loadO (v := (.slice ci0a (x.xs.length) ci0c)) (Has.loc rfl) own_b3_2 nb_b3_2_26 agg23 sz23 (Nat.le_of_ble_eq_true rfl) (fun h => by first | rfl | cases h) rfl) ?_
    refine Chain.appB (ds := List.map V.d ([])) (es := List.map V.d (x.xs)) (X := SA w S (blks hd45_26 ++ (b10_9 :: (b9_9 :: (b8_9 :: (b7_9 :: (b3_2 :: []))))))) Try.underlying23 inf25 (Nat.le_of_ble_eq_true rfl) (Has.base rfl e45) ((Has.loc rfl).dat D_ci0 (sub_nb (fun b hb => List.mem_append_left _ hb))) (sub_nb (fun b hb => List.mem_append_left _ hb)) (by simp [maxLen]; omega) (by simp; omega) kw.size ?_
    refine Chain.done ⟨by kernel_rfl, fun a27 g W27 hsz27 hdf27 hk hg henv hrest hpsi => ?_⟩
    refine tail_nil ?_
    show runTail _ _ _ _ _ _
    obtain ⟨e48, -, -, -⟩ := henv
    replace e1 := (hrest 1 rfl).trans e1
    replace e2 := (hrest 2 rfl).trans e2
    replace e3 := (hrest 3 rfl).trans e3
    replace e10 := (hrest 10 rfl).trans e10
    replace e9 := (hrest 9 rfl).trans e9
    replace e8 := (hrest 8 rfl).trans e8
    replace e7 := (hrest 7 rfl).trans e7
    obtain ⟨v48_27, ev⟩ : ∃ v, sl a27 48 = v := ⟨_, rfl⟩
    rw [ev] at e48
    obtain ⟨hd48_27, A_48_27, hf48_27⟩ := e48
    have e48 := ev; clear ev
    obtain ⟨v48_27a, v48_27n, v48_27c, ev⟩ := arr_sl A_48_27; subst ev
    replace A_48_27 := arrA_new (M' := (blks hd48_27 ++ (b10_9 :: (b9_9 :: (b8_9 :: (b7_9 :: (b3_2 :: []))))))) A_48_27 (rep_app (rep_q fun _ h => h) (rep_cons (rep_cons (rep_cons (rep_cons (rep_cons rep_nil))))))
    replace A_48_27 : Arr W27 w.heap.size 25 5 (SA w S (blks hd48_27 ++ (b10_9 :: (b9_9 :: (b8_9 :: (b7_9 :: (b3_2 :: []))))))) (List.map V.d (x.xs)) (.slice v48_27a v48_27n v48_27c) hd48_27 := by first | exact A_48_27 | (rw [List.map_append]; exact A_48_27)
    have nb_b3_2_27 : b3_2 ∉ blks hd48_27 := nb_new nb_b3_2_26 own_b3_2.lt hf48_27
    have nb_b10_9_27 : b10_9 ∉ blks hd48_27 := nb_new nb_b10_9_26 own_b10_9.lt hf48_27
    have nb_b9_9_27 : b9_9 ∉ blks hd48_27 := nb_new nb_b9_9_26 own_b9_9.lt hf48_27
    have nb_b8_9_27 : b8_9 ∉ blks hd48_27 := nb_new nb_b8_9_26 own_b8_9.lt hf48_27
    have nb_b7_9_27 : b7_9 ∉ blks hd48_27 := nb_new nb_b7_9_26 own_b7_9.lt hf48_27
    replace D_cn0 := sa_app (M' := (blks hd48_27 ++ (b10_9 :: (b9_9 :: (b8_9 :: (b7_9 :: (b3_2 :: []))))))) D_cn0 hk (fun b hb => List.mem_append_left _ hb) (rep_app hf48_27 (rep_cons (rep_cons (rep_cons (rep_cons (rep_cons rep_nil))))))
    replace D_ci0 := sa_app (M' := (blks hd48_27 ++ (b10_9 :: (b9_9 :: (b8_9 :: (b7_9 :: (b3_2 :: []))))))) D_ci0 hk (fun b hb => List.mem_append_left _ hb) (rep_app hf48_27 (rep_cons (rep_cons (rep_cons (rep_cons (rep_cons rep_nil))))))
    replace D_v43_23 := sa_app (M' := (blks hd48_27 ++ (b10_9 :: (b9_9 :: (b8_9 :: (b7_9 :: (b3_2 :: []))))))) D_v43_23 hk (fun b hb => List.mem_append_left _ hb) (rep_app hf48_27 (rep_cons (rep_cons (rep_cons (rep_cons (rep_cons rep_nil))))))
    replace own_b3_2 := own_app own_b3_2 hk nb_b3_2_26
    replace own_b10_9 := own_app own_b10_9 hk nb_b10_9_26
    replace own_b9_9 := own_app own_b9_9 hk nb_b9_9_26
    replace own_b8_9 := own_app own_b8_9 hk nb_b8_9_26
    replace own_b7_9 := own_app own_b7_9 hk nb_b7_9_26
    replace kw := keeps_app kw hk A_45_26.ge
    clear hrest hk hg hpsi hf48_27 A_45_26
    refine tail_reg 5 (fun k => k ∉ blks hd48_27) (Ψ := fun W => Arr W w.heap.size 25 5 (SA w S (blks hd48_27 ++ (b10_9 :: (b9_9 :: (b8_9 :: (b7_9 :: (b3_2 :: []))))))) (List.map V.d (x.xs)) (.slice v48_27a v48_27n v48_27c) hd48_27) hsz27 hdf27 (fun W W' k h => h.ext k) A_48_27 rfl ?_
    refine Chain.op (φ := Is (.int .i64 (n))) (st_is _) (sp_move (Has.base rfl e1)) ?_
    refine Chain.op (φ := Is (.agg #[(.int .u8 (2)), (.int .i64 (n)), (.string (⟨#[]⟩)), (.slice none 0 0), (.slice none 0 0)])) (st_is _) (sp_call1 (φ1 := Is (.int .i64 (n))) ent18 (Has.loc rfl) (fun g u1 W hk hgk h1 => by have h1 : u1 = _ := h1; subst u1; exact num_ok (n) W)) ?_
    refine Chain.op (φ := IsD (SA w S (blks hd48_27 ++ (b10_9 :: (b9_9 :: (b8_9 :: (b7_9 :: (b3_2 :: []))))))) (valsD ([V.mk (2) (n) (⟨#[]⟩) ([]) ([])]))) (st_d (sub_nb (fun b hb => List.mem_append_left _ hb))) (sp_bsl (ds := [V.d (V.mk (2) (n) (⟨#[]⟩) ([]) ([]))]) Try.underlying23 sz25 z25 (Nat.le_of_ble_eq_true rfl) (Nat.le_of_ble_eq_true rfl) ⟨rfl, ((Has.loc rfl).dat (rdV_mk (by decide) (rd_nil _) (rd_nil _) : Rd W27 (SA w S (blks hd48_27 ++ (b10_9 :: (b9_9 :: (b8_9 :: (b7_9 :: (b3_2 :: []))))))) (V.d (V.mk (2) (n) (⟨#[]⟩) ([]) ([]))) _) (sub_nb (fun b hb => List.mem_append_left _ hb))), trivial⟩ rfl (by intro e he; simp at he; rcases he with rfl <;> exact width_V _) (fr_sa kw (in_app A_48_27.lt (in_cons own_b10_9.lt (in_cons own_b9_9.lt (in_cons own_b8_9.lt (in_cons own_b7_9.lt (in_cons own_b3_2.lt in_nil)))))))) ?_
    refine Chain.appB (ds := List.map V.d (x.xs)) (es := [V.d (V.mk (2) (n) (⟨#[]⟩) ([]) ([]))]) (X := SA w S (blks hd48_27 ++ (b10_9 :: (b9_9 :: (b8_9 :: (b7_9 :: (b3_2 :: []))))))) Try.underlying23 inf25 (Nat.le_of_ble_eq_true rfl) (Has.base rfl e48) (Has.loc rfl) (sub_nb (fun b hb => List.mem_append_left _ hb)) (by simp [maxLen]; omega) (by simp; omega) kw.size ?_
    refine Chain.op (φ := Is (.pointer (some ⟨b10_9, 4, none⟩))) (st_is _) (sp_fieldO (Has.base rfl e10) Try.underlying25 rfl sz23 rfl) ?_
    refine Chain.done ⟨by kernel_rfl, fun a28 g W28 hsz28 hdf28 hk hg henv hrest hpsi => ?_⟩
    refine tail_nil ?_
    show runTail _ _ _ _ _ _
    obtain ⟨e53, e52, -, -, -, -⟩ := henv
    replace e1 := (hrest 1 rfl).trans e1
    replace e2 := (hrest 2 rfl).trans e2
    replace e3 := (hrest 3 rfl).trans e3
    replace e10 := (hrest 10 rfl).trans e10
    replace e9 := (hrest 9 rfl).trans e9
    replace e8 := (hrest 8 rfl).trans e8
    replace e7 := (hrest 7 rfl).trans e7
    obtain ⟨v52_28, ev⟩ : ∃ v, sl a28 52 = v := ⟨_, rfl⟩
    rw [ev] at e52
    obtain ⟨hd52_28, A_52_28, hf52_28⟩ := e52
    have e52 := ev; clear ev
    obtain ⟨v52_28a, v52_28n, v52_28c, ev⟩ := arr_sl A_52_28; subst ev
    replace A_52_28 := arrA_new (M' := (blks hd52_28 ++ (b10_9 :: (b9_9 :: (b8_9 :: (b7_9 :: (b3_2 :: []))))))) A_52_28 (rep_app (rep_q fun _ h => h) (rep_cons (rep_cons (rep_cons (rep_cons (rep_cons rep_nil))))))
    replace A_52_28 : Arr W28 w.heap.size 25 5 (SA w S (blks hd52_28 ++ (b10_9 :: (b9_9 :: (b8_9 :: (b7_9 :: (b3_2 :: []))))))) (List.map V.d (x.xs ++ [V.mk (2) (n) (⟨#[]⟩) ([]) ([])])) (.slice v52_28a v52_28n v52_28c) hd52_28 := by first | exact A_52_28 | (rw [List.map_append]; exact A_52_28)
    have nb_b3_2_28 : b3_2 ∉ blks hd52_28 := nb_new nb_b3_2_27 own_b3_2.lt hf52_28
    have nb_b10_9_28 : b10_9 ∉ blks hd52_28 := nb_new nb_b10_9_27 own_b10_9.lt hf52_28
    have nb_b9_9_28 : b9_9 ∉ blks hd52_28 := nb_new nb_b9_9_27 own_b9_9.lt hf52_28
    have nb_b8_9_28 : b8_9 ∉ blks hd52_28 := nb_new nb_b8_9_27 own_b8_9.lt hf52_28
    have nb_b7_9_28 : b7_9 ∉ blks hd52_28 := nb_new nb_b7_9_27 own_b7_9.lt hf52_28
    replace D_cn0 := sa_app (M' := (blks hd52_28 ++ (b10_9 :: (b9_9 :: (b8_9 :: (b7_9 :: (b3_2 :: []))))))) D_cn0 hk (fun b hb => List.mem_append_left _ hb) (rep_app hf52_28 (rep_cons (rep_cons (rep_cons (rep_cons (rep_cons rep_nil))))))
    replace D_ci0 := sa_app (M' := (blks hd52_28 ++ (b10_9 :: (b9_9 :: (b8_9 :: (b7_9 :: (b3_2 :: []))))))) D_ci0 hk (fun b hb => List.mem_append_left _ hb) (rep_app hf52_28 (rep_cons (rep_cons (rep_cons (rep_cons (rep_cons rep_nil))))))
    replace D_v43_23 := sa_app (M' := (blks hd52_28 ++ (b10_9 :: (b9_9 :: (b8_9 :: (b7_9 :: (b3_2 :: []))))))) D_v43_23 hk (fun b hb => List.mem_append_left _ hb) (rep_app hf52_28 (rep_cons (rep_cons (rep_cons (rep_cons (rep_cons rep_nil))))))
    replace own_b3_2 := own_app own_b3_2 hk nb_b3_2_27
    replace own_b10_9 := own_app own_b10_9 hk nb_b10_9_27
    replace own_b9_9 := own_app own_b9_9 hk nb_b9_9_27
    replace own_b8_9 := own_app own_b8_9 hk nb_b8_9_27
    replace own_b7_9 := own_app own_b7_9 hk nb_b7_9_27
    replace kw := keeps_app kw hk A_48_27.ge
    have e53 : sl a28 53 = (.pointer (some ⟨b10_9, 4, none⟩)) := e53
    clear hrest hk hg hpsi hf52_28 A_48_27
    refine tail_store (b := b10_9) (o := 4) (v := (.slice v52_28a v52_28n v52_28c)) e53 e52 sz23 rfl own_b10_9 (Nat.le_of_ble_eq_true rfl) (all_cons rfl all_nil) (fun W29 hs own_b10_9 => ?_)
    have own_b10_9 : Own W29 b10_9 [(.int .u8 (x.k)), (.int .i64 (x.n)), (.string (x.t)), (.slice cn0a (x.ns.length) cn0c), (.slice v52_28a v52_28n v52_28c)] 25 := own_b10_9
    replace own_b3_2 := own_store own_b3_2 hs ne_b3_2_b10_9
    replace own_b9_9 := own_store own_b9_9 hs ne_b10_9_b9_9.symm
    replace own_b8_9 := own_store own_b8_9 hs ne_b10_9_b8_9.symm
    replace own_b7_9 := own_store own_b7_9 hs ne_b10_9_b7_9.symm
    replace D_cn0 := sa_store D_cn0 hs (by simp)
    replace D_ci0 := sa_store D_ci0 hs (by simp)
    replace D_v43_23 := sa_store D_v43_23 hs (by simp)
    replace A_52_28 := arrA_store A_52_28 hs (by simp) nb_b10_9_28
    replace kw := keeps_store kw hs lo_b10_9
    clear hs
    have D_v52_28 : Rd W29 (SA w S [b10_9, b9_9, b8_9, b7_9, b3_2]) (valsD (x.xs ++ [V.mk (2) (n) (⟨#[]⟩) ([]) ([])])) (.slice v52_28a v52_28n v52_28c) := arrA_rd A_52_28 (ls_skipA (ls_keep (ls_keep (ls_keep (ls_keep (ls_keep ls_nil)))))) (nin_cons nb_b10_9_28 (nin_cons nb_b9_9_28 (nin_cons nb_b8_9_28 (nin_cons nb_b7_9_28 (nin_cons nb_b3_2_28 nin_nil)))))
    obtain ⟨xa, xc, ev, D2⟩ := rdVs_out D_v52_28
    injection ev with h1 h2 h3; subst h1 h2 h3; replace D_v52_28 := D2; clear D2
    replace D_cn0 := sa_less (M' := [b10_9, b9_9, b8_9, b7_9, b3_2]) D_cn0 (ls_skipA (ls_keep (ls_keep (ls_keep (ls_keep (ls_keep ls_nil))))))
    replace D_ci0 := sa_less (M' := [b10_9, b9_9, b8_9, b7_9, b3_2]) D_ci0 (ls_skipA (ls_keep (ls_keep (ls_keep (ls_keep (ls_keep ls_nil))))))
    replace D_v43_23 := sa_less (M' := [b10_9, b9_9, b8_9, b7_9, b3_2]) D_v43_23 (ls_skipA (ls_keep (ls_keep (ls_keep (ls_keep (ls_keep ls_nil))))))
    refine tail_nil (hK25 _ _ ?_)
    refine wp_seq_k fun K30 hK30 => ?_
    refine wp_seq_k fun K31 hK31 => ?_
    refine wp_reg All mixed hsz28 hdf28 st_tr trivial ?_
    refine Chain.op (φ := Is (.pointer (some ⟨b3_2, 0, none⟩))) (st_is _) (sp_fieldO (Has.base rfl e3) Try.underlying25 rfl sz5 rfl) ?_
    refine Chain.op (φ := Is (.int .u8 (x.k))) (st_is _) (sp_loadO (v := (.int .u8 (x.k))) (Has.loc rfl) own_b3_2 trivial agg5 sz5 (Nat.le_of_ble_eq_true rfl) (fun h => by first | rfl | cases h) rfl) ?_
    refine Chain.op (φ := Is (.bool ((x.k : Int) != (2 : Int)))) (st_is _) (sp_neq (Has.loc rfl) Has.cst) ?_
    refine Chain.op (φ := Is (.bool ((x.k : Int) != (2 : Int)))) (st_is _) (sp_move (Has.loc rfl)) ?_
    refine Chain.opE (t := 57) (x := (x.k : Int) != (2 : Int)) (φ := Is (.int .i64 (n))) rfl (Has.loc rfl) (st_is _) (fun hg => sp_move (Has.base rfl e1)) ?_
    refine Chain.opE (t := 57) (x := (x.k : Int) != (2 : Int)) (φ := Is (.pointer (some ⟨b3_2, 1, none⟩))) rfl (Has.loc rfl) (st_is _) (fun hg => sp_fieldO (Has.base rfl e3) Try.underlying25 rfl sz2 rfl) ?_
    refine Chain.opE (t := 57) (x := (x.k : Int) != (2 : Int)) (φ := Is (.int .i64 (x.n))) rfl (Has.loc rfl) (st_is _) (fun hg => sp_loadO (v := (.int .i64 (x.n))) ((Has.loc rfl).undE hg) own_b3_2 trivial agg2 sz2 (Nat.le_of_ble_eq_true rfl) (fun h => by first | rfl | cases h) rfl) ?_
    refine Chain.opE (t := 57) (x := (x.k : Int) != (2 : Int)) (φ := Is (.bool ((n : Int) != (x.n : Int)))) rfl (Has.loc rfl) (st_is _) (fun hg => sp_neq ((Has.loc rfl).undE hg) ((Has.loc rfl).undE hg)) ?_
    refine Chain.op (φ := Is (.bool (((x.k : Int) != (2 : Int)) && ((n : Int) != (x.n : Int))))) (st_is _) (sp_and (Has.loc rfl) ((Has.loc rfl).weak fun hq => hq)) ?_
    refine Chain.op (φ := Is (.bool (((x.k : Int) != (2 : Int)) && ((n : Int) != (x.n : Int))))) (st_is _) (sp_move (Has.loc rfl)) ?_
    refine Chain.opE (t := 63) (x := ((x.k : Int) != (2 : Int)) && ((n : Int) != (x.n : Int))) (φ := Is (.pointer (some ⟨b3_2, 0, none⟩))) rfl (Has.loc rfl) (st_is _) (fun hg => sp_fieldO (Has.base rfl e3) Try.underlying25 rfl sz5 rfl) ?_
    refine Chain.opE (t := 63) (x := ((x.k : Int) != (2 : Int)) && ((n : Int) != (x.n : Int))) (φ := Is (.int .u8 (x.k))) rfl (Has.loc rfl) (st_is _) (fun hg => sp_loadO (v := (.int .u8 (x.k))) ((Has.loc rfl).undE hg) own_b3_2 trivial agg5 sz5 (Nat.le_of_ble_eq_true rfl) (fun h => by first | rfl | cases h) rfl) ?_
    refine Chain.opE (t := 63) (x := ((x.k : Int) != (2 : Int)) && ((n : Int) != (x.n : Int))) (φ := Is (.bool ((x.k : Int) != (1 : Int)))) rfl (Has.loc rfl) (st_is _) (fun hg => sp_neq ((Has.loc rfl).undE hg) Has.cst) ?_
    refine Chain.opE (t := 63) (x := ((x.k : Int) != (2 : Int)) && ((n : Int) != (x.n : Int))) (φ := Is (.bool ((x.k : Int) != (1 : Int)))) rfl (Has.loc rfl) (st_is _) (fun hg => sp_move ((Has.loc rfl).undE hg)) ?_
    refine Chain.opEE (t := 67) (x := (x.k : Int) != (1 : Int)) (p := (((x.k : Int) != (2 : Int)) && ((n : Int) != (x.n : Int))) = true) (φ := Is (.int .i64 (n))) rfl (Has.loc rfl) (st_is _) (fun hg => sp_move (Has.base rfl e1)) ?_
    refine Chain.opEE (t := 67) (x := (x.k : Int) != (1 : Int)) (p := (((x.k : Int) != (2 : Int)) && ((n : Int) != (x.n : Int))) = true) (φ := Is (.bool ((n : Int) != (0 : Int)))) rfl (Has.loc rfl) (st_is _) (fun hg => sp_neq ((Has.loc rfl).undE hg) Has.cst) ?_
    refine Chain.opEE (t := 67) (x := (x.k : Int) != (1 : Int)) (p := (((x.k : Int) != (2 : Int)) && ((n : Int) != (x.n : Int))) = true) (φ := Is (.bool ((n : Int) != (0 : Int)))) rfl (Has.loc rfl) (st_is _) (fun hg => sp_move ((Has.loc rfl).undE hg)) ?_
    refine Chain.opEE (t := 70) (x := (n : Int) != (0 : Int)) (p := ((((x.k : Int) != (2 : Int)) && ((n : Int) != (x.n : Int))) = true) ∧ ((x.k : Int) != (1 : Int)) = false) (φ := Is (.int .i64 (n))) rfl (Has.loc rfl) (st_is _) (fun hg => sp_move (Has.base rfl e1)) ?_
    refine Chain.opEE (t := 70) (x := (n : Int) != (0 : Int)) (p := ((((x.k : Int) != (2 : Int)) && ((n : Int) != (x.n : Int))) = true) ∧ ((x.k : Int) != (1 : Int)) = false) (φ := Is (.bool ((n : Int) != (1 : Int)))) rfl (Has.loc rfl) (st_is _) (fun hg => sp_neq ((Has.loc rfl).undE hg) Has.cst) ?_
    refine Chain.opEE (t := 67) (x := (x.k : Int) != (1 : Int)) (p := (((x.k : Int) != (2 : Int)) && ((n : Int) != (x.n : Int))) = true) (φ := Is (.bool (((n : Int) != (0 : Int)) && ((n : Int) != (1 : Int))))) rfl (Has.loc rfl) (st_is _) (fun hg => sp_and ((Has.loc rfl).undE hg) ((Has.loc rfl).weak fun hq => ⟨hg, hq⟩)) ?_
    refine Chain.opE (t := 63) (x := ((x.k : Int) != (2 : Int)) && ((n : Int) != (x.n : Int))) (φ := Is (.bool (((x.k : Int) != (1 : Int)) || (((n : Int) != (0 : Int)) && ((n : Int) != (1 : Int)))))) rfl (Has.loc rfl) (st_is _) (fun hg => sp_or ((Has.loc rfl).undE hg) ((Has.loc rfl).weak fun hq => ⟨hg, hq⟩)) ?_
    refine Chain.op (φ := Is (.bool ((((x.k : Int) != (2 : Int)) && ((n : Int) != (x.n : Int))) && (((x.k : Int) != (1 : Int)) || (((n : Int) != (0 : Int)) && ((n : Int) != (1 : Int))))))) (st_is _) (sp_and (Has.loc rfl) ((Has.loc rfl).weak fun hq => hq)) ?_
    refine Chain.op (φ := Is (.bool ((((x.k : Int) != (2 : Int)) && ((n : Int) != (x.n : Int))) && (((x.k : Int) != (1 : Int)) || (((n : Int) != (0 : Int)) && ((n : Int) != (1 : Int))))))) (st_is _) (sp_move (Has.loc rfl)) ?_
    refine Chain.opE (t := 76) (x := (((x.k : Int) != (2 : Int)) && ((n : Int) != (x.n : Int))) && (((x.k : Int) != (1 : Int)) || (((n : Int) != (0 : Int)) && ((n : Int) != (1 : Int))))) (φ := Is (.agg #[(.int .u8 (x.k)), (.int .i64 (n)), (.string (x.t)), (.slice cn0a (x.ns.length) cn0c), (.slice ci0a (x.xs.length) ci0c)])) rfl (Has.loc rfl) (st_is _) (fun hg => sp_loadO (v := (.agg #[(.int .u8 (x.k)), (.int .i64 (n)), (.string (x.t)), (.slice cn0a (x.ns.length) cn0c), (.slice ci0a (x.xs.length) ci0c)])) (Has.base rfl e7) own_b7_9 trivial agg25 sz25 (Nat.le_of_ble_eq_true rfl) (fun h => by first | rfl | cases h) rfl) ?_
    refine Chain.opE (t := 76) (x := (((x.k : Int) != (2 : Int)) && ((n : Int) != (x.n : Int))) && (((x.k : Int) != (1 : Int)) || (((n : Int) != (0 : Int)) && ((n : Int) != (1 : Int))))) (φ := Is (.bool (mayB (V.mk (x.k) (n) (x.t) (x.ns) (x.xs))))) rfl (Has.loc rfl) (st_is _) (fun hg => sp_call1 (φ1 := IsD (SA w S [b10_9, b9_9, b8_9, b7_9, b3_2]) (V.d (V.mk (x.k) (n) (x.t) (x.ns) (x.xs)))) ent15 (((Has.loc rfl).undE hg).dat (rdV_mk ht0 D_cn0 D_ci0 : Rd W29 (SA w S [b10_9, b9_9, b8_9, b7_9, b3_2]) (V.d (V.mk (x.k) (n) (x.t) (x.ns) (x.xs))) _) sub_all) (fun g u1 W hk hgk h1 => May_ok (V.mk (x.k) (n) (x.t) (x.ns) (x.xs)) (by first | exact may_bd hg | omega | (simp only [V.cnt, cnts_app, V.cnts]; omega)) W _ _ h1)) ?_
    refine Chain.op (φ := Is (.bool (((((x.k : Int) != (2 : Int)) && ((n : Int) != (x.n : Int))) && (((x.k : Int) != (1 : Int)) || (((n : Int) != (0 : Int)) && ((n : Int) != (1 : Int))))) && (mayB (V.mk (x.k) (n) (x.t) (x.ns) (x.xs)))))) (st_is _) (sp_and (Has.loc rfl) ((Has.loc rfl).weak fun hq => hq)) ?_
    refine Chain.done ⟨by kernel_rfl, fun a32 g W32 hsz32 hdf32 hk hg henv hrest hpsi => ?_⟩
    obtain ⟨e79, -, -, -, -, -, -, -, -, -, -, -, -, -, -, -, -, -, -, -, -, -, -, -, -, -, -⟩ := henv
    replace e2 := (hrest 2 rfl).trans e2
    replace e3 := (hrest 3 rfl).trans e3
    replace e10 := (hrest 10 rfl).trans e10
    replace e9 := (hrest 9 rfl).trans e9
    replace e8 := (hrest 8 rfl).trans e8
    replace D_cn0 := D_cn0.ext hk
    replace D_ci0 := D_ci0.ext hk
    replace D_v43_23 := D_v43_23.ext hk
    replace D_v52_28 := D_v52_28.ext hk
    have e79 : sl a32 79 = (.bool (((((x.k : Int) != (2 : Int)) && ((n : Int) != (x.n : Int))) && (((x.k : Int) != (1 : Int)) || (((n : Int) != (0 : Int)) && ((n : Int) != (1 : Int))))) && (mayB (V.mk (x.k) (n) (x.t) (x.ns) (x.xs))))) := e79
    replace own_b3_2 := own_b3_2.ext hk
    replace own_b10_9 := own_b10_9.ext hk
    replace own_b9_9 := own_b9_9.ext hk
    replace own_b8_9 := own_b8_9.ext hk
    replace own_b7_9 := own_b7_9.ext hk
    replace kw := kw.trans (.of_ext hk)
    clear hrest hk hg hpsi
    refine tail_nil (hK31 _ _ ?_)
    refine wp_cond_split e79 (fun hc => ?_) (fun hc => ?_)
    · -- T: ((((x.k : Int) != (2 : Int)) && ((n : Int) != (x.n : Int))) && (((x.k : Int) != 
      exfalso
      have h1 : x.k ≠ 2 := fun h => by simp [h] at hc
      have h2 : n ≠ x.n := fun h => by simp [h] at hc
      have h3 : x.k ≠ 1 ∨ (n ≠ 0 ∧ n ≠ 1) := by
        by_cases hk1 : x.k = 1
        · exact .inr ⟨fun h => by simp [hk1, h] at hc, fun h => by simp [hk1, h] at hc⟩
        · exact .inl hk1
      rw [else_n hmay h1 h2 h3] at hc
      simp at hc
    · -- E: ((((x.k : Int) != (2 : Int)) && ((n : Int) != (x.n : Int))) && (((x.k : Int) != 
      refine wp_skip (hK30 _ _ ?_)
      refine wp_seq_k fun K33 hK33 => ?_
      refine wp_seq_k fun K34 hK34 => ?_
      refine wp_reg All mixed hsz32 hdf32 st_tr trivial ?_
      refine Chain.op (φ := Is (.pointer (some ⟨b3_2, 0, none⟩))) (st_is _) (sp_fieldO (Has.base rfl e3) Try.underlying25 rfl sz5 rfl) ?_
      refine Chain.op (φ := Is (.int .u8 (x.k))) (st_is _) (sp_loadO (v := (.int .u8 (x.k))) (Has.loc rfl) own_b3_2 trivial agg5 sz5 (Nat.le_of_ble_eq_true rfl) (fun h => by first | rfl | cases h) rfl) ?_
      refine Chain.op (φ := Is (.bool ((x.k : Int) != (3 : Int)))) (st_is _) (sp_neq (Has.loc rfl) Has.cst) ?_
      refine Chain.op (φ := Is (.bool ((x.k : Int) != (3 : Int)))) (st_is _) (sp_move (Has.loc rfl)) ?_
      refine Chain.opE (t := 83) (x := (x.k : Int) != (3 : Int)) (φ := Is (.string (s))) rfl (Has.loc rfl) (st_is _) (fun hg => sp_move (Has.base rfl e2)) ?_
      refine Chain.opE (t := 83) (x := (x.k : Int) != (3 : Int)) (φ := Is (.bool (!decide (s = (⟨#[]⟩ : ByteArray))))) rfl (Has.loc rfl) (st_is _) (fun hg => sp_sNeq ((Has.loc rfl).undE hg) Has.cst) ?_
      refine Chain.op (φ := Is (.bool (((x.k : Int) != (3 : Int)) && (!decide (s = (⟨#[]⟩ : ByteArray)))))) (st_is _) (sp_and (Has.loc rfl) ((Has.loc rfl).weak fun hq => hq)) ?_
      refine Chain.op (φ := Is (.bool (((x.k : Int) != (3 : Int)) && (!decide (s = (⟨#[]⟩ : ByteArray)))))) (st_is _) (sp_move (Has.loc rfl)) ?_
      refine Chain.opE (t := 87) (x := ((x.k : Int) != (3 : Int)) && (!decide (s = (⟨#[]⟩ : ByteArray)))) (φ := Is (.agg #[(.int .u8 (x.k)), (.int .i64 (x.n)), (.string (s)), (.slice cn0a (x.ns.length) cn0c), (.slice ci0a (x.xs.length) ci0c)])) rfl (Has.loc rfl) (st_is _) (fun hg => sp_loadO (v := (.agg #[(.int .u8 (x.k)), (.int .i64 (x.n)), (.string (s)), (.slice cn0a (x.ns.length) cn0c), (.slice ci0a (x.xs.length) ci0c)])) (Has.base rfl e8) own_b8_9 trivial agg25 sz25 (Nat.le_of_ble_eq_true rfl) (fun h => by first | rfl | cases h) rfl) ?_
      refine Chain.opE (t := 87) (x := ((x.k : Int) != (3 : Int)) && (!decide (s = (⟨#[]⟩ : ByteArray)))) (φ := Is (.bool (mayB (V.mk (x.k) (x.n) (s) (x.ns) (x.xs))))) rfl (Has.loc rfl) (st_is _) (fun hg => sp_call1 (φ1 := IsD (SA w S [b10_9, b9_9, b8_9, b7_9, b3_2]) (V.d (V.mk (x.k) (x.n) (s) (x.ns) (x.xs)))) ent15 (((Has.loc rfl).undE hg).dat (rdV_mk hs D_cn0 D_ci0 : Rd W32 (SA w S [b10_9, b9_9, b8_9, b7_9, b3_2]) (V.d (V.mk (x.k) (x.n) (s) (x.ns) (x.xs))) _) sub_all) (fun g u1 W hk hgk h1 => May_ok (V.mk (x.k) (x.n) (s) (x.ns) (x.xs)) (by first | exact may_bd hg | omega | (simp only [V.cnt, cnts_app, V.cnts]; omega)) W _ _ h1)) ?_
      refine Chain.op (φ := Is (.bool ((((x.k : Int) != (3 : Int)) && (!decide (s = (⟨#[]⟩ : ByteArray)))) && (mayB (V.mk (x.k) (x.n) (s) (x.ns) (x.xs)))))) (st_is _) (sp_and (Has.loc rfl) ((Has.loc rfl).weak fun hq => hq)) ?_
      refine Chain.done ⟨by kernel_rfl, fun a35 g W35 hsz35 hdf35 hk hg henv hrest hpsi => ?_⟩
      obtain ⟨e90, -, -, -, -, -, -, -, -, -, -, -⟩ := henv
      replace e3 := (hrest 3 rfl).trans e3
      replace e10 := (hrest 10 rfl).trans e10
      replace e9 := (hrest 9 rfl).trans e9
      replace D_cn0 := D_cn0.ext hk
      replace D_ci0 := D_ci0.ext hk
      replace D_v43_23 := D_v43_23.ext hk
      replace D_v52_28 := D_v52_28.ext hk
      have e90 : sl a35 90 = (.bool ((((x.k : Int) != (3 : Int)) && (!decide (s = (⟨#[]⟩ : ByteArray)))) && (mayB (V.mk (x.k) (x.n) (s) (x.ns) (x.xs))))) := e90
      replace own_b3_2 := own_b3_2.ext hk
      replace own_b10_9 := own_b10_9.ext hk
      replace own_b9_9 := own_b9_9.ext hk
      replace own_b8_9 := own_b8_9.ext hk
      replace own_b7_9 := own_b7_9.ext hk
      replace kw := kw.trans (.of_ext hk)
      clear hrest hk hg hpsi
      refine tail_nil (hK34 _ _ ?_)
      refine wp_cond_split e90 (fun hc => ?_) (fun hc => ?_)
      · -- T: (((x.k : Int) != (3 : Int)) && (!decide (s = (⟨#[]⟩ : ByteArray)))) && (mayB (V.
        exfalso
        have h1 : x.k ≠ 3 := fun h => by simp [h] at hc
        have h2 : s ≠ ⟨#[]⟩ := fun h => by simp [h] at hc
        rw [else_t h1 h2] at hc
        simp at hc
      · -- E: (((x.k : Int) != (3 : Int)) && (!decide (s = (⟨#[]⟩ : ByteArray)))) && (mayB (V.
        refine wp_skip (hK33 _ _ ?_)
        refine wp_seq_k fun K36 hK36 => ?_
        refine wp_reg All mixed hsz35 hdf35 st_tr trivial ?_
        refine Chain.op (φ := Is (.agg #[(.int .u8 (x.k)), (.int .i64 (x.n)), (.string (x.t)), (.slice v43_23a ((x.ns ++ [s]).length) v43_23c), (.slice ci0a (x.xs.length) ci0c)])) (st_is _) (sp_loadO (v := (.agg #[(.int .u8 (x.k)), (.int .i64 (x.n)), (.string (x.t)), (.slice v43_23a ((x.ns ++ [s]).length) v43_23c), (.slice ci0a (x.xs.length) ci0c)])) (Has.base rfl e9) own_b9_9 trivial agg25 sz25 (Nat.le_of_ble_eq_true rfl) (fun h => by first | rfl | cases h) rfl) ?_
        refine Chain.op (φ := Is (.bool (mayB (V.mk (x.k) (x.n) (x.t) (x.ns ++ [s]) (x.xs))))) (st_is _) (sp_call1 (φ1 := IsD (SA w S [b10_9, b9_9, b8_9, b7_9, b3_2]) (V.d (V.mk (x.k) (x.n) (x.t) (x.ns ++ [s]) (x.xs)))) ent15 ((Has.loc rfl).dat (rdV_mk ht0 D_v43_23 D_ci0 : Rd W35 (SA w S [b10_9, b9_9, b8_9, b7_9, b3_2]) (V.d (V.mk (x.k) (x.n) (x.t) (x.ns ++ [s]) (x.xs))) _) sub_all) (fun g u1 W hk hgk h1 => May_ok (V.mk (x.k) (x.n) (x.t) (x.ns ++ [s]) (x.xs)) (by first | exact may_bd hg | omega | (simp only [V.cnt, cnts_app, V.cnts]; omega)) W _ _ h1)) ?_
        refine Chain.op (φ := Is (.bool (!(mayB (V.mk (x.k) (x.n) (x.t) (x.ns ++ [s]) (x.xs)))))) (st_is _) (sp_not (Has.loc rfl)) ?_
        refine Chain.op (φ := Is (.bool (!(mayB (V.mk (x.k) (x.n) (x.t) (x.ns ++ [s]) (x.xs)))))) (st_is _) (sp_move (Has.loc rfl)) ?_
        refine Chain.opE (t := 94) (x := !(mayB (V.mk (x.k) (x.n) (x.t) (x.ns ++ [s]) (x.xs)))) (φ := Is (.pointer (some ⟨b3_2, 0, none⟩))) rfl (Has.loc rfl) (st_is _) (fun hg => sp_fieldO (Has.base rfl e3) Try.underlying25 rfl sz5 rfl) ?_
        refine Chain.opE (t := 94) (x := !(mayB (V.mk (x.k) (x.n) (x.t) (x.ns ++ [s]) (x.xs)))) (φ := Is (.int .u8 (x.k))) rfl (Has.loc rfl) (st_is _) (fun hg => sp_loadO (v := (.int .u8 (x.k))) ((Has.loc rfl).undE hg) own_b3_2 trivial agg5 sz5 (Nat.le_of_ble_eq_true rfl) (fun h => by first | rfl | cases h) rfl) ?_
        refine Chain.opE (t := 94) (x := !(mayB (V.mk (x.k) (x.n) (x.t) (x.ns ++ [s]) (x.xs)))) (φ := Is (.bool ((x.k : Int) == (4 : Int)))) rfl (Has.loc rfl) (st_is _) (fun hg => sp_eql ((Has.loc rfl).undE hg) Has.cst) ?_
        refine Chain.opE (t := 94) (x := !(mayB (V.mk (x.k) (x.n) (x.t) (x.ns ++ [s]) (x.xs)))) (φ := Is (.bool ((x.k : Int) == (4 : Int)))) rfl (Has.loc rfl) (st_is _) (fun hg => sp_move ((Has.loc rfl).undE hg)) ?_
        refine Chain.opEE (t := 98) (x := (x.k : Int) == (4 : Int)) (p := (!(mayB (V.mk (x.k) (x.n) (x.t) (x.ns ++ [s]) (x.xs)))) = true) (φ := Is (.agg #[(.int .u8 (x.k)), (.int .i64 (x.n)), (.string (x.t)), (.slice cn0a (x.ns.length) cn0c), (.slice v52_28a ((x.xs ++ [V.mk (2) (n) (⟨#[]⟩) ([]) ([])]).length) v52_28c)])) rfl (Has.loc rfl) (st_is _) (fun hg => sp_loadO (v := (.agg #[(.int .u8 (x.k)), (.int .i64 (x.n)), (.string (x.t)), (.slice cn0a (x.ns.length) cn0c), (.slice v52_28a ((x.xs ++ [V.mk (2) (n) (⟨#[]⟩) ([]) ([])]).length) v52_28c)])) (Has.base rfl e10) own_b10_9 trivial agg25 sz25 (Nat.le_of_ble_eq_true rfl) (fun h => by first | rfl | cases h) rfl) ?_
        refine Chain.opEE (t := 98) (x := (x.k : Int) == (4 : Int)) (p := (!(mayB (V.mk (x.k) (x.n) (x.t) (x.ns ++ [s]) (x.xs)))) = true) (φ := Is (.bool (mayB (V.mk (x.k) (x.n) (x.t) (x.ns) (x.xs ++ [V.mk (2) (n) (⟨#[]⟩) ([]) ([])]))))) rfl (Has.loc rfl) (st_is _) (fun hg => sp_call1 (φ1 := IsD (SA w S [b10_9, b9_9, b8_9, b7_9, b3_2]) (V.d (V.mk (x.k) (x.n) (x.t) (x.ns) (x.xs ++ [V.mk (2) (n) (⟨#[]⟩) ([]) ([])])))) ent15 (((Has.loc rfl).undE hg).dat (rdV_mk ht0 D_cn0 D_v52_28 : Rd W35 (SA w S [b10_9, b9_9, b8_9, b7_9, b3_2]) (V.d (V.mk (x.k) (x.n) (x.t) (x.ns) (x.xs ++ [V.mk (2) (n) (⟨#[]⟩) ([]) ([])]))) _) sub_all) (fun g u1 W hk hgk h1 => May_ok (V.mk (x.k) (x.n) (x.t) (x.ns) (x.xs ++ [V.mk (2) (n) (⟨#[]⟩) ([]) ([])])) (by first | exact may_bd hg | omega | (simp only [V.cnt, cnts_app, V.cnts]; omega)) W _ _ h1)) ?_
        refine Chain.opEE (t := 98) (x := (x.k : Int) == (4 : Int)) (p := (!(mayB (V.mk (x.k) (x.n) (x.t) (x.ns ++ [s]) (x.xs)))) = true) (φ := Is (.bool (!(mayB (V.mk (x.k) (x.n) (x.t) (x.ns) (x.xs ++ [V.mk (2) (n) (⟨#[]⟩) ([]) ([])])))))) rfl (Has.loc rfl) (st_is _) (fun hg => sp_not ((Has.loc rfl).undE hg)) ?_
        refine Chain.opE (t := 94) (x := !(mayB (V.mk (x.k) (x.n) (x.t) (x.ns ++ [s]) (x.xs)))) (φ := Is (.bool (((x.k : Int) == (4 : Int)) || (!(mayB (V.mk (x.k) (x.n) (x.t) (x.ns) (x.xs ++ [V.mk (2) (n) (⟨#[]⟩) ([]) ([])]))))))) rfl (Has.loc rfl) (st_is _) (fun hg => sp_or ((Has.loc rfl).undE hg) ((Has.loc rfl).weak fun hq => ⟨hg, hq⟩)) ?_
        refine Chain.op (φ := Is (.bool ((!(mayB (V.mk (x.k) (x.n) (x.t) (x.ns ++ [s]) (x.xs)))) && (((x.k : Int) == (4 : Int)) || (!(mayB (V.mk (x.k) (x.n) (x.t) (x.ns) (x.xs ++ [V.mk (2) (n) (⟨#[]⟩) ([]) ([])])))))))) (st_is _) (sp_and (Has.loc rfl) ((Has.loc rfl).weak fun hq => hq)) ?_
        refine Chain.op (φ := Is (.bool ((!(mayB (V.mk (x.k) (x.n) (x.t) (x.ns ++ [s]) (x.xs)))) && (((x.k : Int) == (4 : Int)) || (!(mayB (V.mk (x.k) (x.n) (x.t) (x.ns) (x.xs ++ [V.mk (2) (n) (⟨#[]⟩) ([]) ([])])))))))) (st_is _) (sp_assign (Has.loc rfl)) ?_
        refine Chain.done ⟨by kernel_rfl, fun a37 g W37 hsz37 hdf37 hk hg henv hrest hpsi => ?_⟩
        obtain ⟨e6, -, -, -, -, -, -, -, -, -, -, -, -, -, -⟩ := henv
        replace D_cn0 := D_cn0.ext hk
        replace D_ci0 := D_ci0.ext hk
        replace D_v43_23 := D_v43_23.ext hk
        replace D_v52_28 := D_v52_28.ext hk
        have e6 : sl a37 6 = (.bool ((!(mayB (V.mk (x.k) (x.n) (x.t) (x.ns ++ [s]) (x.xs)))) && (((x.k : Int) == (4 : Int)) || (!(mayB (V.mk (x.k) (x.n) (x.t) (x.ns) (x.xs ++ [V.mk (2) (n) (⟨#[]⟩) ([]) ([])]))))))) := e6
        replace own_b3_2 := own_b3_2.ext hk
        replace own_b10_9 := own_b10_9.ext hk
        replace own_b9_9 := own_b9_9.ext hk
        replace own_b8_9 := own_b8_9.ext hk
        replace own_b7_9 := own_b7_9.ext hk
        replace kw := kw.trans (.of_ext hk)
        clear hrest hk hg hpsi
        refine tail_nil (hK36 _ _ ?_)
        refine wp_ret ?_
        refine (show bodyPost Try.prog Try.f5 _ .ret _ _ from ret1 rfl hdf37 e6 ⟨_, rfl, kw, ?_⟩)
        congr 1
        rw [else_ns hmay]
        by_cases hk4 : x.k = 4
        · simp [hk4]
        · rw [else_xs hmay hk4]; simp

end Go.Proofs.Ytkhnemiflpjbpaa
