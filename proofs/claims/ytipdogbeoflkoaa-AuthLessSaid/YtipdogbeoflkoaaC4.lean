import Derived.Test.YtipdogbeoflkoaaC3
namespace Go.Proofs.Ytipdogbeoflkoaa
open Go.Eng
set_option maxRecDepth 100000 in
theorem refSame_all : ∀ (n : Nat) (x y : V), x.cnt ≤ n → n ≤ 1073741824 → ∀ (w : World) (S : BSet) (v u : Value), Rd w S x.d v → Rd w S y.d u → Calls Try.prog 30 #[v, u] w (Ret w fun u _ => u = .bool (V.beq x y)) := by
  intro n
  induction n with
  | zero => intro x y hx; cases x; simp [V.cnt] at hx
  | succ n ih =>
  intro x y hx hn w S v u hv hu
  have hlx := len_cnts x.xs
  have hcx := cnt_eq x
  have hmn : x.ns.length ≤ maxLen := by obtain ⟨_, _, _, _, _, _, h, _⟩ := rdV_out hv; exact rd_lenS h
  simp only [maxLen] at hmn
  obtain ⟨cn0a, cn0c, ci0a, ci0c, ev, ht0, D_cn0, D_ci0⟩ := rdV_out (rd_arg hv)
  subst ev
  obtain ⟨cn1a, cn1c, ci1a, ci1c, ev, ht1, D_cn1, D_ci1⟩ := rdV_out (rd_arg hu)
  subst ev
  refine enter Try.func30 rfl Try.ntmps30 (Nat.le_of_ble_eq_true rfl) fun a0 hsz0 hdf0 harg => ?_
  have e0 : sl a0 0 = (.agg #[(.int .u8 (x.k)), (.int .i64 (x.n)), (.string (x.t)), (.slice cn0a (x.ns.length) cn0c), (.slice ci0a (x.xs.length) ci0c)]) := harg 0 (Nat.le_of_ble_eq_true rfl)
  have e1 : sl a0 1 = (.agg #[(.int .u8 (y.k)), (.int .i64 (y.n)), (.string (y.t)), (.slice cn1a (y.ns.length) cn1c), (.slice ci1a (y.xs.length) ci1c)]) := harg 1 (Nat.le_of_ble_eq_true rfl)
  have kw := Keeps.refl All w
  clear harg
  refine wp_seq_k fun K1 hK1 => ?_
  refine wp_reg All mixed hsz0 hdf0 st_tr trivial ?_
  refine Chain.boxOp (v := (.agg #[(.int .u8 (x.k)), (.int .i64 (x.n)), (.string (x.t)), (.slice cn0a (x.ns.length) cn0c), (.slice ci0a (x.xs.length) ci0c)])) (Has.base rfl e0) ?_
  refine Chain.boxOp (v := (.agg #[(.int .u8 (y.k)), (.int .i64 (y.n)), (.string (y.t)), (.slice cn1a (y.ns.length) cn1c), (.slice ci1a (y.xs.length) ci1c)])) (Has.base rfl e1) ?_
  refine Chain.op (φ := Is (.bool (false))) (st_is _) (sp_assign Has.cst) ?_
  refine Chain.done ⟨by kernel_rfl, fun a2 g W2 hsz2 hdf2 hk hg henv hrest hpsi => ?_⟩
  obtain ⟨-, ⟨b3_2, e3, hb3, own_b3_2⟩, ⟨b2_2, e2, hb2, own_b2_2⟩, -⟩ := henv
  have lo_b3_2 : w.heap.size ≤ b3_2 := Nat.le_trans kw.size (hg.lo _ _ hb3)
  have own_b3_2 : Own W2 b3_2 [(.int .u8 (y.k)), (.int .i64 (y.n)), (.string (y.t)), (.slice cn1a (y.ns.length) cn1c), (.slice ci1a (y.xs.length) ci1c)] 33 := own_b3_2
  have lo_b2_2 : w.heap.size ≤ b2_2 := Nat.le_trans kw.size (hg.lo _ _ hb2)
  have own_b2_2 : Own W2 b2_2 [(.int .u8 (x.k)), (.int .i64 (x.n)), (.string (x.t)), (.slice cn0a (x.ns.length) cn0c), (.slice ci0a (x.xs.length) ci0c)] 33 := own_b2_2
  have ne_b3_2_b2_2 : b3_2 ≠ b2_2 := fun h => by have := hg.inj _ _ _ hb3 (h ▸ hb2); cases this
  replace D_cn0 := sa_more D_cn0 hk [b3_2, b2_2] (in_cons (hg.lo _ _ hb3) (in_cons (hg.lo _ _ hb2) in_nil))
  replace D_ci0 := sa_more D_ci0 hk [b3_2, b2_2] (in_cons (hg.lo _ _ hb3) (in_cons (hg.lo _ _ hb2) in_nil))
  replace D_cn1 := sa_more D_cn1 hk [b3_2, b2_2] (in_cons (hg.lo _ _ hb3) (in_cons (hg.lo _ _ hb2) in_nil))
  replace D_ci1 := sa_more D_ci1 hk [b3_2, b2_2] (in_cons (hg.lo _ _ hb3) (in_cons (hg.lo _ _ hb2) in_nil))
  replace kw := kw.trans (.of_ext hk)
  clear hrest hk hg hpsi hb3 hb2
  refine tail_nil (hK1 _ _ ?_)
  refine wp_seq_k fun K3 hK3 => ?_
  refine wp_seq_k fun K4 hK4 => ?_
  refine wp_reg All mixed hsz2 hdf2 st_tr trivial ?_
  refine Chain.op (φ := Is (.pointer (some ⟨b2_2, 0, none⟩))) (st_is _) (sp_fieldO (Has.base rfl e2) Try.underlying33 rfl sz5 rfl) ?_
  refine Chain.op (φ := Is (.int .u8 (x.k))) (st_is _) (sp_loadO (v := (.int .u8 (x.k))) (Has.loc rfl) own_b2_2 trivial agg5 sz5 (Nat.le_of_ble_eq_true rfl) (fun h => by first | rfl | cases h) rfl) ?_
  refine Chain.op (φ := Is (.pointer (some ⟨b3_2, 0, none⟩))) (st_is _) (sp_fieldO (Has.base rfl e3) Try.underlying33 rfl sz5 rfl) ?_
  refine Chain.op (φ := Is (.int .u8 (y.k))) (st_is _) (sp_loadO (v := (.int .u8 (y.k))) (Has.loc rfl) own_b3_2 trivial agg5 sz5 (Nat.le_of_ble_eq_true rfl) (fun h => by first | rfl | cases h) rfl) ?_
  refine Chain.op (φ := Is (.bool ((x.k : Int) != (y.k : Int)))) (st_is _) (sp_neq (Has.loc rfl) (Has.loc rfl)) ?_
  refine Chain.op (φ := Is (.bool ((x.k : Int) != (y.k : Int)))) (st_is _) (sp_move (Has.loc rfl)) ?_
  refine Chain.opE (t := 12) (x := (x.k : Int) != (y.k : Int)) (φ := Is (.pointer (some ⟨b2_2, 1, none⟩))) rfl (Has.loc rfl) (st_is _) (fun hg => sp_fieldO (Has.base rfl e2) Try.underlying33 rfl sz2 rfl) ?_
  refine Chain.opE (t := 12) (x := (x.k : Int) != (y.k : Int)) (φ := Is (.int .i64 (x.n))) rfl (Has.loc rfl) (st_is _) (fun hg => sp_loadO (v := (.int .i64 (x.n))) ((Has.loc rfl).undE hg) own_b2_2 trivial agg2 sz2 (Nat.le_of_ble_eq_true rfl) (fun h => by first | rfl | cases h) rfl) ?_
  refine Chain.opE (t := 12) (x := (x.k : Int) != (y.k : Int)) (φ := Is (.pointer (some ⟨b3_2, 1, none⟩))) rfl (Has.loc rfl) (st_is _) (fun hg => sp_fieldO (Has.base rfl e3) Try.underlying33 rfl sz2 rfl) ?_
  refine Chain.opE (t := 12) (x := (x.k : Int) != (y.k : Int)) (φ := Is (.int .i64 (y.n))) rfl (Has.loc rfl) (st_is _) (fun hg => sp_loadO (v := (.int .i64 (y.n))) ((Has.loc rfl).undE hg) own_b3_2 trivial agg2 sz2 (Nat.le_of_ble_eq_true rfl) (fun h => by first | rfl | cases h) rfl) ?_
  refine Chain.opE (t := 12) (x := (x.k : Int) != (y.k : Int)) (φ := Is (.bool ((x.n : Int) != (y.n : Int)))) rfl (Has.loc rfl) (st_is _) (fun hg => sp_neq ((Has.loc rfl).undE hg) ((Has.loc rfl).undE hg)) ?_
  refine Chain.op (φ := Is (.bool (((x.k : Int) != (y.k : Int)) || ((x.n : Int) != (y.n : Int))))) (st_is _) (sp_or (Has.loc rfl) ((Has.loc rfl).weak fun hq => hq)) ?_
  refine Chain.op (φ := Is (.bool (((x.k : Int) != (y.k : Int)) || ((x.n : Int) != (y.n : Int))))) (st_is _) (sp_move (Has.loc rfl)) ?_
  refine Chain.opE (t := 19) (x := ((x.k : Int) != (y.k : Int)) || ((x.n : Int) != (y.n : Int))) (φ := Is (.pointer (some ⟨b2_2, 2, none⟩))) rfl (Has.loc rfl) (st_is _) (fun hg => sp_fieldO (Has.base rfl e2) Try.underlying33 rfl sz9 rfl) ?_
  refine Chain.opE (t := 19) (x := ((x.k : Int) != (y.k : Int)) || ((x.n : Int) != (y.n : Int))) (φ := Is (.string (x.t))) rfl (Has.loc rfl) (st_is _) (fun hg => sp_loadO (v := (.string (x.t))) ((Has.loc rfl).undE hg) own_b2_2 trivial agg9 sz9 (Nat.le_of_ble_eq_true rfl) (fun h => by first | rfl | cases h) rfl) ?_
  refine Chain.opE (t := 19) (x := ((x.k : Int) != (y.k : Int)) || ((x.n : Int) != (y.n : Int))) (φ := Is (.pointer (some ⟨b3_2, 2, none⟩))) rfl (Has.loc rfl) (st_is _) (fun hg => sp_fieldO (Has.base rfl e3) Try.underlying33 rfl sz9 rfl) ?_
  refine Chain.opE (t := 19) (x := ((x.k : Int) != (y.k : Int)) || ((x.n : Int) != (y.n : Int))) (φ := Is (.string (y.t))) rfl (Has.loc rfl) (st_is _) (fun hg => sp_loadO (v := (.string (y.t))) ((Has.loc rfl).undE hg) own_b3_2 trivial agg9 sz9 (Nat.le_of_ble_eq_true rfl) (fun h => by first | rfl | cases h) rfl) ?_
  refine Chain.opE (t := 19) (x := ((x.k : Int) != (y.k : Int)) || ((x.n : Int) != (y.n : Int))) (φ := Is (.bool (!decide (x.t = y.t)))) rfl (Has.loc rfl) (st_is _) (fun hg => sp_sNeq ((Has.loc rfl).undE hg) ((Has.loc rfl).undE hg)) ?_
  refine Chain.op (φ := Is (.bool ((((x.k : Int) != (y.k : Int)) || ((x.n : Int) != (y.n : Int))) || (!decide (x.t = y.t))))) (st_is _) (sp_or (Has.loc rfl) ((Has.loc rfl).weak fun hq => hq)) ?_
  refine Chain.op (φ := Is (.bool ((((x.k : Int) != (y.k : Int)) || ((x.n : Int) != (y.n : Int))) || (!decide (x.t = y.t))))) (st_is _) (sp_move (Has.loc rfl)) ?_
  refine Chain.opE (t := 26) (x := (((x.k : Int) != (y.k : Int)) || ((x.n : Int) != (y.n : Int))) || (!decide (x.t = y.t))) (φ := Is (.pointer (some ⟨b2_2, 3, none⟩))) rfl (Has.loc rfl) (st_is _) (fun hg => sp_fieldO (Has.base rfl e2) Try.underlying33 rfl sz23 rfl) ?_
  refine Chain.opE (t := 26) (x := (((x.k : Int) != (y.k : Int)) || ((x.n : Int) != (y.n : Int))) || (!decide (x.t = y.t))) (φ := Is (.slice cn0a (x.ns.length) cn0c)) rfl (Has.loc rfl) (st_is _) (fun hg => sp_loadO (v := (.slice cn0a (x.ns.length) cn0c)) ((Has.loc rfl).undE hg) own_b2_2 trivial agg23 sz23 (Nat.le_of_ble_eq_true rfl) (fun h => by first | rfl | cases h) rfl) ?_
  refine Chain.opE (t := 26) (x := (((x.k : Int) != (y.k : Int)) || ((x.n : Int) != (y.n : Int))) || (!decide (x.t = y.t))) (φ := Is (.int .i64 (x.ns.length))) rfl (Has.loc rfl) (st_is _) (fun hg => sp_lenSs Try.underlying23 (((Has.loc rfl).undE hg).dat D_cn0 sub_all)) ?_
  refine Chain.opE (t := 26) (x := (((x.k : Int) != (y.k : Int)) || ((x.n : Int) != (y.n : Int))) || (!decide (x.t = y.t))) (φ := Is (.pointer (some ⟨b3_2, 3, none⟩))) rfl (Has.loc rfl) (st_is _) (fun hg => sp_fieldO (Has.base rfl e3) Try.underlying33 rfl sz23 rfl) ?_
  refine Chain.opE (t := 26) (x := (((x.k : Int) != (y.k : Int)) || ((x.n : Int) != (y.n : Int))) || (!decide (x.t = y.t))) (φ := Is (.slice cn1a (y.ns.length) cn1c)) rfl (Has.loc rfl) (st_is _) (fun hg => sp_loadO (v := (.slice cn1a (y.ns.length) cn1c)) ((Has.loc rfl).undE hg) own_b3_2 trivial agg23 sz23 (Nat.le_of_ble_eq_true rfl) (fun h => by first | rfl | cases h) rfl) ?_
  refine Chain.opE (t := 26) (x := (((x.k : Int) != (y.k : Int)) || ((x.n : Int) != (y.n : Int))) || (!decide (x.t = y.t))) (φ := Is (.int .i64 (y.ns.length))) rfl (Has.loc rfl) (st_is _) (fun hg => sp_lenSs Try.underlying23 (((Has.loc rfl).undE hg).dat D_cn1 sub_all)) ?_
  refine Chain.opE (t := 26) (x := (((x.k : Int) != (y.k : Int)) || ((x.n : Int) != (y.n : Int))) || (!decide (x.t = y.t))) (φ := Is (.bool ((x.ns.length : Int) != (y.ns.length : Int)))) rfl (Has.loc rfl) (st_is _) (fun hg => sp_neq ((Has.loc rfl).undE hg) ((Has.loc rfl).undE hg)) ?_
  refine Chain.op (φ := Is (.bool (((((x.k : Int) != (y.k : Int)) || ((x.n : Int) != (y.n : Int))) || (!decide (x.t = y.t))) || ((x.ns.length : Int) != (y.ns.length : Int))))) (st_is _) (sp_or (Has.loc rfl) ((Has.loc rfl).weak fun hq => hq)) ?_
  refine Chain.op (φ := Is (.bool (((((x.k : Int) != (y.k : Int)) || ((x.n : Int) != (y.n : Int))) || (!decide (x.t = y.t))) || ((x.ns.length : Int) != (y.ns.length : Int))))) (st_is _) (sp_move (Has.loc rfl)) ?_
  refine Chain.opE (t := 35) (x := ((((x.k : Int) != (y.k : Int)) || ((x.n : Int) != (y.n : Int))) || (!decide (x.t = y.t))) || ((x.ns.length : Int) != (y.ns.length : Int))) (φ := Is (.pointer (some ⟨b2_2, 4, none⟩))) rfl (Has.loc rfl) (st_is _) (fun hg => sp_fieldO (Has.base rfl e2) Try.underlying33 rfl sz31 rfl) ?_
  refine Chain.opE (t := 35) (x := ((((x.k : Int) != (y.k : Int)) || ((x.n : Int) != (y.n : Int))) || (!decide (x.t = y.t))) || ((x.ns.length : Int) != (y.ns.length : Int))) (φ := Is (.slice ci0a (x.xs.length) ci0c)) rfl (Has.loc rfl) (st_is _) (fun hg => sp_loadO (v := (.slice ci0a (x.xs.length) ci0c)) ((Has.loc rfl).undE hg) own_b2_2 trivial agg31 sz31 (Nat.le_of_ble_eq_true rfl) (fun h => by first | rfl | cases h) rfl) ?_
  refine Chain.opE (t := 35) (x := ((((x.k : Int) != (y.k : Int)) || ((x.n : Int) != (y.n : Int))) || (!decide (x.t = y.t))) || ((x.ns.length : Int) != (y.ns.length : Int))) (φ := Is (.int .i64 (x.xs.length))) rfl (Has.loc rfl) (st_is _) (fun hg => sp_lenVs Try.underlying31 (((Has.loc rfl).undE hg).dat D_ci0 sub_all)) ?_
  refine Chain.opE (t := 35) (x := ((((x.k : Int) != (y.k : Int)) || ((x.n : Int) != (y.n : Int))) || (!decide (x.t = y.t))) || ((x.ns.length : Int) != (y.ns.length : Int))) (φ := Is (.pointer (some ⟨b3_2, 4, none⟩))) rfl (Has.loc rfl) (st_is _) (fun hg => sp_fieldO (Has.base rfl e3) Try.underlying33 rfl sz31 rfl) ?_
  refine Chain.opE (t := 35) (x := ((((x.k : Int) != (y.k : Int)) || ((x.n : Int) != (y.n : Int))) || (!decide (x.t = y.t))) || ((x.ns.length : Int) != (y.ns.length : Int))) (φ := Is (.slice ci1a (y.xs.length) ci1c)) rfl (Has.loc rfl) (st_is _) (fun hg => sp_loadO (v := (.slice ci1a (y.xs.length) ci1c)) ((Has.loc rfl).undE hg) own_b3_2 trivial agg31 sz31 (Nat.le_of_ble_eq_true rfl) (fun h => by first | rfl | cases h) rfl) ?_
  refine Chain.opE (t := 35) (x := ((((x.k : Int) != (y.k : Int)) || ((x.n : Int) != (y.n : Int))) || (!decide (x.t = y.t))) || ((x.ns.length : Int) != (y.ns.length : Int))) (φ := Is (.int .i64 (y.xs.length))) rfl (Has.loc rfl) (st_is _) (fun hg => sp_lenVs Try.underlying31 (((Has.loc rfl).undE hg).dat D_ci1 sub_all)) ?_
  refine Chain.opE (t := 35) (x := ((((x.k : Int) != (y.k : Int)) || ((x.n : Int) != (y.n : Int))) || (!decide (x.t = y.t))) || ((x.ns.length : Int) != (y.ns.length : Int))) (φ := Is (.bool ((x.xs.length : Int) != (y.xs.length : Int)))) rfl (Has.loc rfl) (st_is _) (fun hg => sp_neq ((Has.loc rfl).undE hg) ((Has.loc rfl).undE hg)) ?_
  refine Chain.op (φ := Is (.bool ((((((x.k : Int) != (y.k : Int)) || ((x.n : Int) != (y.n : Int))) || (!decide (x.t = y.t))) || ((x.ns.length : Int) != (y.ns.length : Int))) || ((x.xs.length : Int) != (y.xs.length : Int))))) (st_is _) (sp_or (Has.loc rfl) ((Has.loc rfl).weak fun hq => hq)) ?_
  refine Chain.done ⟨by kernel_rfl, fun a5 g W5 hsz5 hdf5 hk hg henv hrest hpsi => ?_⟩
  obtain ⟨e43, -, -, -, -, -, -, -, -, -, -, -, -, -, -, -, -, -, -, -, -, -, -, -, -, -, -, -, -, -, -, -, -, -, -, -, -, -⟩ := henv
  replace e3 := (hrest 3 rfl).trans e3
  replace e2 := (hrest 2 rfl).trans e2
  replace D_cn0 := D_cn0.ext hk
  replace D_ci0 := D_ci0.ext hk
  replace D_cn1 := D_cn1.ext hk
  replace D_ci1 := D_ci1.ext hk
  have e43 : sl a5 43 = (.bool ((((((x.k : Int) != (y.k : Int)) || ((x.n : Int) != (y.n : Int))) || (!decide (x.t = y.t))) || ((x.ns.length : Int) != (y.ns.length : Int))) || ((x.xs.length : Int) != (y.xs.length : Int)))) := e43
  replace own_b3_2 := own_b3_2.ext hk
  replace own_b2_2 := own_b2_2.ext hk
  replace kw := kw.trans (.of_ext hk)
  clear hrest hk hg hpsi
  refine tail_nil (hK4 _ _ ?_)
  refine wp_cond_split e43 (fun hc => ?_) (fun hc => ?_)
  · -- T: (((((x.k : Int) != (y.k : Int)) || ((x.n : Int) != (y.n : Int))) || (!decide (x.
    have hfin : V.beq x y = false := beq_false fun h => by subst h; simp at hc
    refine wp_seq_k fun K6 hK6 => ?_
    refine wp_reg All mixed hsz5 hdf5 st_tr trivial ?_
    refine Chain.op (φ := Is (.bool (false))) (st_is _) (sp_assign Has.cst) ?_
    refine Chain.done ⟨by kernel_rfl, fun a7 g W7 hsz7 hdf7 hk hg henv hrest hpsi => ?_⟩
    obtain ⟨e4, -⟩ := henv
    replace D_cn0 := D_cn0.ext hk
    replace D_ci0 := D_ci0.ext hk
    replace D_cn1 := D_cn1.ext hk
    replace D_ci1 := D_ci1.ext hk
    have e4 : sl a7 4 = (.bool (false)) := e4
    replace own_b3_2 := own_b3_2.ext hk
    replace own_b2_2 := own_b2_2.ext hk
    replace kw := kw.trans (.of_ext hk)
    clear hrest hk hg hpsi
    refine tail_nil (hK6 _ _ ?_)
    refine wp_ret ?_
    refine (show bodyPost Try.prog Try.f30 _ .ret _ _ from ret1 rfl hdf7 e4 ⟨_, rfl, kw, ?_⟩)
    rw [hfin]
  · -- E: (((((x.k : Int) != (y.k : Int)) || ((x.n : Int) != (y.n : Int))) || (!decide (x.
    simp at hc
    obtain ⟨⟨⟨⟨q1, q2⟩, q3⟩, q4⟩, q5⟩ := hc
    refine wp_skip (hK3 _ _ ?_)
    refine wp_seq_k fun K8 hK8 => ?_
    refine wp_seq_k fun K9 hK9 => ?_
    refine wp_reg All mixed hsz5 hdf5 st_tr trivial ?_
    refine Chain.op (φ := Is (.int .i64 (0))) (st_is _) (sp_assign Has.cst) ?_
    refine Chain.done ⟨by kernel_rfl, fun a10 g W10 hsz10 hdf10 hk hg henv hrest hpsi => ?_⟩
    obtain ⟨e5, -⟩ := henv
    replace e3 := (hrest 3 rfl).trans e3
    replace e2 := (hrest 2 rfl).trans e2
    replace D_cn0 := D_cn0.ext hk
    replace D_ci0 := D_ci0.ext hk
    replace D_cn1 := D_cn1.ext hk
    replace D_ci1 := D_ci1.ext hk
    have e5 : sl a10 5 = (.int .i64 (0)) := e5
    replace own_b3_2 := own_b3_2.ext hk
    replace own_b2_2 := own_b2_2.ext hk
    replace kw := kw.trans (.of_ext hk)
    clear hrest hk hg hpsi
    refine tail_nil (hK9 _ _ ?_)
    refine wp_block ?_
    refine wp_for (x.ns.length) (fun k a W => a.tmps.size = 81 ∧ a.defers = [] ∧ Keeps All w W ∧ sl a 2 = (.pointer (some ⟨b2_2, 0, none⟩)) ∧ sl a 3 = (.pointer (some ⟨b3_2, 0, none⟩)) ∧ sl a 5 = (.int .i64 ((k : Nat))) ∧ Own W b3_2 [(.int .u8 (y.k)), (.int .i64 (y.n)), (.string (y.t)), (.slice cn1a (y.ns.length) cn1c), (.slice ci1a (y.xs.length) ci1c)] 33 ∧ Own W b2_2 [(.int .u8 (x.k)), (.int .i64 (x.n)), (.string (x.t)), (.slice cn0a (x.ns.length) cn0c), (.slice ci0a (x.xs.length) ci0c)] 33 ∧ Rd W (SA w S [b3_2, b2_2]) (strsD (x.ns)) (.slice cn0a (x.ns.length) cn0c) ∧ Rd W (SA w S [b3_2, b2_2]) (valsD (x.xs)) (.slice ci0a (x.xs.length) ci0c) ∧ Rd W (SA w S [b3_2, b2_2]) (strsD (y.ns)) (.slice cn1a (y.ns.length) cn1c) ∧ Rd W (SA w S [b3_2, b2_2]) (valsD (y.xs)) (.slice ci1a (y.xs.length) ci1c) ∧ (∀ i (h1 : i < x.ns.length) (h2 : i < y.ns.length), i < k → x.ns[i] = y.ns[i])) ⟨hsz10, hdf10, kw, e2, e3, (e5.trans (congrArg (Value.int .i64) (rfl))), own_b3_2, own_b2_2, D_cn0, D_ci0, D_cn1, D_ci1, fun i h1 h2 hi => absurd hi (by omega)⟩ ?_
    clear kw e2 e3 e5 own_b3_2 own_b2_2 D_cn0 D_ci0 D_cn1 D_ci1
    rintro k a11 W11 hkk ⟨hsz11, hdf11, kw, e2, e3, e5, own_b3_2, own_b2_2, D_cn0, D_ci0, D_cn1, D_ci1, hinv⟩
    refine wp_seq_k fun K12 hK12 => ?_
    refine wp_seq_k fun K13 hK13 => ?_
    refine wp_reg All mixed hsz11 hdf11 st_tr trivial ?_
    refine Chain.op (φ := Is (.int .i64 ((k : Nat)))) (st_is _) (sp_move (Has.base rfl e5)) ?_
    refine Chain.op (φ := Is (.pointer (some ⟨b2_2, 3, none⟩))) (st_is _) (sp_fieldO (Has.base rfl e2) Try.underlying33 rfl sz23 rfl) ?_
    refine Chain.op (φ := Is (.slice cn0a (x.ns.length) cn0c)) (st_is _) (sp_loadO (v := (.slice cn0a (x.ns.length) cn0c)) (Has.loc rfl) own_b2_2 trivial agg23 sz23 (Nat.le_of_ble_eq_true rfl) (fun h => by first | rfl | cases h) rfl) ?_
    refine Chain.op (φ := Is (.int .i64 (x.ns.length))) (st_is _) (sp_lenSs Try.underlying23 ((Has.loc rfl).dat D_cn0 sub_all)) ?_
    refine Chain.op (φ := Is (.bool (decide (((k : Nat) : Int) < (x.ns.length : Int))))) (st_is _) (sp_lss (Has.loc rfl) (Has.loc rfl)) ?_
    refine Chain.done ⟨by kernel_rfl, fun a14 g W14 hsz14 hdf14 hk hg henv hrest hpsi => ?_⟩
    obtain ⟨e48, -, -, -, -, -⟩ := henv
    replace e3 := (hrest 3 rfl).trans e3
    replace e2 := (hrest 2 rfl).trans e2
    replace e5 := (hrest 5 rfl).trans e5
    replace D_cn0 := D_cn0.ext hk
    replace D_ci0 := D_ci0.ext hk
    replace D_cn1 := D_cn1.ext hk
    replace D_ci1 := D_ci1.ext hk
    have e48 : sl a14 48 = (.bool (decide (((k : Nat) : Int) < (x.ns.length : Int)))) := e48
    replace own_b3_2 := own_b3_2.ext hk
    replace own_b2_2 := own_b2_2.ext hk
    replace kw := kw.trans (.of_ext hk)
    clear hrest hk hg hpsi
    refine tail_nil (hK13 _ _ ?_)
    refine wp_cond_split e48 (fun hc => ?_) (fun hc => ?_)
    · -- T: decide (((k : Nat) : Int) < (x.ns.length : Int))
      have hlt : k < x.ns.length := by simpa using hc
      refine wp_skip (hK12 _ _ ?_)
      refine wp_seq_k fun K15 hK15 => ?_
      refine wp_block ?_
      refine wp_seq_k fun K16 hK16 => ?_
      refine wp_reg All mixed hsz14 hdf14 st_tr trivial ?_
      refine Chain.op (φ := Is (.pointer (some ⟨b2_2, 3, none⟩))) (st_is _) (sp_fieldO (Has.base rfl e2) Try.underlying33 rfl sz23 rfl) ?_
      refine Chain.op (φ := Is (.slice cn0a (x.ns.length) cn0c)) (st_is _) (sp_loadO (v := (.slice cn0a (x.ns.length) cn0c)) (Has.loc rfl) own_b2_2 trivial agg23 sz23 (Nat.le_of_ble_eq_true rfl) (fun h => by first | rfl | cases h) rfl) ?_
      refine Chain.op (φ := Is (.int .i64 ((k : Nat)))) (st_is _) (sp_move (Has.base rfl e5)) ?_
      refine Chain.op (φ := IsR (SA w S [b3_2, b2_2]) (D.str (x.ns[k]'hlt))) (st_r sub_all) (sp_indexS (i := k) ((Has.loc rfl).dat D_cn0 sub_all) (Has.loc rfl) Try.underlying23 sz9 rfl hlt) ?_
      refine Chain.op (φ := Is (.string (x.ns[k]'hlt))) (st_is _) (sp_loadStr (Has.loc rfl) agg9 sz9) ?_
      refine Chain.op (φ := Is (.pointer (some ⟨b3_2, 3, none⟩))) (st_is _) (sp_fieldO (Has.base rfl e3) Try.underlying33 rfl sz23 rfl) ?_
      refine Chain.op (φ := Is (.slice cn1a (y.ns.length) cn1c)) (st_is _) (sp_loadO (v := (.slice cn1a (y.ns.length) cn1c)) (Has.loc rfl) own_b3_2 trivial agg23 sz23 (Nat.le_of_ble_eq_true rfl) (fun h => by first | rfl | cases h) rfl) ?_
      refine Chain.op (φ := Is (.int .i64 ((k : Nat)))) (st_is _) (sp_move (Has.base rfl e5)) ?_
      refine Chain.op (φ := IsR (SA w S [b3_2, b2_2]) (D.str (y.ns[k]'(by omega)))) (st_r sub_all) (sp_indexS (i := k) ((Has.loc rfl).dat D_cn1 sub_all) (Has.loc rfl) Try.underlying23 sz9 rfl (by omega)) ?_
      refine Chain.op (φ := Is (.string (y.ns[k]'(by omega)))) (st_is _) (sp_loadStr (Has.loc rfl) agg9 sz9) ?_
      refine Chain.op (φ := Is (.bool (!decide ((x.ns[k]'hlt) = (y.ns[k]'(by omega)))))) (st_is _) (sp_sNeq (Has.loc rfl) (Has.loc rfl)) ?_
      refine Chain.done ⟨by kernel_rfl, fun a17 g W17 hsz17 hdf17 hk hg henv hrest hpsi => ?_⟩
      obtain ⟨e61, -, -, -, -, -, -, -, -, -, -, -⟩ := henv
      replace e3 := (hrest 3 rfl).trans e3
      replace e2 := (hrest 2 rfl).trans e2
      replace e5 := (hrest 5 rfl).trans e5
      replace D_cn0 := D_cn0.ext hk
      replace D_ci0 := D_ci0.ext hk
      replace D_cn1 := D_cn1.ext hk
      replace D_ci1 := D_ci1.ext hk
      have e61 : sl a17 61 = (.bool (!decide ((x.ns[k]'hlt) = (y.ns[k]'(by omega))))) := e61
      replace own_b3_2 := own_b3_2.ext hk
      replace own_b2_2 := own_b2_2.ext hk
      replace kw := kw.trans (.of_ext hk)
      clear hrest hk hg hpsi
      refine tail_nil (hK16 _ _ ?_)
      refine wp_cond_split e61 (fun hc => ?_) (fun hc => ?_)
      · -- T: !decide ((x.ns[k]'hlt) = (y.ns[k]'(by omega)))
        have hfin : V.beq x y = false := beq_false fun h => by subst h; simp at hc
        refine wp_seq_k fun K18 hK18 => ?_
        refine wp_reg All mixed hsz17 hdf17 st_tr trivial ?_
        refine Chain.op (φ := Is (.bool (false))) (st_is _) (sp_assign Has.cst) ?_
        refine Chain.done ⟨by kernel_rfl, fun a19 g W19 hsz19 hdf19 hk hg henv hrest hpsi => ?_⟩
        obtain ⟨e4, -⟩ := henv
        replace D_cn0 := D_cn0.ext hk
        replace D_ci0 := D_ci0.ext hk
        replace D_cn1 := D_cn1.ext hk
        replace D_ci1 := D_ci1.ext hk
        have e4 : sl a19 4 = (.bool (false)) := e4
        replace own_b3_2 := own_b3_2.ext hk
        replace own_b2_2 := own_b2_2.ext hk
        replace kw := kw.trans (.of_ext hk)
        clear hrest hk hg hpsi
        refine tail_nil (hK18 _ _ ?_)
        refine wp_ret ?_
        refine (show bodyPost Try.prog Try.f30 _ .ret _ _ from ret1 rfl hdf19 e4 ⟨_, rfl, kw, ?_⟩)
        rw [hfin]
      · -- E: !decide ((x.ns[k]'hlt) = (y.ns[k]'(by omega)))
        have hk1 : x.ns[k] = y.ns[k] := by simpa using hc
        refine wp_skip (hK15 _ _ ?_)
        refine wp_reg All mixed hsz17 hdf17 st_tr trivial ?_
        refine Chain.op (φ := Is (.int .i64 ((k : Nat)))) (st_is _) (sp_move (Has.base rfl e5)) ?_
        refine Chain.op (φ := Is (.int .i64 (((k : Nat) : Int) + (1 : Int)))) (st_is _) (sp_add (Has.loc rfl) Has.cst (i64_in (by omega))) ?_
        refine Chain.op (φ := Is (.int .i64 (((k : Nat) : Int) + (1 : Int)))) (st_is _) (sp_assign (Has.loc rfl)) ?_
        refine Chain.done ⟨by kernel_rfl, fun a20 g W20 hsz20 hdf20 hk hg henv hrest hpsi => ?_⟩
        obtain ⟨e5, -, -, -⟩ := henv
        replace e3 := (hrest 3 rfl).trans e3
        replace e2 := (hrest 2 rfl).trans e2
        replace D_cn0 := D_cn0.ext hk
        replace D_ci0 := D_ci0.ext hk
        replace D_cn1 := D_cn1.ext hk
        replace D_ci1 := D_ci1.ext hk
        have e5 : sl a20 5 = (.int .i64 (((k : Nat) : Int) + (1 : Int))) := e5
        replace own_b3_2 := own_b3_2.ext hk
        replace own_b2_2 := own_b2_2.ext hk
        replace kw := kw.trans (.of_ext hk)
        clear hrest hk hg hpsi
        exact tail_nil ⟨hlt, hsz20, hdf20, kw, e2, e3, (e5.trans (congrArg (Value.int .i64) (by simp))), own_b3_2, own_b2_2, D_cn0, D_ci0, D_cn1, D_ci1, fun i h1 h2 hi => by rcases Nat.lt_succ_iff_lt_or_eq.1 hi with h | h; exact hinv i h1 h2 h; subst h; exact hk1⟩
    · -- E: decide (((k : Nat) : Int) < (x.ns.length : Int))
      have hge0 : ¬ k < x.ns.length := by simpa using hc
      have hge : k = x.ns.length := by omega
      have hns : x.ns = y.ns := List.ext_getElem (by omega) fun i h1 h2 => hinv i h1 h2 (by omega)
      refine wp_exit (hK8 _ _ ?_)
      refine wp_seq_k fun K21 hK21 => ?_
      refine wp_seq_k fun K22 hK22 => ?_
      refine wp_reg All mixed hsz14 hdf14 st_tr trivial ?_
      refine Chain.op (φ := Is (.int .i64 (0))) (st_is _) (sp_assign Has.cst) ?_
      refine Chain.done ⟨by kernel_rfl, fun a23 g W23 hsz23 hdf23 hk hg henv hrest hpsi => ?_⟩
      obtain ⟨e6, -⟩ := henv
      replace e3 := (hrest 3 rfl).trans e3
      replace e2 := (hrest 2 rfl).trans e2
      replace D_cn0 := D_cn0.ext hk
      replace D_ci0 := D_ci0.ext hk
      replace D_cn1 := D_cn1.ext hk
      replace D_ci1 := D_ci1.ext hk
      have e6 : sl a23 6 = (.int .i64 (0)) := e6
      replace own_b3_2 := own_b3_2.ext hk
      replace own_b2_2 := own_b2_2.ext hk
      replace kw := kw.trans (.of_ext hk)
      clear hrest hk hg hpsi
      refine tail_nil (hK22 _ _ ?_)
      refine wp_block ?_
      refine wp_for (x.xs.length) (fun j a W => a.tmps.size = 81 ∧ a.defers = [] ∧ Keeps All w W ∧ sl a 2 = (.pointer (some ⟨b2_2, 0, none⟩)) ∧ sl a 3 = (.pointer (some ⟨b3_2, 0, none⟩)) ∧ sl a 6 = (.int .i64 ((j : Nat))) ∧ Own W b3_2 [(.int .u8 (y.k)), (.int .i64 (y.n)), (.string (y.t)), (.slice cn1a (y.ns.length) cn1c), (.slice ci1a (y.xs.length) ci1c)] 33 ∧ Own W b2_2 [(.int .u8 (x.k)), (.int .i64 (x.n)), (.string (x.t)), (.slice cn0a (x.ns.length) cn0c), (.slice ci0a (x.xs.length) ci0c)] 33 ∧ Rd W (SA w S [b3_2, b2_2]) (strsD (x.ns)) (.slice cn0a (x.ns.length) cn0c) ∧ Rd W (SA w S [b3_2, b2_2]) (valsD (x.xs)) (.slice ci0a (x.xs.length) ci0c) ∧ Rd W (SA w S [b3_2, b2_2]) (strsD (y.ns)) (.slice cn1a (y.ns.length) cn1c) ∧ Rd W (SA w S [b3_2, b2_2]) (valsD (y.xs)) (.slice ci1a (y.xs.length) ci1c) ∧ (∀ i (h1 : i < x.xs.length) (h2 : i < y.xs.length), i < j → x.xs[i] = y.xs[i])) ⟨hsz23, hdf23, kw, e2, e3, (e6.trans (congrArg (Value.int .i64) (rfl))), own_b3_2, own_b2_2, D_cn0, D_ci0, D_cn1, D_ci1, fun i h1 h2 hi => absurd hi (by omega)⟩ ?_
      clear kw e2 e3 e6 own_b3_2 own_b2_2 D_cn0 D_ci0 D_cn1 D_ci1
      rintro j a24 W24 hkj ⟨hsz24, hdf24, kw, e2, e3, e6, own_b3_2, own_b2_2, D_cn0, D_ci0, D_cn1, D_ci1, hinv2⟩
      refine wp_seq_k fun K25 hK25 => ?_
      refine wp_seq_k fun K26 hK26 => ?_
      refine wp_reg All mixed hsz24 hdf24 st_tr trivial ?_
      refine Chain.op (φ := Is (.int .i64 ((j : Nat)))) (st_is _) (sp_move (Has.base rfl e6)) ?_
      refine Chain.op (φ := Is (.pointer (some ⟨b2_2, 4, none⟩))) (st_is _) (sp_fieldO (Has.base rfl e2) Try.underlying33 rfl sz31 rfl) ?_
      refine Chain.op (φ := Is (.slice ci0a (x.xs.length) ci0c)) (st_is _) (sp_loadO (v := (.slice ci0a (x.xs.length) ci0c)) (Has.loc rfl) own_b2_2 trivial agg31 sz31 (Nat.le_of_ble_eq_true rfl) (fun h => by first | rfl | cases h) rfl) ?_
      refine Chain.op (φ := Is (.int .i64 (x.xs.length))) (st_is _) (sp_lenVs Try.underlying31 ((Has.loc rfl).dat D_ci0 sub_all)) ?_
      refine Chain.op (φ := Is (.bool (decide (((j : Nat) : Int) < (x.xs.length : Int))))) (st_is _) (sp_lss (Has.loc rfl) (Has.loc rfl)) ?_
      refine Chain.done ⟨by kernel_rfl, fun a27 g W27 hsz27 hdf27 hk hg henv hrest hpsi => ?_⟩
      obtain ⟨e66, -, -, -, -, -⟩ := henv
      replace e3 := (hrest 3 rfl).trans e3
      replace e2 := (hrest 2 rfl).trans e2
      replace e6 := (hrest 6 rfl).trans e6
      replace D_cn0 := D_cn0.ext hk
      replace D_ci0 := D_ci0.ext hk
      replace D_cn1 := D_cn1.ext hk
      replace D_ci1 := D_ci1.ext hk
      have e66 : sl a27 66 = (.bool (decide (((j : Nat) : Int) < (x.xs.length : Int)))) := e66
      replace own_b3_2 := own_b3_2.ext hk
      replace own_b2_2 := own_b2_2.ext hk
      replace kw := kw.trans (.of_ext hk)
      clear hrest hk hg hpsi
      refine tail_nil (hK26 _ _ ?_)
      refine wp_cond_split e66 (fun hc => ?_) (fun hc => ?_)
      · -- T: decide (((j : Nat) : Int) < (x.xs.length : Int))
        have hlt : j < x.xs.length := by simpa using hc
        have hltj := hlt
        have hce := cnt_elem hlt
        have hcq := cnt_eq x
        refine wp_skip (hK25 _ _ ?_)
        refine wp_seq_k fun K28 hK28 => ?_
        refine wp_block ?_
        refine wp_seq_k fun K29 hK29 => ?_
        refine wp_reg All mixed hsz27 hdf27 st_tr trivial ?_
        refine Chain.op (φ := Is (.pointer (some ⟨b2_2, 4, none⟩))) (st_is _) (sp_fieldO (Has.base rfl e2) Try.underlying33 rfl sz31 rfl) ?_
        refine Chain.op (φ := Is (.slice ci0a (x.xs.length) ci0c)) (st_is _) (sp_loadO (v := (.slice ci0a (x.xs.length) ci0c)) (Has.loc rfl) own_b2_2 trivial agg31 sz31 (Nat.le_of_ble_eq_true rfl) (fun h => by first | rfl | cases h) rfl) ?_
        refine Chain.op (φ := Is (.int .i64 ((j : Nat)))) (st_is _) (sp_move (Has.base rfl e6)) ?_
        refine Chain.op (φ := IsR (SA w S [b3_2, b2_2]) (V.d (x.xs[j]'hltj))) (st_r sub_all) (sp_indexV (i := j) ((Has.loc rfl).dat D_ci0 sub_all) (Has.loc rfl) Try.underlying31 sz33 rfl hltj) ?_
        refine Chain.op (φ := IsD (SA w S [b3_2, b2_2]) (V.d (x.xs[j]'hltj))) (st_d sub_all) (sp_loadV (Has.loc rfl) agg33 sz33) ?_
        refine Chain.op (φ := Is (.pointer (some ⟨b3_2, 4, none⟩))) (st_is _) (sp_fieldO (Has.base rfl e3) Try.underlying33 rfl sz31 rfl) ?_
        refine Chain.op (φ := Is (.slice ci1a (y.xs.length) ci1c)) (st_is _) (sp_loadO (v := (.slice ci1a (y.xs.length) ci1c)) (Has.loc rfl) own_b3_2 trivial agg31 sz31 (Nat.le_of_ble_eq_true rfl) (fun h => by first | rfl | cases h) rfl) ?_
        refine Chain.op (φ := Is (.int .i64 ((j : Nat)))) (st_is _) (sp_move (Has.base rfl e6)) ?_
        refine Chain.op (φ := IsR (SA w S [b3_2, b2_2]) (V.d (y.xs[j]'(by omega)))) (st_r sub_all) (sp_indexV (i := j) ((Has.loc rfl).dat D_ci1 sub_all) (Has.loc rfl) Try.underlying31 sz33 rfl (by omega)) ?_
        refine Chain.op (φ := IsD (SA w S [b3_2, b2_2]) (V.d (y.xs[j]'(by omega)))) (st_d sub_all) (sp_loadV (Has.loc rfl) agg33 sz33) ?_
        refine Chain.op (φ := Is (.bool (V.beq (x.xs[j]'hltj) (y.xs[j]'(by omega))))) (st_is _) (sp_call2 (φ1 := IsD (SA w S [b3_2, b2_2]) (V.d (x.xs[j]'hltj))) (φ2 := IsD (SA w S [b3_2, b2_2]) (V.d (y.xs[j]'(by omega)))) ent30 (Has.loc rfl) (Has.loc rfl) (fun g u1 u2 W hk hgk h1 h2 => ih (x.xs[j]'hltj) (y.xs[j]'(by omega)) (by omega) (by first | omega | exact Nat.le_of_ble_eq_true (by kernel_rfl)) W _ _ _ h1 h2)) ?_
        refine Chain.op (φ := Is (.bool (!(V.beq (x.xs[j]'hltj) (y.xs[j]'(by omega)))))) (st_is _) (sp_not (Has.loc rfl)) ?_
        refine Chain.done ⟨by kernel_rfl, fun a30 g W30 hsz30 hdf30 hk hg henv hrest hpsi => ?_⟩
        obtain ⟨e80, -, -, -, -, -, -, -, -, -, -, -, -⟩ := henv
        replace e3 := (hrest 3 rfl).trans e3
        replace e2 := (hrest 2 rfl).trans e2
        replace e6 := (hrest 6 rfl).trans e6
        replace D_cn0 := D_cn0.ext hk
        replace D_ci0 := D_ci0.ext hk
        replace D_cn1 := D_cn1.ext hk
        replace D_ci1 := D_ci1.ext hk
        have e80 : sl a30 80 = (.bool (!(V.beq (x.xs[j]'hltj) (y.xs[j]'(by omega))))) := e80
        replace own_b3_2 := own_b3_2.ext hk
        replace own_b2_2 := own_b2_2.ext hk
        replace kw := kw.trans (.of_ext hk)
        clear hrest hk hg hpsi
        refine tail_nil (hK29 _ _ ?_)
        refine wp_cond_split e80 (fun hc => ?_) (fun hc => ?_)
        · -- T: !(V.beq (x.xs[j]'hltj) (y.xs[j]'(by omega)))
          have hfin : V.beq x y = false := beq_false fun h => by subst h; simp [beq_refl] at hc
          refine wp_seq_k fun K31 hK31 => ?_
          refine wp_reg All mixed hsz30 hdf30 st_tr trivial ?_
          refine Chain.op (φ := Is (.bool (false))) (st_is _) (sp_assign Has.cst) ?_
          refine Chain.done ⟨by kernel_rfl, fun a32 g W32 hsz32 hdf32 hk hg henv hrest hpsi => ?_⟩
          obtain ⟨e4, -⟩ := henv
          replace D_cn0 := D_cn0.ext hk
          replace D_ci0 := D_ci0.ext hk
          replace D_cn1 := D_cn1.ext hk
          replace D_ci1 := D_ci1.ext hk
          have e4 : sl a32 4 = (.bool (false)) := e4
          replace own_b3_2 := own_b3_2.ext hk
          replace own_b2_2 := own_b2_2.ext hk
          replace kw := kw.trans (.of_ext hk)
          clear hrest hk hg hpsi
          refine tail_nil (hK31 _ _ ?_)
          refine wp_ret ?_
          refine (show bodyPost Try.prog Try.f30 _ .ret _ _ from ret1 rfl hdf32 e4 ⟨_, rfl, kw, ?_⟩)
          rw [hfin]
        · -- E: !(V.beq (x.xs[j]'hltj) (y.xs[j]'(by omega)))
          have hk1 : x.xs[j] = y.xs[j] := (beq_iff _ _).1 (by simpa using hc)
          refine wp_skip (hK28 _ _ ?_)
          refine wp_reg All mixed hsz30 hdf30 st_tr trivial ?_
          refine Chain.op (φ := Is (.int .i64 ((j : Nat)))) (st_is _) (sp_move (Has.base rfl e6)) ?_
          refine Chain.op (φ := Is (.int .i64 (((j : Nat) : Int) + (1 : Int)))) (st_is _) (sp_add (Has.loc rfl) Has.cst (i64_in (by omega))) ?_
          refine Chain.op (φ := Is (.int .i64 (((j : Nat) : Int) + (1 : Int)))) (st_is _) (sp_assign (Has.loc rfl)) ?_
          refine Chain.done ⟨by kernel_rfl, fun a33 g W33 hsz33 hdf33 hk hg henv hrest hpsi => ?_⟩
          obtain ⟨e6, -, -, -⟩ := henv
          replace e3 := (hrest 3 rfl).trans e3
          replace e2 := (hrest 2 rfl).trans e2
          replace D_cn0 := D_cn0.ext hk
          replace D_ci0 := D_ci0.ext hk
          replace D_cn1 := D_cn1.ext hk
          replace D_ci1 := D_ci1.ext hk
          have e6 : sl a33 6 = (.int .i64 (((j : Nat) : Int) + (1 : Int))) := e6
          replace own_b3_2 := own_b3_2.ext hk
          replace own_b2_2 := own_b2_2.ext hk
          replace kw := kw.trans (.of_ext hk)
          clear hrest hk hg hpsi
          exact tail_nil ⟨hlt, hsz33, hdf33, kw, e2, e3, (e6.trans (congrArg (Value.int .i64) (by simp))), own_b3_2, own_b2_2, D_cn0, D_ci0, D_cn1, D_ci1, fun i h1 h2 hi => by rcases Nat.lt_succ_iff_lt_or_eq.1 hi with h | h; exact hinv2 i h1 h2 h; subst h; exact hk1⟩
      · -- E: decide (((j : Nat) : Int) < (x.xs.length : Int))
        have hge0 : ¬ j < x.xs.length := by simpa using hc
        have hge : j = x.xs.length := by omega
        have hfin : V.beq x y = true := (beq_iff x y).2 (V.ext (by omega) q2 q3 hns (List.ext_getElem (by omega) fun i h1 h2 => hinv2 i h1 h2 (by omega)))
        refine wp_exit (hK21 _ _ ?_)
        refine wp_seq_k fun K34 hK34 => ?_
        refine wp_reg All mixed hsz27 hdf27 st_tr trivial ?_
        refine Chain.op (φ := Is (.bool (true))) (st_is _) (sp_assign Has.cst) ?_
        refine Chain.done ⟨by kernel_rfl, fun a35 g W35 hsz35 hdf35 hk hg henv hrest hpsi => ?_⟩
        obtain ⟨e4, -⟩ := henv
        replace D_cn0 := D_cn0.ext hk
        replace D_ci0 := D_ci0.ext hk
        replace D_cn1 := D_cn1.ext hk
        replace D_ci1 := D_ci1.ext hk
        have e4 : sl a35 4 = (.bool (true)) := e4
        replace own_b3_2 := own_b3_2.ext hk
        replace own_b2_2 := own_b2_2.ext hk
        replace kw := kw.trans (.of_ext hk)
        clear hrest hk hg hpsi
        refine tail_nil (hK34 _ _ ?_)
        refine wp_ret ?_
        refine (show bodyPost Try.prog Try.f30 _ .ret _ _ from ret1 rfl hdf35 e4 ⟨_, rfl, kw, ?_⟩)
        rw [hfin]

set_option maxRecDepth 100000 in
theorem hasPrefix_in (t p : ByteArray) (w : World) : Calls Try.prog 98 #[.string t, .string p] w (Ret w fun u _ => u = .bool (hasPre t p)) := by
  refine enter Try.func98 rfl Try.ntmps98 (Nat.le_of_ble_eq_true rfl) fun a0 hsz0 hdf0 harg => ?_
  have e0 : sl a0 0 = (.string (t)) := harg 0 (Nat.le_of_ble_eq_true rfl)
  have e1 : sl a0 1 = (.string (p)) := harg 1 (Nat.le_of_ble_eq_true rfl)
  have kw := Keeps.refl All w
  clear harg
  refine wp_seq_k fun K1 hK1 => ?_
  refine wp_reg All mixed hsz0 hdf0 st_tr trivial ?_
  refine Chain.op (φ := Is (.bool (false))) (st_is _) (sp_assign Has.cst) ?_
  refine Chain.done ⟨by kernel_rfl, fun a2 g W2 hsz2 hdf2 hk hg henv hrest hpsi => ?_⟩
  obtain ⟨-, -⟩ := henv
  replace e0 := (hrest 0 rfl).trans e0
  replace e1 := (hrest 1 rfl).trans e1
  replace kw := kw.trans (.of_ext hk)
  clear hrest hk hg hpsi
  refine tail_nil (hK1 _ _ ?_)
  refine wp_seq_k fun K3 hK3 => ?_
  refine wp_reg All mixed hsz2 hdf2 st_tr trivial ?_
  refine Chain.op (φ := Is (.string (t))) (st_is _) (sp_move (Has.base rfl e0)) ?_
  refine Chain.op (φ := Is (.int .i64 (t.size))) (st_is _) (sp_lenS Try.underlying9 (Has.loc rfl)) ?_
  refine Chain.op (φ := Is (.string (p))) (st_is _) (sp_move (Has.base rfl e1)) ?_
  refine Chain.op (φ := Is (.int .i64 (p.size))) (st_is _) (sp_lenS Try.underlying9 (Has.loc rfl)) ?_
  refine Chain.op (φ := Is (.bool (decide ((p.size : Int) ≤ (t.size : Int))))) (st_is _) (sp_geq (Has.loc rfl) (Has.loc rfl)) ?_
  refine Chain.op (φ := Is (.bool (decide ((p.size : Int) ≤ (t.size : Int))))) (st_is _) (sp_move (Has.loc rfl)) ?_
  refine Chain.opE (t := 10) (x := decide ((p.size : Int) ≤ (t.size : Int))) (φ := Is (.string (t))) rfl (Has.loc rfl) (st_is _) (fun hg => sp_move (Has.base rfl e0)) ?_
  refine Chain.opE (t := 10) (x := decide ((p.size : Int) ≤ (t.size : Int))) (φ := Is (.string (p))) rfl (Has.loc rfl) (st_is _) (fun hg => sp_move (Has.base rfl e1)) ?_
  refine Chain.opE (t := 10) (x := decide ((p.size : Int) ≤ (t.size : Int))) (φ := Is (.int .i64 (p.size))) rfl (Has.loc rfl) (st_is _) (fun hg => sp_lenS Try.underlying9 ((Has.loc rfl).undE hg)) ?_
  refine Chain.opE (t := 10) (x := decide ((p.size : Int) ≤ (t.size : Int))) (φ := Is (.string (t.extract 0 p.size))) rfl (Has.loc rfl) (st_is _) (fun hg => sp_sliceHi (i := p.size) Try.underlying9 ((Has.loc rfl).undE hg) ((Has.loc rfl).undE hg) rfl (by simp at hg; omega)) ?_
  refine Chain.opE (t := 10) (x := decide ((p.size : Int) ≤ (t.size : Int))) (φ := Is (.string (p))) rfl (Has.loc rfl) (st_is _) (fun hg => sp_move (Has.base rfl e1)) ?_
  refine Chain.opE (t := 10) (x := decide ((p.size : Int) ≤ (t.size : Int))) (φ := Is (.bool (decide ((t.extract 0 p.size) = p)))) rfl (Has.loc rfl) (st_is _) (fun hg => sp_sEql ((Has.loc rfl).undE hg) ((Has.loc rfl).undE hg)) ?_
  refine Chain.op (φ := Is (.bool ((decide ((p.size : Int) ≤ (t.size : Int))) && (decide ((t.extract 0 p.size) = p))))) (st_is _) (sp_and (Has.loc rfl) ((Has.loc rfl).weak fun hq => hq)) ?_
  refine Chain.op (φ := Is (.bool ((decide ((p.size : Int) ≤ (t.size : Int))) && (decide ((t.extract 0 p.size) = p))))) (st_is _) (sp_assign (Has.loc rfl)) ?_
  refine Chain.done ⟨by kernel_rfl, fun a4 g W4 hsz4 hdf4 hk hg henv hrest hpsi => ?_⟩
  obtain ⟨e4, -, -, -, -, -, -, -, -, -, -, -, -, -, -⟩ := henv
  have e4 : sl a4 4 = (.bool ((decide ((p.size : Int) ≤ (t.size : Int))) && (decide ((t.extract 0 p.size) = p)))) := e4
  replace kw := kw.trans (.of_ext hk)
  clear hrest hk hg hpsi
  refine tail_nil (hK3 _ _ ?_)
  refine wp_ret ?_
  refine (show bodyPost Try.prog Try.f98 _ .ret _ _ from ret1 rfl hdf4 e4 ⟨_, rfl, kw, ?_⟩)
  congr 1; simp [hasPre]

set_option maxRecDepth 100000 in
theorem hasPrefix_ok (t p : ByteArray) (w : World) : Calls Try.prog 97 #[.string t, .string p] w (Ret w fun u _ => u = .bool (hasPre t p)) := by
  refine enter Try.func97 rfl Try.ntmps97 (Nat.le_of_ble_eq_true rfl) fun a0 hsz0 hdf0 harg => ?_
  have e0 : sl a0 0 = (.string (t)) := harg 0 (Nat.le_of_ble_eq_true rfl)
  have e1 : sl a0 1 = (.string (p)) := harg 1 (Nat.le_of_ble_eq_true rfl)
  have kw := Keeps.refl All w
  clear harg
  refine wp_seq_k fun K1 hK1 => ?_
  refine wp_reg All mixed hsz0 hdf0 st_tr trivial ?_
  refine Chain.op (φ := Is (.bool (false))) (st_is _) (sp_assign Has.cst) ?_
  refine Chain.done ⟨by kernel_rfl, fun a2 g W2 hsz2 hdf2 hk hg henv hrest hpsi => ?_⟩
  obtain ⟨-, -⟩ := henv
  replace e0 := (hrest 0 rfl).trans e0
  replace e1 := (hrest 1 rfl).trans e1
  replace kw := kw.trans (.of_ext hk)
  clear hrest hk hg hpsi
  refine tail_nil (hK1 _ _ ?_)
  refine wp_seq_k fun K3 hK3 => ?_
  refine wp_reg All mixed hsz2 hdf2 st_tr trivial ?_
  refine Chain.op (φ := Is (.string (t))) (st_is _) (sp_move (Has.base rfl e0)) ?_
  refine Chain.op (φ := Is (.string (p))) (st_is _) (sp_move (Has.base rfl e1)) ?_
  refine Chain.op (φ := Is (.bool (hasPre t p))) (st_is _) (sp_call2 (φ1 := Is (.string (t))) (φ2 := Is (.string (p))) ent98 (Has.loc rfl) (Has.loc rfl) (fun g u1 u2 W hk hgk h1 h2 => by have h1 : u1 = _ := h1; subst u1; have h2 : u2 = _ := h2; subst u2; exact hasPrefix_in (t) (p) W)) ?_
  refine Chain.op (φ := Is (.bool (hasPre t p))) (st_is _) (sp_assign (Has.loc rfl)) ?_
  refine Chain.done ⟨by kernel_rfl, fun a4 g W4 hsz4 hdf4 hk hg henv hrest hpsi => ?_⟩
  obtain ⟨e4, -, -, -, -⟩ := henv
  have e4 : sl a4 4 = (.bool (hasPre t p)) := e4
  replace kw := kw.trans (.of_ext hk)
  clear hrest hk hg hpsi
  refine tail_nil (hK3 _ _ ?_)
  refine wp_ret ?_
  refine (show bodyPost Try.prog Try.f97 _ .ret _ _ from ret1 rfl hdf4 e4 ⟨_, rfl, kw, ?_⟩)
  exact rfl

set_option maxRecDepth 100000 in
theorem utfLen_ok (t : ByteArray) (ht : t.size ≤ 1073741824) (w : World) : Calls Try.prog 95 #[.string t] w (Ret w fun u _ => ∃ n : Int, u = .tuple #[.int .i64 n, .bool (utfOk t)]) := by
  refine enter Try.func95 rfl Try.ntmps95 (Nat.le_of_ble_eq_true rfl) fun a0 hsz0 hdf0 harg => ?_
  have e0 : sl a0 0 = (.string (t)) := harg 0 (Nat.le_of_ble_eq_true rfl)
  have kw := Keeps.refl All w
  clear harg
  refine wp_seq_k fun K1 hK1 => ?_
  refine wp_reg All mixed hsz0 hdf0 st_tr trivial ?_
  refine Chain.op (φ := Is (.int .i64 (0))) (st_is _) (sp_assign Has.cst) ?_
  refine Chain.op (φ := Is (.bool (false))) (st_is _) (sp_assign Has.cst) ?_
  refine Chain.done ⟨by kernel_rfl, fun a2 g W2 hsz2 hdf2 hk hg henv hrest hpsi => ?_⟩
  obtain ⟨-, -, -⟩ := henv
  replace e0 := (hrest 0 rfl).trans e0
  replace kw := kw.trans (.of_ext hk)
  clear hrest hk hg hpsi
  refine tail_nil (hK1 _ _ ?_)
  refine wp_seq_k fun K3 hK3 => ?_
  refine wp_reg All mixed hsz2 hdf2 st_tr trivial ?_
  refine Chain.op (φ := Is (.int .i64 (0))) (st_is _) (sp_assign Has.cst) ?_
  refine Chain.done ⟨by kernel_rfl, fun a4 g W4 hsz4 hdf4 hk hg henv hrest hpsi => ?_⟩
  obtain ⟨e4, -⟩ := henv
  replace e0 := (hrest 0 rfl).trans e0
  have e4 : sl a4 4 = (.int .i64 (0)) := e4
  replace kw := kw.trans (.of_ext hk)
  clear hrest hk hg hpsi
  refine tail_nil (hK3 _ _ ?_)
  refine wp_seq_k fun K5 hK5 => ?_
  refine wp_seq_k fun K6 hK6 => ?_
  refine wp_reg All mixed hsz4 hdf4 st_tr trivial ?_
  refine Chain.op (φ := Is (.string (t))) (st_is _) (sp_move (Has.base rfl e0)) ?_
  refine Chain.rangeS Try.underlying9 (Has.loc rfl) ?_
  refine Chain.done ⟨by kernel_rfl, fun a7 g W7 hsz7 hdf7 hk hg henv hrest hpsi => ?_⟩
  obtain ⟨⟨b8_7, e8, hb8, own_b8_7⟩, -, -⟩ := henv
  have lo_b8_7 : w.heap.size ≤ b8_7 := Nat.le_trans kw.size (hg.lo _ _ hb8)
  have own_b8_7 : OwnIt W7 b8_7 (t) (0) := own_b8_7
  replace e0 := (hrest 0 rfl).trans e0
  replace e4 := (hrest 4 rfl).trans e4
  replace kw := kw.trans (.of_ext hk)
  clear hrest hk hg hpsi hb8
  refine tail_nil (hK6 _ _ ?_)
  refine wp_block ?_
  refine wp_for (t.size) (fun k a W => ∃ (p : Nat), ∃ (f : Nat), a.tmps.size = 25 ∧ a.defers = [] ∧ Keeps All w W ∧ sl a 0 = (.string (t)) ∧ sl a 4 = (.int .i64 ((k : Nat))) ∧ sl a 8 = (.pointer (some ⟨b8_7, 0, none⟩)) ∧ OwnIt W b8_7 (t) (p) ∧ (k ≤ p) ∧ (utfOk t = utfFrom t f p) ∧ (t.size ≤ p + f)) ⟨0, t.size, hsz7, hdf7, kw, e0, (e4.trans (congrArg (Value.int .i64) (rfl))), e8, own_b8_7, Nat.le_refl _, rfl, by omega⟩ ?_
  clear kw e0 e4 e8 own_b8_7
  rintro k a8 W8 hkk ⟨p, f, hsz8, hdf8, kw, e0, e4, e8, own_b8_7, hkp, hfu, hfp⟩
  refine wp_seq_k fun K9 hK9 => ?_
  refine wp_next (b := b8_7) (p := p) (s := t) mixed hsz8 hdf8 e8 own_b8_7 (by decide) (by kernel_rfl) (fun a10 W10 hsz10 hdf10 hk hlt own_b8_7 e9 e10 hr => ?_) (fun a10 W10 hsz10 hdf10 hk hge own_b8_7 e9 e10 hr => ?_)
  · -- one more
    replace e0 := (hr 0 (by decide) (by decide)).trans e0
    replace e4 := (hr 4 (by decide) (by decide)).trans e4
    replace e8 := (hr 8 (by decide) (by decide)).trans e8
    replace kw := keeps_store kw hk lo_b8_7
    clear hr hk
    have hwp := width_pos t p hlt
    obtain ⟨f, rfl⟩ : ∃ f', f = f' + 1 := ⟨f - 1, by omega⟩
    rw [utfFrom, if_pos hlt] at hfu
    refine id (hK9 _ _ ?_)
    refine wp_seq_k fun K11 hK11 => ?_
    refine wp_cond_true e10 ?_
    refine wp_skip (hK11 _ _ ?_)
    refine wp_block ?_
    refine wp_seq_k fun K12 hK12 => ?_
    refine wp_reg All mixed hsz10 hdf10 st_tr trivial ?_
    refine Chain.op (φ := Is (.int .i64 ((p : Nat)))) (st_is _) (sp_extT (Has.base rfl e9) rfl) ?_
    refine Chain.op (φ := Is (.int .i32 (((Utf8.decode t p).1 : Nat)))) (st_is _) (sp_extT (Has.base rfl e9) rfl) ?_
    refine Chain.op (φ := Is (.int .i64 ((p : Nat)))) (st_is _) (sp_assign (Has.loc rfl)) ?_
    refine Chain.op (φ := Is (.int .i32 (((Utf8.decode t p).1 : Nat)))) (st_is _) (sp_assign (Has.loc rfl)) ?_
    refine Chain.done ⟨by kernel_rfl, fun a13 g W13 hsz13 hdf13 hk hg henv hrest hpsi => ?_⟩
    obtain ⟨e6, e5, -, -, -⟩ := henv
    replace e0 := (hrest 0 rfl).trans e0
    replace e4 := (hrest 4 rfl).trans e4
    replace e8 := (hrest 8 rfl).trans e8
    have e5 : sl a13 5 = (.int .i64 ((p : Nat))) := e5
    have e6 : sl a13 6 = (.int .i32 (((Utf8.decode t p).1 : Nat))) := e6
    replace own_b8_7 := own_b8_7.ext hk
    replace kw := kw.trans (.of_ext hk)
    clear hrest hk hg hpsi
    refine tail_nil (hK12 _ _ ?_)
    refine wp_seq_k fun K14 hK14 => ?_
    refine wp_seq_k fun K15 hK15 => ?_
    refine wp_reg All mixed hsz13 hdf13 st_tr trivial ?_
    refine Chain.op (φ := Is (.int .i32 (((Utf8.decode t p).1 : Nat)))) (st_is _) (sp_move (Has.base rfl e6)) ?_
    refine Chain.op (φ := Is (.bool ((((Utf8.decode t p).1 : Nat) : Int) == (65533 : Int)))) (st_is _) (sp_eql (Has.loc rfl) Has.cst) ?_
    refine Chain.op (φ := Is (.bool ((((Utf8.decode t p).1 : Nat) : Int) == (65533 : Int)))) (st_is _) (sp_move (Has.loc rfl)) ?_
    refine Chain.opE (t := 15) (x := (((Utf8.decode t p).1 : Nat) : Int) == (65533 : Int)) (φ := Is (.string (t))) rfl (Has.loc rfl) (st_is _) (fun hg => sp_move (Has.base rfl e0)) ?_
    refine Chain.opE (t := 15) (x := (((Utf8.decode t p).1 : Nat) : Int) == (65533 : Int)) (φ := Is (.int .i64 ((p : Nat)))) rfl (Has.loc rfl) (st_is _) (fun hg => sp_move (Has.base rfl e5)) ?_
    refine Chain.opE (t := 15) (x := (((Utf8.decode t p).1 : Nat) : Int) == (65533 : Int)) (φ := Is (.string (t.extract p t.size))) rfl (Has.loc rfl) (st_is _) (fun hg => sp_sliceLo (i := p) Try.underlying9 ((Has.loc rfl).undE hg) ((Has.loc rfl).undE hg) rfl (by omega)) ?_
    refine Chain.opE (t := 15) (x := (((Utf8.decode t p).1 : Nat) : Int) == (65533 : Int)) (φ := Is (.bool (hasPre (t.extract p t.size) ⟨#[239, 191, 189]⟩))) rfl (Has.loc rfl) (st_is _) (fun hg => sp_call2 (φ1 := Is (.string (t.extract p t.size))) (φ2 := Is (.string (⟨#[239, 191, 189]⟩))) ent97 ((Has.loc rfl).undE hg) Has.cst (fun g u1 u2 W hk hgk h1 h2 => by have h1 : u1 = _ := h1; subst u1; have h2 : u2 = _ := h2; subst u2; exact hasPrefix_ok (t.extract p t.size) (⟨#[239, 191, 189]⟩) W)) ?_
    refine Chain.opE (t := 15) (x := (((Utf8.decode t p).1 : Nat) : Int) == (65533 : Int)) (φ := Is (.bool (!(hasPre (t.extract p t.size) ⟨#[239, 191, 189]⟩)))) rfl (Has.loc rfl) (st_is _) (fun hg => sp_not ((Has.loc rfl).undE hg)) ?_
    refine Chain.op (φ := Is (.bool (((((Utf8.decode t p).1 : Nat) : Int) == (65533 : Int)) && (!(hasPre (t.extract p t.size) ⟨#[239, 191, 189]⟩))))) (st_is _) (sp_and (Has.loc rfl) ((Has.loc rfl).weak fun hq => hq)) ?_
    refine Chain.done ⟨by kernel_rfl, fun a16 g W16 hsz16 hdf16 hk hg henv hrest hpsi => ?_⟩
    obtain ⟨e21, -, -, -, -, -, -, -, -, -⟩ := henv
    replace e0 := (hrest 0 rfl).trans e0
    replace e4 := (hrest 4 rfl).trans e4
    replace e8 := (hrest 8 rfl).trans e8
    have e21 : sl a16 21 = (.bool (((((Utf8.decode t p).1 : Nat) : Int) == (65533 : Int)) && (!(hasPre (t.extract p t.size) ⟨#[239, 191, 189]⟩)))) := e21
    replace own_b8_7 := own_b8_7.ext hk
    replace kw := kw.trans (.of_ext hk)
    clear hrest hk hg hpsi
    refine tail_nil (hK15 _ _ ?_)
    refine wp_cond_split e21 (fun hc => ?_) (fun hc => ?_)
    · -- T: ((((Utf8.decode t p).1 : Nat) : Int) == (65533 : Int)) && (!(hasPre (t.extract p
      simp at hc
      have hfin : utfOk t = false := by rw [hfu, if_pos ⟨by omega, hc.2⟩]
      refine wp_seq_k fun K17 hK17 => ?_
      refine wp_reg All mixed hsz16 hdf16 st_tr trivial ?_
      refine Chain.op (φ := Is (.int .i64 (0))) (st_is _) (sp_assign Has.cst) ?_
      refine Chain.op (φ := Is (.bool (false))) (st_is _) (sp_assign Has.cst) ?_
      refine Chain.done ⟨by kernel_rfl, fun a18 g W18 hsz18 hdf18 hk hg henv hrest hpsi => ?_⟩
      obtain ⟨e3, e2, -⟩ := henv
      have e2 : sl a18 2 = (.int .i64 (0)) := e2
      have e3 : sl a18 3 = (.bool (false)) := e3
      replace own_b8_7 := own_b8_7.ext hk
      replace kw := kw.trans (.of_ext hk)
      clear hrest hk hg hpsi
      refine tail_nil (hK17 _ _ ?_)
      refine wp_ret ?_
      refine (show bodyPost Try.prog Try.f95 _ .ret _ _ from ret2 rfl hdf18 e2 e3 ⟨_, rfl, kw, ?_⟩)
      rw [hfin]
      exact ⟨_, rfl⟩
    · -- E: ((((Utf8.decode t p).1 : Nat) : Int) == (65533 : Int)) && (!(hasPre (t.extract p
      simp at hc
      rw [if_neg (fun h => by have h2 := hc (by omega); have h3 := h.2; unfold badRune at h3; rw [h2] at h3; cases h3)] at hfu
      refine wp_skip (hK14 _ _ ?_)
      refine wp_reg All mixed hsz16 hdf16 st_tr trivial ?_
      refine Chain.op (φ := Is (.int .i64 ((k : Nat)))) (st_is _) (sp_move (Has.base rfl e4)) ?_
      refine Chain.op (φ := Is (.int .i64 (((k : Nat) : Int) + (1 : Int)))) (st_is _) (sp_add (Has.loc rfl) Has.cst (i64_in (by omega))) ?_
      refine Chain.op (φ := Is (.int .i64 (((k : Nat) : Int) + (1 : Int)))) (st_is _) (sp_assign (Has.loc rfl)) ?_
      refine Chain.done ⟨by kernel_rfl, fun a19 g W19 hsz19 hdf19 hk hg henv hrest hpsi => ?_⟩
      obtain ⟨e4, -, -, -⟩ := henv
      replace e0 := (hrest 0 rfl).trans e0
      replace e8 := (hrest 8 rfl).trans e8
      have e4 : sl a19 4 = (.int .i64 (((k : Nat) : Int) + (1 : Int))) := e4
      replace own_b8_7 := own_b8_7.ext hk
      replace kw := kw.trans (.of_ext hk)
      clear hrest hk hg hpsi
      exact tail_nil ⟨by omega, _, f, hsz19, hdf19, kw, e0, (e4.trans (congrArg (Value.int .i64) (by simp))), e8, own_b8_7, by omega, hfu, by omega⟩
  · -- the end
    replace e0 := (hr 0 (by decide) (by decide)).trans e0
    replace e4 := (hr 4 (by decide) (by decide)).trans e4
    replace e8 := (hr 8 (by decide) (by decide)).trans e8
    replace kw := keeps_store kw hk lo_b8_7
    clear hr hk
    have hfin : utfOk t = true := hfu.trans (utfFrom_end hge)
    refine id (hK9 _ _ ?_)
    refine wp_seq_k fun K20 hK20 => ?_
    refine wp_cond_false e10 ?_
    refine wp_exit (hK5 _ _ ?_)
    refine wp_seq_k fun K21 hK21 => ?_
    refine wp_reg All mixed hsz10 hdf10 st_tr trivial ?_
    refine Chain.op (φ := Is (.int .i64 ((k : Nat)))) (st_is _) (sp_move (Has.base rfl e4)) ?_
    refine Chain.op (φ := Is (.int .i64 ((k : Nat)))) (st_is _) (sp_assign (Has.loc rfl)) ?_
    refine Chain.op (φ := Is (.bool (true))) (st_is _) (sp_assign Has.cst) ?_
    refine Chain.done ⟨by kernel_rfl, fun a22 g W22 hsz22 hdf22 hk hg henv hrest hpsi => ?_⟩
    obtain ⟨e3, e2, -, -⟩ := henv
    have e2 : sl a22 2 = (.int .i64 ((k : Nat))) := e2
    have e3 : sl a22 3 = (.bool (true)) := e3
    replace own_b8_7 := own_b8_7.ext hk
    replace kw := kw.trans (.of_ext hk)
    clear hrest hk hg hpsi
    refine tail_nil (hK21 _ _ ?_)
    refine wp_ret ?_
    refine (show bodyPost Try.prog Try.f95 _ .ret _ _ from ret2 rfl hdf22 e2 e3 ⟨_, rfl, kw, ?_⟩)
    rw [hfin]
    exact ⟨_, rfl⟩

set_option maxRecDepth 100000 in
theorem valid_ok (t : ByteArray) (ht : t.size ≤ 1073741824) (w : World) : Calls Try.prog 87 #[.string t] w (Ret w fun u _ => u = .bool (utfOk t)) := by
  refine enter Try.func87 rfl Try.ntmps87 (Nat.le_of_ble_eq_true rfl) fun a0 hsz0 hdf0 harg => ?_
  have e0 : sl a0 0 = (.string (t)) := harg 0 (Nat.le_of_ble_eq_true rfl)
  have kw := Keeps.refl All w
  clear harg
  refine wp_seq_k fun K1 hK1 => ?_
  refine wp_reg All mixed hsz0 hdf0 st_tr trivial ?_
  refine Chain.op (φ := Is (.bool (false))) (st_is _) (sp_assign Has.cst) ?_
  refine Chain.done ⟨by kernel_rfl, fun a2 g W2 hsz2 hdf2 hk hg henv hrest hpsi => ?_⟩
  obtain ⟨-, -⟩ := henv
  replace e0 := (hrest 0 rfl).trans e0
  replace kw := kw.trans (.of_ext hk)
  clear hrest hk hg hpsi
  refine tail_nil (hK1 _ _ ?_)
  refine wp_seq_k fun K3 hK3 => ?_
  refine wp_reg All mixed hsz2 hdf2 st_tr trivial ?_
  refine Chain.op (φ := Is (.string (t))) (st_is _) (sp_move (Has.base rfl e0)) ?_
  refine Chain.op (φ := IsT (Any) (Is (.bool (utfOk t)))) (st_t st_any (st_is _)) (sp_call1 (φ1 := Is (.string (t))) ent95 (Has.loc rfl) (fun g u1 W hk hgk h1 => by have h1 : u1 = _ := h1; subst u1; exact (utfLen_ok (t) (by omega) W).mono (fun _ _ ⟨v, h1, h2, n, h3⟩ => ⟨v, h1, h2, _, _, h3, trivial, rfl⟩))) ?_
  refine Chain.op (φ := IsT (Any) (Is (.bool (utfOk t)))) (st_t st_any (st_is _)) (sp_move (Has.loc rfl)) ?_
  refine Chain.op (φ := Any) st_any (sp_ext2 (Has.loc rfl) rfl) ?_
  refine Chain.op (φ := Is (.bool (utfOk t))) (st_is _) (sp_ext2' (Has.loc rfl) rfl) ?_
  refine Chain.op (φ := Any) st_any (sp_assign (Has.loc rfl)) ?_
  refine Chain.op (φ := Is (.bool (utfOk t))) (st_is _) (sp_assign (Has.loc rfl)) ?_
  refine Chain.done ⟨by kernel_rfl, fun a4 g W4 hsz4 hdf4 hk hg henv hrest hpsi => ?_⟩
  obtain ⟨e4, -, -, -, -, -, -, -⟩ := henv
  have e4 : sl a4 4 = (.bool (utfOk t)) := e4
  replace kw := kw.trans (.of_ext hk)
  clear hrest hk hg hpsi
  refine tail_nil (hK3 _ _ ?_)
  refine wp_seq_k fun K5 hK5 => ?_
  refine wp_reg All mixed hsz4 hdf4 st_tr trivial ?_
  refine Chain.op (φ := Is (.bool (utfOk t))) (st_is _) (sp_move (Has.base rfl e4)) ?_
  refine Chain.op (φ := Is (.bool (utfOk t))) (st_is _) (sp_assign (Has.loc rfl)) ?_
  refine Chain.done ⟨by kernel_rfl, fun a6 g W6 hsz6 hdf6 hk hg henv hrest hpsi => ?_⟩
  obtain ⟨e2, -, -⟩ := henv
  have e2 : sl a6 2 = (.bool (utfOk t)) := e2
  replace kw := kw.trans (.of_ext hk)
  clear hrest hk hg hpsi
  refine tail_nil (hK5 _ _ ?_)
  refine wp_ret ?_
  refine (show bodyPost Try.prog Try.f87 _ .ret _ _ from ret1 rfl hdf6 e2 ⟨_, rfl, kw, ?_⟩)
  exact rfl

set_option maxRecDepth 100000 in
theorem written_ok (t : ByteArray) (w : World) : Calls Try.prog 72 #[.string t] w (Ret w fun u _ => u = .bool (wr t)) := by
  refine enter Try.func72 rfl Try.ntmps72 (Nat.le_of_ble_eq_true rfl) fun a0 hsz0 hdf0 harg => ?_
  have e0 : sl a0 0 = (.string (t)) := harg 0 (Nat.le_of_ble_eq_true rfl)
  have kw := Keeps.refl All w
  clear harg
  refine wp_seq_k fun K1 hK1 => ?_
  refine wp_reg All mixed hsz0 hdf0 st_tr trivial ?_
  refine Chain.op (φ := Is (.bool (false))) (st_is _) (sp_assign Has.cst) ?_
  refine Chain.done ⟨by kernel_rfl, fun a2 g W2 hsz2 hdf2 hk hg henv hrest hpsi => ?_⟩
  obtain ⟨-, -⟩ := henv
  replace e0 := (hrest 0 rfl).trans e0
  replace kw := kw.trans (.of_ext hk)
  clear hrest hk hg hpsi
  refine tail_nil (hK1 _ _ ?_)
  refine wp_seq_k fun K3 hK3 => ?_
  refine wp_reg All mixed hsz2 hdf2 st_tr trivial ?_
  refine Chain.op (φ := Is (.string (t))) (st_is _) (sp_move (Has.base rfl e0)) ?_
  refine Chain.op (φ := Is (.int .i64 (t.size))) (st_is _) (sp_lenS Try.underlying9 (Has.loc rfl)) ?_
  refine Chain.op (φ := Is (.bool (decide ((t.size : Int) ≤ (4096 : Int))))) (st_is _) (sp_leq (Has.loc rfl) Has.cst) ?_
  refine Chain.op (φ := Is (.bool (decide ((t.size : Int) ≤ (4096 : Int))))) (st_is _) (sp_move (Has.loc rfl)) ?_
  refine Chain.opE (t := 6) (x := decide ((t.size : Int) ≤ (4096 : Int))) (φ := Is (.string (t))) rfl (Has.loc rfl) (st_is _) (fun hg => sp_move (Has.base rfl e0)) ?_
  refine Chain.opE (t := 6) (x := decide ((t.size : Int) ≤ (4096 : Int))) (φ := Is (.bool (utfOk t))) rfl (Has.loc rfl) (st_is _) (fun hg => sp_call1 (φ1 := Is (.string (t))) ent87 ((Has.loc rfl).undE hg) (fun g u1 W hk hgk h1 => by have h1 : u1 = _ := h1; subst u1; exact valid_ok (t) (by first | omega | (simp at hg; omega)) W)) ?_
  refine Chain.op (φ := Is (.bool ((decide ((t.size : Int) ≤ (4096 : Int))) && (utfOk t)))) (st_is _) (sp_and (Has.loc rfl) ((Has.loc rfl).weak fun hq => hq)) ?_
  refine Chain.op (φ := Is (.bool ((decide ((t.size : Int) ≤ (4096 : Int))) && (utfOk t)))) (st_is _) (sp_assign (Has.loc rfl)) ?_
  refine Chain.done ⟨by kernel_rfl, fun a4 g W4 hsz4 hdf4 hk hg henv hrest hpsi => ?_⟩
  obtain ⟨e2, -, -, -, -, -, -, -, -⟩ := henv
  have e2 : sl a4 2 = (.bool ((decide ((t.size : Int) ≤ (4096 : Int))) && (utfOk t))) := e2
  replace kw := kw.trans (.of_ext hk)
  clear hrest hk hg hpsi
  refine tail_nil (hK3 _ _ ?_)
  refine wp_ret ?_
  refine (show bodyPost Try.prog Try.f72 _ .ret _ _ from ret1 rfl hdf4 e2 ⟨_, rfl, kw, ?_⟩)
  congr 1; unfold wr; congr 1; exact decide_eq_decide.2 (by omega)

set_option maxRecDepth 100000 in
theorem proper_ok (x : V) (w : World) (S : BSet) (v : Value) (hv : Rd w S x.d v) : Calls Try.prog 65 #[v] w (Ret w fun u _ => u = .bool (properB x)) := by
  have hp := properG_eq x
  have hmn : x.ns.length ≤ maxLen := by obtain ⟨_, _, _, _, _, _, h, _⟩ := rdV_out hv; exact rd_lenS h
  simp only [maxLen] at hmn
  obtain ⟨cn0a, cn0c, ci0a, ci0c, ev, ht0, D_cn0, D_ci0⟩ := rdV_out (rd_arg hv)
  subst ev
  refine enter Try.func65 rfl Try.ntmps65 (Nat.le_of_ble_eq_true rfl) fun a0 hsz0 hdf0 harg => ?_
  have e0 : sl a0 0 = (.agg #[(.int .u8 (x.k)), (.int .i64 (x.n)), (.string (x.t)), (.slice cn0a (x.ns.length) cn0c), (.slice ci0a (x.xs.length) ci0c)]) := harg 0 (Nat.le_of_ble_eq_true rfl)
  have kw := Keeps.refl All w
  clear harg
  refine wp_seq_k fun K1 hK1 => ?_
  refine wp_reg All mixed hsz0 hdf0 st_tr trivial ?_
  refine Chain.boxOp (v := (.agg #[(.int .u8 (x.k)), (.int .i64 (x.n)), (.string (x.t)), (.slice cn0a (x.ns.length) cn0c), (.slice ci0a (x.xs.length) ci0c)])) (Has.base rfl e0) ?_
  refine Chain.op (φ := Is (.bool (false))) (st_is _) (sp_assign Has.cst) ?_
  refine Chain.done ⟨by kernel_rfl, fun a2 g W2 hsz2 hdf2 hk hg henv hrest hpsi => ?_⟩
  obtain ⟨-, ⟨b1_2, e1, hb1, own_b1_2⟩, -⟩ := henv
  have lo_b1_2 : w.heap.size ≤ b1_2 := Nat.le_trans kw.size (hg.lo _ _ hb1)
  have own_b1_2 : Own W2 b1_2 [(.int .u8 (x.k)), (.int .i64 (x.n)), (.string (x.t)), (.slice cn0a (x.ns.length) cn0c), (.slice ci0a (x.xs.length) ci0c)] 33 := own_b1_2
  replace D_cn0 := sa_more D_cn0 hk [b1_2] (in_cons (hg.lo _ _ hb1) in_nil)
  replace D_ci0 := sa_more D_ci0 hk [b1_2] (in_cons (hg.lo _ _ hb1) in_nil)
  replace kw := kw.trans (.of_ext hk)
  clear hrest hk hg hpsi hb1
  refine tail_nil (hK1 _ _ ?_)
  refine wp_seq_k fun K3 hK3 => ?_
  refine wp_seq_k fun K4 hK4 => ?_
  refine wp_reg All mixed hsz2 hdf2 st_tr trivial ?_
  refine Chain.op (φ := Is (.pointer (some ⟨b1_2, 0, none⟩))) (st_is _) (sp_fieldO (Has.base rfl e1) Try.underlying33 rfl sz5 rfl) ?_
  refine Chain.op (φ := Is (.int .u8 (x.k))) (st_is _) (sp_loadO (v := (.int .u8 (x.k))) (Has.loc rfl) own_b1_2 trivial agg5 sz5 (Nat.le_of_ble_eq_true rfl) (fun h => by first | rfl | cases h) rfl) ?_
  refine Chain.op (φ := Is (.bool ((x.k : Int) != (1 : Int)))) (st_is _) (sp_neq (Has.loc rfl) Has.cst) ?_
  refine Chain.op (φ := Is (.bool ((x.k : Int) != (1 : Int)))) (st_is _) (sp_move (Has.loc rfl)) ?_
  refine Chain.opE (t := 8) (x := (x.k : Int) != (1 : Int)) (φ := Is (.pointer (some ⟨b1_2, 0, none⟩))) rfl (Has.loc rfl) (st_is _) (fun hg => sp_fieldO (Has.base rfl e1) Try.underlying33 rfl sz5 rfl) ?_
  refine Chain.opE (t := 8) (x := (x.k : Int) != (1 : Int)) (φ := Is (.int .u8 (x.k))) rfl (Has.loc rfl) (st_is _) (fun hg => sp_loadO (v := (.int .u8 (x.k))) ((Has.loc rfl).undE hg) own_b1_2 trivial agg5 sz5 (Nat.le_of_ble_eq_true rfl) (fun h => by first | rfl | cases h) rfl) ?_
  refine Chain.opE (t := 8) (x := (x.k : Int) != (1 : Int)) (φ := Is (.bool ((x.k : Int) != (2 : Int)))) rfl (Has.loc rfl) (st_is _) (fun hg => sp_neq ((Has.loc rfl).undE hg) Has.cst) ?_
  refine Chain.op (φ := Is (.bool (((x.k : Int) != (1 : Int)) && ((x.k : Int) != (2 : Int))))) (st_is _) (sp_and (Has.loc rfl) ((Has.loc rfl).weak fun hq => hq)) ?_
  refine Chain.op (φ := Is (.bool (((x.k : Int) != (1 : Int)) && ((x.k : Int) != (2 : Int))))) (st_is _) (sp_move (Has.loc rfl)) ?_
  refine Chain.opE (t := 13) (x := ((x.k : Int) != (1 : Int)) && ((x.k : Int) != (2 : Int))) (φ := Is (.pointer (some ⟨b1_2, 1, none⟩))) rfl (Has.loc rfl) (st_is _) (fun hg => sp_fieldO (Has.base rfl e1) Try.underlying33 rfl sz2 rfl) ?_
  refine Chain.opE (t := 13) (x := ((x.k : Int) != (1 : Int)) && ((x.k : Int) != (2 : Int))) (φ := Is (.int .i64 (x.n))) rfl (Has.loc rfl) (st_is _) (fun hg => sp_loadO (v := (.int .i64 (x.n))) ((Has.loc rfl).undE hg) own_b1_2 trivial agg2 sz2 (Nat.le_of_ble_eq_true rfl) (fun h => by first | rfl | cases h) rfl) ?_
  refine Chain.opE (t := 13) (x := ((x.k : Int) != (1 : Int)) && ((x.k : Int) != (2 : Int))) (φ := Is (.bool ((x.n : Int) != (0 : Int)))) rfl (Has.loc rfl) (st_is _) (fun hg => sp_neq ((Has.loc rfl).undE hg) Has.cst) ?_
  refine Chain.op (φ := Is (.bool ((((x.k : Int) != (1 : Int)) && ((x.k : Int) != (2 : Int))) && ((x.n : Int) != (0 : Int))))) (st_is _) (sp_and (Has.loc rfl) ((Has.loc rfl).weak fun hq => hq)) ?_
  refine Chain.op (φ := Is (.bool ((((x.k : Int) != (1 : Int)) && ((x.k : Int) != (2 : Int))) && ((x.n : Int) != (0 : Int))))) (st_is _) (sp_move (Has.loc rfl)) ?_
  refine Chain.opE (t := 18) (x := (((x.k : Int) != (1 : Int)) && ((x.k : Int) != (2 : Int))) && ((x.n : Int) != (0 : Int))) (φ := Is (.pointer (some ⟨b1_2, 0, none⟩))) rfl (Has.loc rfl) (st_is _) (fun hg => sp_fieldO (Has.base rfl e1) Try.underlying33 rfl sz5 rfl) ?_
  refine Chain.opE (t := 18) (x := (((x.k : Int) != (1 : Int)) && ((x.k : Int) != (2 : Int))) && ((x.n : Int) != (0 : Int))) (φ := Is (.int .u8 (x.k))) rfl (Has.loc rfl) (st_is _) (fun hg => sp_loadO (v := (.int .u8 (x.k))) ((Has.loc rfl).undE hg) own_b1_2 trivial agg5 sz5 (Nat.le_of_ble_eq_true rfl) (fun h => by first | rfl | cases h) rfl) ?_
  refine Chain.opE (t := 18) (x := (((x.k : Int) != (1 : Int)) && ((x.k : Int) != (2 : Int))) && ((x.n : Int) != (0 : Int))) (φ := Is (.bool ((x.k : Int) != (3 : Int)))) rfl (Has.loc rfl) (st_is _) (fun hg => sp_neq ((Has.loc rfl).undE hg) Has.cst) ?_
  refine Chain.opE (t := 18) (x := (((x.k : Int) != (1 : Int)) && ((x.k : Int) != (2 : Int))) && ((x.n : Int) != (0 : Int))) (φ := Is (.bool ((x.k : Int) != (3 : Int)))) rfl (Has.loc rfl) (st_is _) (fun hg => sp_move ((Has.loc rfl).undE hg)) ?_
  refine Chain.opEE (t := 22) (x := (x.k : Int) != (3 : Int)) (p := ((((x.k : Int) != (1 : Int)) && ((x.k : Int) != (2 : Int))) && ((x.n : Int) != (0 : Int))) = false) (φ := Is (.pointer (some ⟨b1_2, 2, none⟩))) rfl (Has.loc rfl) (st_is _) (fun hg => sp_fieldO (Has.base rfl e1) Try.underlying33 rfl sz9 rfl) ?_
  refine Chain.opEE (t := 22) (x := (x.k : Int) != (3 : Int)) (p := ((((x.k : Int) != (1 : Int)) && ((x.k : Int) != (2 : Int))) && ((x.n : Int) != (0 : Int))) = false) (φ := Is (.string (x.t))) rfl (Has.loc rfl) (st_is _) (fun hg => sp_loadO (v := (.string (x.t))) ((Has.loc rfl).undE hg) own_b1_2 trivial agg9 sz9 (Nat.le_of_ble_eq_true rfl) (fun h => by first | rfl | cases h) rfl) ?_
  refine Chain.opEE (t := 22) (x := (x.k : Int) != (3 : Int)) (p := ((((x.k : Int) != (1 : Int)) && ((x.k : Int) != (2 : Int))) && ((x.n : Int) != (0 : Int))) = false) (φ := Is (.bool (!decide (x.t = (⟨#[]⟩ : ByteArray))))) rfl (Has.loc rfl) (st_is _) (fun hg => sp_sNeq ((Has.loc rfl).undE hg) Has.cst) ?_
  refine Chain.opE (t := 18) (x := (((x.k : Int) != (1 : Int)) && ((x.k : Int) != (2 : Int))) && ((x.n : Int) != (0 : Int))) (φ := Is (.bool (((x.k : Int) != (3 : Int)) && (!decide (x.t = (⟨#[]⟩ : ByteArray)))))) rfl (Has.loc rfl) (st_is _) (fun hg => sp_and ((Has.loc rfl).undE hg) ((Has.loc rfl).weak fun hq => ⟨hg, hq⟩)) ?_
  refine Chain.op (φ := Is (.bool (((((x.k : Int) != (1 : Int)) && ((x.k : Int) != (2 : Int))) && ((x.n : Int) != (0 : Int))) || (((x.k : Int) != (3 : Int)) && (!decide (x.t = (⟨#[]⟩ : ByteArray))))))) (st_is _) (sp_or (Has.loc rfl) ((Has.loc rfl).weak fun hq => hq)) ?_
  refine Chain.done ⟨by kernel_rfl, fun a5 g W5 hsz5 hdf5 hk hg henv hrest hpsi => ?_⟩
  obtain ⟨e27, -, -, -, -, -, -, -, -, -, -, -, -, -, -, -, -, -, -, -, -, -, -, -⟩ := henv
  replace e1 := (hrest 1 rfl).trans e1
  replace D_cn0 := D_cn0.ext hk
  replace D_ci0 := D_ci0.ext hk
  have e27 : sl a5 27 = (.bool (((((x.k : Int) != (1 : Int)) && ((x.k : Int) != (2 : Int))) && ((x.n : Int) != (0 : Int))) || (((x.k : Int) != (3 : Int)) && (!decide (x.t = (⟨#[]⟩ : ByteArray)))))) := e27
  replace own_b1_2 := own_b1_2.ext hk
  replace kw := kw.trans (.of_ext hk)
  clear hrest hk hg hpsi
  refine tail_nil (hK4 _ _ ?_)
  refine wp_cond_split e27 (fun hc => ?_) (fun hc => ?_)
  · -- T: ((((x.k : Int) != (1 : Int)) && ((x.k : Int) != (2 : Int))) && ((x.n : Int) != (
    rw [hc, cond_true] at hp
    refine wp_seq_k fun K6 hK6 => ?_
    refine wp_reg All mixed hsz5 hdf5 st_tr trivial ?_
    refine Chain.op (φ := Is (.bool (false))) (st_is _) (sp_assign Has.cst) ?_
    refine Chain.done ⟨by kernel_rfl, fun a7 g W7 hsz7 hdf7 hk hg henv hrest hpsi => ?_⟩
    obtain ⟨e2, -⟩ := henv
    replace D_cn0 := D_cn0.ext hk
    replace D_ci0 := D_ci0.ext hk
    have e2 : sl a7 2 = (.bool (false)) := e2
    replace own_b1_2 := own_b1_2.ext hk
    replace kw := kw.trans (.of_ext hk)
    clear hrest hk hg hpsi
    refine tail_nil (hK6 _ _ ?_)
    refine wp_ret ?_
    refine (show bodyPost Try.prog Try.f65 _ .ret _ _ from ret1 rfl hdf7 e2 ⟨_, rfl, kw, ?_⟩)
    rw [hp]
  · -- E: ((((x.k : Int) != (1 : Int)) && ((x.k : Int) != (2 : Int))) && ((x.n : Int) != (
    rw [hc, cond_false] at hp
    refine wp_skip (hK3 _ _ ?_)
    refine wp_seq_k fun K8 hK8 => ?_
    refine wp_seq_k fun K9 hK9 => ?_
    refine wp_reg All mixed hsz5 hdf5 st_tr trivial ?_
    refine Chain.op (φ := Is (.pointer (some ⟨b1_2, 0, none⟩))) (st_is _) (sp_fieldO (Has.base rfl e1) Try.underlying33 rfl sz5 rfl) ?_
    refine Chain.op (φ := Is (.int .u8 (x.k))) (st_is _) (sp_loadO (v := (.int .u8 (x.k))) (Has.loc rfl) own_b1_2 trivial agg5 sz5 (Nat.le_of_ble_eq_true rfl) (fun h => by first | rfl | cases h) rfl) ?_
    refine Chain.op (φ := Is (.bool ((x.k : Int) != (5 : Int)))) (st_is _) (sp_neq (Has.loc rfl) Has.cst) ?_
    refine Chain.op (φ := Is (.bool ((x.k : Int) != (5 : Int)))) (st_is _) (sp_move (Has.loc rfl)) ?_
    refine Chain.opE (t := 31) (x := (x.k : Int) != (5 : Int)) (φ := Is (.pointer (some ⟨b1_2, 3, none⟩))) rfl (Has.loc rfl) (st_is _) (fun hg => sp_fieldO (Has.base rfl e1) Try.underlying33 rfl sz23 rfl) ?_
    refine Chain.opE (t := 31) (x := (x.k : Int) != (5 : Int)) (φ := Is (.slice cn0a (x.ns.length) cn0c)) rfl (Has.loc rfl) (st_is _) (fun hg => sp_loadO (v := (.slice cn0a (x.ns.length) cn0c)) ((Has.loc rfl).undE hg) own_b1_2 trivial agg23 sz23 (Nat.le_of_ble_eq_true rfl) (fun h => by first | rfl | cases h) rfl) ?_
    refine Chain.opE (t := 31) (x := (x.k : Int) != (5 : Int)) (φ := Is (.int .i64 (x.ns.length))) rfl (Has.loc rfl) (st_is _) (fun hg => sp_lenSs Try.underlying23 (((Has.loc rfl).undE hg).dat D_cn0 sub_all)) ?_
    refine Chain.opE (t := 31) (x := (x.k : Int) != (5 : Int)) (φ := Is (.bool (decide ((0 : Int) < (x.ns.length : Int))))) rfl (Has.loc rfl) (st_is _) (fun hg => sp_gtr ((Has.loc rfl).undE hg) Has.cst) ?_
    refine Chain.op (φ := Is (.bool (((x.k : Int) != (5 : Int)) && (decide ((0 : Int) < (x.ns.length : Int)))))) (st_is _) (sp_and (Has.loc rfl) ((Has.loc rfl).weak fun hq => hq)) ?_
    refine Chain.op (φ := Is (.bool (((x.k : Int) != (5 : Int)) && (decide ((0 : Int) < (x.ns.length : Int)))))) (st_is _) (sp_move (Has.loc rfl)) ?_
    refine Chain.opE (t := 37) (x := ((x.k : Int) != (5 : Int)) && (decide ((0 : Int) < (x.ns.length : Int)))) (φ := Is (.pointer (some ⟨b1_2, 0, none⟩))) rfl (Has.loc rfl) (st_is _) (fun hg => sp_fieldO (Has.base rfl e1) Try.underlying33 rfl sz5 rfl) ?_
    refine Chain.opE (t := 37) (x := ((x.k : Int) != (5 : Int)) && (decide ((0 : Int) < (x.ns.length : Int)))) (φ := Is (.int .u8 (x.k))) rfl (Has.loc rfl) (st_is _) (fun hg => sp_loadO (v := (.int .u8 (x.k))) ((Has.loc rfl).undE hg) own_b1_2 trivial agg5 sz5 (Nat.le_of_ble_eq_true rfl) (fun h => by first | rfl | cases h) rfl) ?_
    refine Chain.opE (t := 37) (x := ((x.k : Int) != (5 : Int)) && (decide ((0 : Int) < (x.ns.length : Int)))) (φ := Is (.bool ((x.k : Int) != (5 : Int)))) rfl (Has.loc rfl) (st_is _) (fun hg => sp_neq ((Has.loc rfl).undE hg) Has.cst) ?_
    refine Chain.opE (t := 37) (x := ((x.k : Int) != (5 : Int)) && (decide ((0 : Int) < (x.ns.length : Int)))) (φ := Is (.bool ((x.k : Int) != (5 : Int)))) rfl (Has.loc rfl) (st_is _) (fun hg => sp_move ((Has.loc rfl).undE hg)) ?_
    refine Chain.opEE (t := 41) (x := (x.k : Int) != (5 : Int)) (p := (((x.k : Int) != (5 : Int)) && (decide ((0 : Int) < (x.ns.length : Int)))) = false) (φ := Is (.pointer (some ⟨b1_2, 0, none⟩))) rfl (Has.loc rfl) (st_is _) (fun hg => sp_fieldO (Has.base rfl e1) Try.underlying33 rfl sz5 rfl) ?_
    refine Chain.opEE (t := 41) (x := (x.k : Int) != (5 : Int)) (p := (((x.k : Int) != (5 : Int)) && (decide ((0 : Int) < (x.ns.length : Int)))) = false) (φ := Is (.int .u8 (x.k))) rfl (Has.loc rfl) (st_is _) (fun hg => sp_loadO (v := (.int .u8 (x.k))) ((Has.loc rfl).undE hg) own_b1_2 trivial agg5 sz5 (Nat.le_of_ble_eq_true rfl) (fun h => by first | rfl | cases h) rfl) ?_
    refine Chain.opEE (t := 41) (x := (x.k : Int) != (5 : Int)) (p := (((x.k : Int) != (5 : Int)) && (decide ((0 : Int) < (x.ns.length : Int)))) = false) (φ := Is (.bool ((x.k : Int) != (4 : Int)))) rfl (Has.loc rfl) (st_is _) (fun hg => sp_neq ((Has.loc rfl).undE hg) Has.cst) ?_
    refine Chain.opE (t := 37) (x := ((x.k : Int) != (5 : Int)) && (decide ((0 : Int) < (x.ns.length : Int)))) (φ := Is (.bool (((x.k : Int) != (5 : Int)) && ((x.k : Int) != (4 : Int))))) rfl (Has.loc rfl) (st_is _) (fun hg => sp_and ((Has.loc rfl).undE hg) ((Has.loc rfl).weak fun hq => ⟨hg, hq⟩)) ?_
    refine Chain.opE (t := 37) (x := ((x.k : Int) != (5 : Int)) && (decide ((0 : Int) < (x.ns.length : Int)))) (φ := Is (.bool (((x.k : Int) != (5 : Int)) && ((x.k : Int) != (4 : Int))))) rfl (Has.loc rfl) (st_is _) (fun hg => sp_move ((Has.loc rfl).undE hg)) ?_
    refine Chain.opEE (t := 46) (x := ((x.k : Int) != (5 : Int)) && ((x.k : Int) != (4 : Int))) (p := (((x.k : Int) != (5 : Int)) && (decide ((0 : Int) < (x.ns.length : Int)))) = false) (φ := Is (.pointer (some ⟨b1_2, 4, none⟩))) rfl (Has.loc rfl) (st_is _) (fun hg => sp_fieldO (Has.base rfl e1) Try.underlying33 rfl sz31 rfl) ?_
    refine Chain.opEE (t := 46) (x := ((x.k : Int) != (5 : Int)) && ((x.k : Int) != (4 : Int))) (p := (((x.k : Int) != (5 : Int)) && (decide ((0 : Int) < (x.ns.length : Int)))) = false) (φ := Is (.slice ci0a (x.xs.length) ci0c)) rfl (Has.loc rfl) (st_is _) (fun hg => sp_loadO (v := (.slice ci0a (x.xs.length) ci0c)) ((Has.loc rfl).undE hg) own_b1_2 trivial agg31 sz31 (Nat.le_of_ble_eq_true rfl) (fun h => by first | rfl | cases h) rfl) ?_
    refine Chain.opEE (t := 46) (x := ((x.k : Int) != (5 : Int)) && ((x.k : Int) != (4 : Int))) (p := (((x.k : Int) != (5 : Int)) && (decide ((0 : Int) < (x.ns.length : Int)))) = false) (φ := Is (.int .i64 (x.xs.length))) rfl (Has.loc rfl) (st_is _) (fun hg => sp_lenVs Try.underlying31 (((Has.loc rfl).undE hg).dat D_ci0 sub_all)) ?_
    refine Chain.opEE (t := 46) (x := ((x.k : Int) != (5 : Int)) && ((x.k : Int) != (4 : Int))) (p := (((x.k : Int) != (5 : Int)) && (decide ((0 : Int) < (x.ns.length : Int)))) = false) (φ := Is (.bool (decide ((0 : Int) < (x.xs.length : Int))))) rfl (Has.loc rfl) (st_is _) (fun hg => sp_gtr ((Has.loc rfl).undE hg) Has.cst) ?_
    refine Chain.opE (t := 37) (x := ((x.k : Int) != (5 : Int)) && (decide ((0 : Int) < (x.ns.length : Int)))) (φ := Is (.bool ((((x.k : Int) != (5 : Int)) && ((x.k : Int) != (4 : Int))) && (decide ((0 : Int) < (x.xs.length : Int)))))) rfl (Has.loc rfl) (st_is _) (fun hg => sp_and ((Has.loc rfl).undE hg) ((Has.loc rfl).weak fun hq => ⟨hg, hq⟩)) ?_
    refine Chain.op (φ := Is (.bool ((((x.k : Int) != (5 : Int)) && (decide ((0 : Int) < (x.ns.length : Int)))) || ((((x.k : Int) != (5 : Int)) && ((x.k : Int) != (4 : Int))) && (decide ((0 : Int) < (x.xs.length : Int))))))) (st_is _) (sp_or (Has.loc rfl) ((Has.loc rfl).weak fun hq => hq)) ?_
    refine Chain.done ⟨by kernel_rfl, fun a10 g W10 hsz10 hdf10 hk hg henv hrest hpsi => ?_⟩
    obtain ⟨e52, -, -, -, -, -, -, -, -, -, -, -, -, -, -, -, -, -, -, -, -, -, -, -, -, -⟩ := henv
    replace e1 := (hrest 1 rfl).trans e1
    replace D_cn0 := D_cn0.ext hk
    replace D_ci0 := D_ci0.ext hk
    have e52 : sl a10 52 = (.bool ((((x.k : Int) != (5 : Int)) && (decide ((0 : Int) < (x.ns.length : Int)))) || ((((x.k : Int) != (5 : Int)) && ((x.k : Int) != (4 : Int))) && (decide ((0 : Int) < (x.xs.length : Int)))))) := e52
    replace own_b1_2 := own_b1_2.ext hk
    replace kw := kw.trans (.of_ext hk)
    clear hrest hk hg hpsi
    refine tail_nil (hK9 _ _ ?_)
    refine wp_cond_split e52 (fun hc => ?_) (fun hc => ?_)
    · -- T: (((x.k : Int) != (5 : Int)) && (decide ((0 : Int) < (x.ns.length : Int)))) || ((
      rw [hc, cond_true] at hp
      refine wp_seq_k fun K11 hK11 => ?_
      refine wp_reg All mixed hsz10 hdf10 st_tr trivial ?_
      refine Chain.op (φ := Is (.bool (false))) (st_is _) (sp_assign Has.cst) ?_
      refine Chain.done ⟨by kernel_rfl, fun a12 g W12 hsz12 hdf12 hk hg henv hrest hpsi => ?_⟩
      obtain ⟨e2, -⟩ := henv
      replace D_cn0 := D_cn0.ext hk
      replace D_ci0 := D_ci0.ext hk
      have e2 : sl a12 2 = (.bool (false)) := e2
      replace own_b1_2 := own_b1_2.ext hk
      replace kw := kw.trans (.of_ext hk)
      clear hrest hk hg hpsi
      refine tail_nil (hK11 _ _ ?_)
      refine wp_ret ?_
      refine (show bodyPost Try.prog Try.f65 _ .ret _ _ from ret1 rfl hdf12 e2 ⟨_, rfl, kw, ?_⟩)
      rw [hp]
    · -- E: (((x.k : Int) != (5 : Int)) && (decide ((0 : Int) < (x.ns.length : Int)))) || ((
      rw [hc, cond_false] at hp
      refine wp_skip (hK8 _ _ ?_)
      refine wp_seq_k fun K13 hK13 => ?_
      refine wp_seq_k fun K14 hK14 => ?_
      refine wp_reg All mixed hsz10 hdf10 st_tr trivial ?_
      refine Chain.op (φ := Is (.pointer (some ⟨b1_2, 0, none⟩))) (st_is _) (sp_fieldO (Has.base rfl e1) Try.underlying33 rfl sz5 rfl) ?_
      refine Chain.op (φ := Is (.int .u8 (x.k))) (st_is _) (sp_loadO (v := (.int .u8 (x.k))) (Has.loc rfl) own_b1_2 trivial agg5 sz5 (Nat.le_of_ble_eq_true rfl) (fun h => by first | rfl | cases h) rfl) ?_
      refine Chain.done ⟨by kernel_rfl, fun a15 g W15 hsz15 hdf15 hk hg henv hrest hpsi => ?_⟩
      obtain ⟨e54, -, -⟩ := henv
      replace e1 := (hrest 1 rfl).trans e1
      replace D_cn0 := D_cn0.ext hk
      replace D_ci0 := D_ci0.ext hk
      have e54 : sl a15 54 = (.int .u8 (x.k)) := e54
      replace own_b1_2 := own_b1_2.ext hk
      replace kw := kw.trans (.of_ext hk)
      clear hrest hk hg hpsi
      refine tail_nil (hK14 _ _ ?_)
      refine wp_block ?_
      refine wp_seq_k fun K16 hK16 => ?_
      refine wp_reg All mixed hsz15 hdf15 st_tr trivial ?_
      refine Chain.op (φ := Is (.bool ((x.k : Int) == (1 : Int)))) (st_is _) (sp_eql (Has.base rfl e54) Has.cst) ?_
      refine Chain.op (φ := Is (.bool ((x.k : Int) == (1 : Int)))) (st_is _) (sp_assign (Has.loc rfl)) ?_
      refine Chain.done ⟨by kernel_rfl, fun a17 g W17 hsz17 hdf17 hk hg henv hrest hpsi => ?_⟩
      obtain ⟨e55, -, -⟩ := henv
      replace e1 := (hrest 1 rfl).trans e1
      replace e54 := (hrest 54 rfl).trans e54
      replace D_cn0 := D_cn0.ext hk
      replace D_ci0 := D_ci0.ext hk
      have e55 : sl a17 55 = (.bool ((x.k : Int) == (1 : Int))) := e55
      replace own_b1_2 := own_b1_2.ext hk
      replace kw := kw.trans (.of_ext hk)
      clear hrest hk hg hpsi
      refine tail_nil (hK16 _ _ ?_)
      refine wp_cond_split e55 (fun hc => ?_) (fun hc => ?_)
      · -- T: (x.k : Int) == (1 : Int)
        rw [hc, cond_true] at hp
        refine wp_seq_k fun K18 hK18 => ?_
        refine wp_reg All mixed hsz17 hdf17 st_tr trivial ?_
        refine Chain.op (φ := Is (.pointer (some ⟨b1_2, 1, none⟩))) (st_is _) (sp_fieldO (Has.base rfl e1) Try.underlying33 rfl sz2 rfl) ?_
        refine Chain.op (φ := Is (.int .i64 (x.n))) (st_is _) (sp_loadO (v := (.int .i64 (x.n))) (Has.loc rfl) own_b1_2 trivial agg2 sz2 (Nat.le_of_ble_eq_true rfl) (fun h => by first | rfl | cases h) rfl) ?_
        refine Chain.op (φ := Is (.bool ((x.n : Int) == (0 : Int)))) (st_is _) (sp_eql (Has.loc rfl) Has.cst) ?_
        refine Chain.op (φ := Is (.bool ((x.n : Int) == (0 : Int)))) (st_is _) (sp_move (Has.loc rfl)) ?_
        refine Chain.opE (t := 60) (x := (x.n : Int) == (0 : Int)) (φ := Is (.pointer (some ⟨b1_2, 1, none⟩))) rfl (Has.loc rfl) (st_is _) (fun hg => sp_fieldO (Has.base rfl e1) Try.underlying33 rfl sz2 rfl) ?_
        refine Chain.opE (t := 60) (x := (x.n : Int) == (0 : Int)) (φ := Is (.int .i64 (x.n))) rfl (Has.loc rfl) (st_is _) (fun hg => sp_loadO (v := (.int .i64 (x.n))) ((Has.loc rfl).undE hg) own_b1_2 trivial agg2 sz2 (Nat.le_of_ble_eq_true rfl) (fun h => by first | rfl | cases h) rfl) ?_
        refine Chain.opE (t := 60) (x := (x.n : Int) == (0 : Int)) (φ := Is (.bool ((x.n : Int) == (1 : Int)))) rfl (Has.loc rfl) (st_is _) (fun hg => sp_eql ((Has.loc rfl).undE hg) Has.cst) ?_
        refine Chain.op (φ := Is (.bool (((x.n : Int) == (0 : Int)) || ((x.n : Int) == (1 : Int))))) (st_is _) (sp_or (Has.loc rfl) ((Has.loc rfl).weak fun hq => hq)) ?_
        refine Chain.op (φ := Is (.bool (((x.n : Int) == (0 : Int)) || ((x.n : Int) == (1 : Int))))) (st_is _) (sp_assign (Has.loc rfl)) ?_
        refine Chain.done ⟨by kernel_rfl, fun a19 g W19 hsz19 hdf19 hk hg henv hrest hpsi => ?_⟩
        obtain ⟨e2, -, -, -, -, -, -, -, -, -⟩ := henv
        replace D_cn0 := D_cn0.ext hk
        replace D_ci0 := D_ci0.ext hk
        have e2 : sl a19 2 = (.bool (((x.n : Int) == (0 : Int)) || ((x.n : Int) == (1 : Int)))) := e2
        replace own_b1_2 := own_b1_2.ext hk
        replace kw := kw.trans (.of_ext hk)
        clear hrest hk hg hpsi
        refine tail_nil (hK18 _ _ ?_)
        refine wp_ret ?_
        refine (show bodyPost Try.prog Try.f65 _ .ret _ _ from ret1 rfl hdf19 e2 ⟨_, rfl, kw, ?_⟩)
        rw [hp]
      · -- E: (x.k : Int) == (1 : Int)
        rw [hc, cond_false] at hp
        refine wp_seq_k fun K20 hK20 => ?_
        refine wp_seq_k fun K21 hK21 => ?_
        refine wp_reg All mixed hsz17 hdf17 st_tr trivial ?_
        refine Chain.op (φ := Is (.bool ((x.k : Int) == (2 : Int)))) (st_is _) (sp_eql (Has.base rfl e54) Has.cst) ?_
        refine Chain.op (φ := Is (.bool ((x.k : Int) == (2 : Int)))) (st_is _) (sp_assign (Has.loc rfl)) ?_
        refine Chain.done ⟨by kernel_rfl, fun a22 g W22 hsz22 hdf22 hk hg henv hrest hpsi => ?_⟩
        obtain ⟨e65, -, -⟩ := henv
        replace e1 := (hrest 1 rfl).trans e1
        replace e54 := (hrest 54 rfl).trans e54
        replace D_cn0 := D_cn0.ext hk
        replace D_ci0 := D_ci0.ext hk
        have e65 : sl a22 65 = (.bool ((x.k : Int) == (2 : Int))) := e65
        replace own_b1_2 := own_b1_2.ext hk
        replace kw := kw.trans (.of_ext hk)
        clear hrest hk hg hpsi
        refine tail_nil (hK21 _ _ ?_)
        refine wp_cond_split e65 (fun hc => ?_) (fun hc => ?_)
        · -- T: (x.k : Int) == (2 : Int)
          rw [hc, cond_true] at hp
          have hc3 := hc
          refine wp_skip (hK20 _ _ ?_)
          refine wp_cond_split e65 (fun hc => ?_) (fun hc => ?_)
          · -- T: (x.k : Int) == (2 : Int)
            refine wp_seq_k fun K23 hK23 => ?_
            refine wp_reg All mixed hsz22 hdf22 st_tr trivial ?_
            refine Chain.op (φ := Is (.bool (true))) (st_is _) (sp_assign Has.cst) ?_
            refine Chain.done ⟨by kernel_rfl, fun a24 g W24 hsz24 hdf24 hk hg henv hrest hpsi => ?_⟩
            obtain ⟨e2, -⟩ := henv
            replace D_cn0 := D_cn0.ext hk
            replace D_ci0 := D_ci0.ext hk
            have e2 : sl a24 2 = (.bool (true)) := e2
            replace own_b1_2 := own_b1_2.ext hk
            replace kw := kw.trans (.of_ext hk)
            clear hrest hk hg hpsi
            refine tail_nil (hK23 _ _ ?_)
            refine wp_ret ?_
            refine (show bodyPost Try.prog Try.f65 _ .ret _ _ from ret1 rfl hdf24 e2 ⟨_, rfl, kw, ?_⟩)
            rw [hp]
          · -- E: (x.k : Int) == (2 : Int)
            rw [hc3] at hc; cases hc
        · -- E: (x.k : Int) == (2 : Int)
          rw [hc, cond_false] at hp
          refine wp_reg All mixed hsz22 hdf22 st_tr trivial ?_
          refine Chain.op (φ := Is (.bool ((x.k : Int) == (4 : Int)))) (st_is _) (sp_eql (Has.base rfl e54) Has.cst) ?_
          refine Chain.op (φ := Is (.bool ((x.k : Int) == (4 : Int)))) (st_is _) (sp_assign (Has.loc rfl)) ?_
          refine Chain.done ⟨by kernel_rfl, fun a25 g W25 hsz25 hdf25 hk hg henv hrest hpsi => ?_⟩
          obtain ⟨e65, -, -⟩ := henv
          replace e1 := (hrest 1 rfl).trans e1
          replace e54 := (hrest 54 rfl).trans e54
          replace D_cn0 := D_cn0.ext hk
          replace D_ci0 := D_ci0.ext hk
          have e65 : sl a25 65 = (.bool ((x.k : Int) == (4 : Int))) := e65
          replace own_b1_2 := own_b1_2.ext hk
          replace kw := kw.trans (.of_ext hk)
          clear hrest hk hg hpsi
          refine tail_nil (hK20 _ _ ?_)
          refine wp_cond_split e65 (fun hc => ?_) (fun hc => ?_)
          · -- T: (x.k : Int) == (4 : Int)
            rw [hc, cond_true] at hp
            refine wp_seq_k fun K26 hK26 => ?_
            refine wp_reg All mixed hsz25 hdf25 st_tr trivial ?_
            refine Chain.op (φ := Is (.bool (true))) (st_is _) (sp_assign Has.cst) ?_
            refine Chain.done ⟨by kernel_rfl, fun a27 g W27 hsz27 hdf27 hk hg henv hrest hpsi => ?_⟩
            obtain ⟨e2, -⟩ := henv
            replace D_cn0 := D_cn0.ext hk
            replace D_ci0 := D_ci0.ext hk
            have e2 : sl a27 2 = (.bool (true)) := e2
            replace own_b1_2 := own_b1_2.ext hk
            replace kw := kw.trans (.of_ext hk)
            clear hrest hk hg hpsi
            refine tail_nil (hK26 _ _ ?_)
            refine wp_ret ?_
            refine (show bodyPost Try.prog Try.f65 _ .ret _ _ from ret1 rfl hdf27 e2 ⟨_, rfl, kw, ?_⟩)
            rw [hp]
          · -- E: (x.k : Int) == (4 : Int)
            rw [hc, cond_false] at hp
            refine wp_seq_k fun K28 hK28 => ?_
            refine wp_reg All mixed hsz25 hdf25 st_tr trivial ?_
            refine Chain.op (φ := Is (.bool ((x.k : Int) == (3 : Int)))) (st_is _) (sp_eql (Has.base rfl e54) Has.cst) ?_
            refine Chain.op (φ := Is (.bool ((x.k : Int) == (3 : Int)))) (st_is _) (sp_assign (Has.loc rfl)) ?_
            refine Chain.done ⟨by kernel_rfl, fun a29 g W29 hsz29 hdf29 hk hg henv hrest hpsi => ?_⟩
            obtain ⟨e68, -, -⟩ := henv
            replace e1 := (hrest 1 rfl).trans e1
            replace e54 := (hrest 54 rfl).trans e54
            replace D_cn0 := D_cn0.ext hk
            replace D_ci0 := D_ci0.ext hk
            have e68 : sl a29 68 = (.bool ((x.k : Int) == (3 : Int))) := e68
            replace own_b1_2 := own_b1_2.ext hk
            replace kw := kw.trans (.of_ext hk)
            clear hrest hk hg hpsi
            refine tail_nil (hK28 _ _ ?_)
            refine wp_cond_split e68 (fun hc => ?_) (fun hc => ?_)
            · -- T: (x.k : Int) == (3 : Int)
              rw [hc, cond_true] at hp
              refine wp_seq_k fun K30 hK30 => ?_
              refine wp_reg All mixed hsz29 hdf29 st_tr trivial ?_
              refine Chain.op (φ := Is (.pointer (some ⟨b1_2, 2, none⟩))) (st_is _) (sp_fieldO (Has.base rfl e1) Try.underlying33 rfl sz9 rfl) ?_
              refine Chain.op (φ := Is (.string (x.t))) (st_is _) (sp_loadO (v := (.string (x.t))) (Has.loc rfl) own_b1_2 trivial agg9 sz9 (Nat.le_of_ble_eq_true rfl) (fun h => by first | rfl | cases h) rfl) ?_
              refine Chain.op (φ := Is (.bool (wr x.t))) (st_is _) (sp_call1 (φ1 := Is (.string (x.t))) ent72 (Has.loc rfl) (fun g u1 W hk hgk h1 => by have h1 : u1 = _ := h1; subst u1; exact written_ok (x.t) W)) ?_
              refine Chain.op (φ := Is (.bool (wr x.t))) (st_is _) (sp_assign (Has.loc rfl)) ?_
              refine Chain.done ⟨by kernel_rfl, fun a31 g W31 hsz31 hdf31 hk hg henv hrest hpsi => ?_⟩
              obtain ⟨e2, -, -, -, -⟩ := henv
              replace D_cn0 := D_cn0.ext hk
              replace D_ci0 := D_ci0.ext hk
              have e2 : sl a31 2 = (.bool (wr x.t)) := e2
              replace own_b1_2 := own_b1_2.ext hk
              replace kw := kw.trans (.of_ext hk)
              clear hrest hk hg hpsi
              refine tail_nil (hK30 _ _ ?_)
              refine wp_ret ?_
              refine (show bodyPost Try.prog Try.f65 _ .ret _ _ from ret1 rfl hdf31 e2 ⟨_, rfl, kw, ?_⟩)
              rw [hp]
            · -- E: (x.k : Int) == (3 : Int)
              rw [hc, cond_false] at hp
              refine wp_seq_k fun K32 hK32 => ?_
              refine wp_reg All mixed hsz29 hdf29 st_tr trivial ?_
              refine Chain.op (φ := Is (.bool ((x.k : Int) == (5 : Int)))) (st_is _) (sp_eql (Has.base rfl e54) Has.cst) ?_
              refine Chain.op (φ := Is (.bool ((x.k : Int) == (5 : Int)))) (st_is _) (sp_assign (Has.loc rfl)) ?_
              refine Chain.done ⟨by kernel_rfl, fun a33 g W33 hsz33 hdf33 hk hg henv hrest hpsi => ?_⟩
              obtain ⟨e73, -, -⟩ := henv
              replace e1 := (hrest 1 rfl).trans e1
              replace D_cn0 := D_cn0.ext hk
              replace D_ci0 := D_ci0.ext hk
              have e73 : sl a33 73 = (.bool ((x.k : Int) == (5 : Int))) := e73
              replace own_b1_2 := own_b1_2.ext hk
              replace kw := kw.trans (.of_ext hk)
              clear hrest hk hg hpsi
              refine tail_nil (hK32 _ _ ?_)
              refine wp_cond_split e73 (fun hc => ?_) (fun hc => ?_)
              · -- T: (x.k : Int) == (5 : Int)
                rw [hc, cond_true] at hp
                refine wp_seq_k fun K34 hK34 => ?_
                refine wp_seq_k fun K35 hK35 => ?_
                refine wp_reg All mixed hsz33 hdf33 st_tr trivial ?_
                refine Chain.op (φ := Is (.pointer (some ⟨b1_2, 3, none⟩))) (st_is _) (sp_fieldO (Has.base rfl e1) Try.underlying33 rfl sz23 rfl) ?_
                refine Chain.op (φ := Is (.slice cn0a (x.ns.length) cn0c)) (st_is _) (sp_loadO (v := (.slice cn0a (x.ns.length) cn0c)) (Has.loc rfl) own_b1_2 trivial agg23 sz23 (Nat.le_of_ble_eq_true rfl) (fun h => by first | rfl | cases h) rfl) ?_
                refine Chain.op (φ := Is (.int .i64 (x.ns.length))) (st_is _) (sp_lenSs Try.underlying23 ((Has.loc rfl).dat D_cn0 sub_all)) ?_
                refine Chain.op (φ := Is (.pointer (some ⟨b1_2, 4, none⟩))) (st_is _) (sp_fieldO (Has.base rfl e1) Try.underlying33 rfl sz31 rfl) ?_
                refine Chain.op (φ := Is (.slice ci0a (x.xs.length) ci0c)) (st_is _) (sp_loadO (v := (.slice ci0a (x.xs.length) ci0c)) (Has.loc rfl) own_b1_2 trivial agg31 sz31 (Nat.le_of_ble_eq_true rfl) (fun h => by first | rfl | cases h) rfl) ?_
                refine Chain.op (φ := Is (.int .i64 (x.xs.length))) (st_is _) (sp_lenVs Try.underlying31 ((Has.loc rfl).dat D_ci0 sub_all)) ?_
                refine Chain.op (φ := Is (.bool ((x.ns.length : Int) != (x.xs.length : Int)))) (st_is _) (sp_neq (Has.loc rfl) (Has.loc rfl)) ?_
                refine Chain.op (φ := Is (.bool ((x.ns.length : Int) != (x.xs.length : Int)))) (st_is _) (sp_move (Has.loc rfl)) ?_
                refine Chain.opE (t := 82) (x := (x.ns.length : Int) != (x.xs.length : Int)) (φ := Is (.pointer (some ⟨b1_2, 3, none⟩))) rfl (Has.loc rfl) (st_is _) (fun hg => sp_fieldO (Has.base rfl e1) Try.underlying33 rfl sz23 rfl) ?_
                refine Chain.opE (t := 82) (x := (x.ns.length : Int) != (x.xs.length : Int)) (φ := Is (.slice cn0a (x.ns.length) cn0c)) rfl (Has.loc rfl) (st_is _) (fun hg => sp_loadO (v := (.slice cn0a (x.ns.length) cn0c)) ((Has.loc rfl).undE hg) own_b1_2 trivial agg23 sz23 (Nat.le_of_ble_eq_true rfl) (fun h => by first | rfl | cases h) rfl) ?_
                refine Chain.opE (t := 82) (x := (x.ns.length : Int) != (x.xs.length : Int)) (φ := Is (.bool (asc x.ns))) rfl (Has.loc rfl) (st_is _) (fun hg => sp_call1 (φ1 := IsD (SA w S [b1_2]) (strsD (x.ns))) ent73 (((Has.loc rfl).undE hg).dat D_cn0 sub_all) (fun g u1 W hk hgk h1 => ascending_ok (x.ns) W _ _ h1)) ?_
                refine Chain.opE (t := 82) (x := (x.ns.length : Int) != (x.xs.length : Int)) (φ := Is (.bool (!(asc x.ns)))) rfl (Has.loc rfl) (st_is _) (fun hg => sp_not ((Has.loc rfl).undE hg)) ?_
                refine Chain.op (φ := Is (.bool (((x.ns.length : Int) != (x.xs.length : Int)) || (!(asc x.ns))))) (st_is _) (sp_or (Has.loc rfl) ((Has.loc rfl).weak fun hq => hq)) ?_
                refine Chain.done ⟨by kernel_rfl, fun a36 g W36 hsz36 hdf36 hk hg henv hrest hpsi => ?_⟩
                obtain ⟨e87, -, -, -, -, -, -, -, -, -, -, -, -, -⟩ := henv
                replace e1 := (hrest 1 rfl).trans e1
                replace D_cn0 := D_cn0.ext hk
                replace D_ci0 := D_ci0.ext hk
                have e87 : sl a36 87 = (.bool (((x.ns.length : Int) != (x.xs.length : Int)) || (!(asc x.ns)))) := e87
                replace own_b1_2 := own_b1_2.ext hk
                replace kw := kw.trans (.of_ext hk)
                clear hrest hk hg hpsi
                refine tail_nil (hK35 _ _ ?_)
                refine wp_cond_split e87 (fun hc => ?_) (fun hc => ?_)
                · -- T: ((x.ns.length : Int) != (x.xs.length : Int)) || (!(asc x.ns))
                  rw [hc, cond_true] at hp
                  refine wp_seq_k fun K37 hK37 => ?_
                  refine wp_reg All mixed hsz36 hdf36 st_tr trivial ?_
                  refine Chain.op (φ := Is (.bool (false))) (st_is _) (sp_assign Has.cst) ?_
                  refine Chain.done ⟨by kernel_rfl, fun a38 g W38 hsz38 hdf38 hk hg henv hrest hpsi => ?_⟩
                  obtain ⟨e2, -⟩ := henv
                  replace D_cn0 := D_cn0.ext hk
                  replace D_ci0 := D_ci0.ext hk
                  have e2 : sl a38 2 = (.bool (false)) := e2
                  replace own_b1_2 := own_b1_2.ext hk
                  replace kw := kw.trans (.of_ext hk)
                  clear hrest hk hg hpsi
                  refine tail_nil (hK37 _ _ ?_)
                  refine wp_ret ?_
                  refine (show bodyPost Try.prog Try.f65 _ .ret _ _ from ret1 rfl hdf38 e2 ⟨_, rfl, kw, ?_⟩)
                  rw [hp]
                · -- E: ((x.ns.length : Int) != (x.xs.length : Int)) || (!(asc x.ns))
                  rw [hc, cond_false] at hp
                  refine wp_skip (hK34 _ _ ?_)
                  refine wp_seq_k fun K39 hK39 => ?_
                  refine wp_seq_k fun K40 hK40 => ?_
                  refine wp_reg All mixed hsz36 hdf36 st_tr trivial ?_
                  refine Chain.op (φ := Is (.pointer (some ⟨b1_2, 3, none⟩))) (st_is _) (sp_fieldO (Has.base rfl e1) Try.underlying33 rfl sz23 rfl) ?_
                  refine Chain.op (φ := Is (.slice cn0a (x.ns.length) cn0c)) (st_is _) (sp_loadO (v := (.slice cn0a (x.ns.length) cn0c)) (Has.loc rfl) own_b1_2 trivial agg23 sz23 (Nat.le_of_ble_eq_true rfl) (fun h => by first | rfl | cases h) rfl) ?_
                  refine Chain.op (φ := Is (.int .i64 (x.ns.length))) (st_is _) (sp_lenSs Try.underlying23 ((Has.loc rfl).dat D_cn0 sub_all)) ?_
                  refine Chain.op (φ := Is (.int .i64 (0))) (st_is _) (sp_move Has.cst) ?_
                  refine Chain.done ⟨by kernel_rfl, fun a41 g W41 hsz41 hdf41 hk hg henv hrest hpsi => ?_⟩
                  obtain ⟨e91, e90, e89, -, -⟩ := henv
                  replace D_cn0 := D_cn0.ext hk
                  replace D_ci0 := D_ci0.ext hk
                  have e89 : sl a41 89 = (.slice cn0a (x.ns.length) cn0c) := e89
                  have e90 : sl a41 90 = (.int .i64 (x.ns.length)) := e90
                  have e91 : sl a41 91 = (.int .i64 (0)) := e91
                  replace own_b1_2 := own_b1_2.ext hk
                  replace kw := kw.trans (.of_ext hk)
                  clear hrest hk hg hpsi
                  refine tail_nil (hK40 _ _ ?_)
                  refine wp_block ?_
                  replace D_cn0 := sa_less (M' := []) D_cn0 ls_nil
                  refine wp_for (x.ns.length) (fun k a W => a.tmps.size = 99 ∧ a.defers = [] ∧ Keeps All w W ∧ sl a 89 = (.slice cn0a (x.ns.length) cn0c) ∧ sl a 90 = (.int .i64 (x.ns.length)) ∧ sl a 91 = (.int .i64 ((k : Nat))) ∧ Rd W (SA w S []) (strsD (x.ns)) (.slice cn0a (x.ns.length) cn0c) ∧ (∀ i (h1 : i < x.ns.length), i < k → wr x.ns[i] = true)) ⟨hsz41, hdf41, kw, e89, e90, (e91.trans (congrArg (Value.int .i64) (rfl))), D_cn0, fun i h1 hi => absurd hi (by omega)⟩ ?_
                  clear kw e89 e90 e91 D_cn0
                  rintro k a42 W42 hkk ⟨hsz42, hdf42, kw, e89, e90, e91, D_cn0, hinv⟩
                  refine wp_seq_k fun K43 hK43 => ?_
                  refine wp_reg All mixed hsz42 hdf42 st_tr trivial ?_
                  refine Chain.op (φ := Is (.bool (decide (((k : Nat) : Int) < (x.ns.length : Int))))) (st_is _) (sp_lss (Has.base rfl e91) (Has.base rfl e90)) ?_
                  refine Chain.done ⟨by kernel_rfl, fun a44 g W44 hsz44 hdf44 hk hg henv hrest hpsi => ?_⟩
                  obtain ⟨e92, -⟩ := henv
                  replace e89 := (hrest 89 rfl).trans e89
                  replace e90 := (hrest 90 rfl).trans e90
                  replace e91 := (hrest 91 rfl).trans e91
                  replace D_cn0 := D_cn0.ext hk
                  have e92 : sl a44 92 = (.bool (decide (((k : Nat) : Int) < (x.ns.length : Int)))) := e92
                  replace kw := kw.trans (.of_ext hk)
                  clear hrest hk hg hpsi
                  refine tail_nil (hK43 _ _ ?_)
                  refine wp_seq_k fun K45 hK45 => ?_
                  refine wp_cond_split e92 (fun hc => ?_) (fun hc => ?_)
                  · -- T: decide (((k : Nat) : Int) < (x.ns.length : Int))
                    have hlt : k < x.ns.length := by simpa using hc
                    refine wp_skip (hK45 _ _ ?_)
                    refine wp_seq_k fun K46 hK46 => ?_
                    refine wp_block ?_
                    refine wp_seq_k fun K47 hK47 => ?_
                    refine wp_reg All mixed hsz44 hdf44 st_tr trivial ?_
                    refine Chain.op (φ := IsR (SA w S []) (D.str (x.ns[k]'hlt))) (st_r sub_all) (sp_indexS (i := k) ((Has.base rfl e89).dat D_cn0 sub_all) (Has.base rfl e91) Try.underlying23 sz9 rfl hlt) ?_
                    refine Chain.op (φ := Is (.string (x.ns[k]'hlt))) (st_is _) (sp_loadStr (Has.loc rfl) agg9 sz9) ?_
                    refine Chain.op (φ := Is (.string (x.ns[k]'hlt))) (st_is _) (sp_assign (Has.loc rfl)) ?_
                    refine Chain.done ⟨by kernel_rfl, fun a48 g W48 hsz48 hdf48 hk hg henv hrest hpsi => ?_⟩
                    obtain ⟨e4, -, -, -⟩ := henv
                    replace e89 := (hrest 89 rfl).trans e89
                    replace e90 := (hrest 90 rfl).trans e90
                    replace e91 := (hrest 91 rfl).trans e91
                    replace D_cn0 := D_cn0.ext hk
                    have e4 : sl a48 4 = (.string (x.ns[k]'hlt)) := e4
                    replace kw := kw.trans (.of_ext hk)
                    clear hrest hk hg hpsi
                    refine tail_nil (hK47 _ _ ?_)
                    refine wp_seq_k fun K49 hK49 => ?_
                    refine wp_reg All mixed hsz48 hdf48 st_tr trivial ?_
                    refine Chain.op (φ := Is (.string (x.ns[k]'hlt))) (st_is _) (sp_move (Has.base rfl e4)) ?_
                    refine Chain.op (φ := Is (.bool (wr (x.ns[k]'hlt)))) (st_is _) (sp_call1 (φ1 := Is (.string (x.ns[k]'hlt))) ent72 (Has.loc rfl) (fun g u1 W hk hgk h1 => by have h1 : u1 = _ := h1; subst u1; exact written_ok (x.ns[k]'hlt) W)) ?_
                    refine Chain.op (φ := Is (.bool (!(wr (x.ns[k]'hlt))))) (st_is _) (sp_not (Has.loc rfl)) ?_
                    refine Chain.done ⟨by kernel_rfl, fun a50 g W50 hsz50 hdf50 hk hg henv hrest hpsi => ?_⟩
                    obtain ⟨e97, -, -, -⟩ := henv
                    replace e89 := (hrest 89 rfl).trans e89
                    replace e90 := (hrest 90 rfl).trans e90
                    replace e91 := (hrest 91 rfl).trans e91
                    replace D_cn0 := D_cn0.ext hk
                    have e97 : sl a50 97 = (.bool (!(wr (x.ns[k]'hlt)))) := e97
                    replace kw := kw.trans (.of_ext hk)
                    clear hrest hk hg hpsi
                    refine tail_nil (hK49 _ _ ?_)
                    refine wp_cond_split e97 (fun hc => ?_) (fun hc => ?_)
                    · -- T: !(wr (x.ns[k]'hlt))
                      rw [List.all_eq_false.2 ⟨_, List.getElem_mem hlt, by simpa using hc⟩] at hp
                      refine wp_seq_k fun K51 hK51 => ?_
                      refine wp_reg All mixed hsz50 hdf50 st_tr trivial ?_
                      refine Chain.op (φ := Is (.bool (false))) (st_is _) (sp_assign Has.cst) ?_
                      refine Chain.done ⟨by kernel_rfl, fun a52 g W52 hsz52 hdf52 hk hg henv hrest hpsi => ?_⟩
                      obtain ⟨e2, -⟩ := henv
                      replace D_cn0 := D_cn0.ext hk
                      have e2 : sl a52 2 = (.bool (false)) := e2
                      replace kw := kw.trans (.of_ext hk)
                      clear hrest hk hg hpsi
                      refine tail_nil (hK51 _ _ ?_)
                      refine wp_ret ?_
                      refine (show bodyPost Try.prog Try.f65 _ .ret _ _ from ret1 rfl hdf52 e2 ⟨_, rfl, kw, ?_⟩)
                      rw [hp]
                    · -- E: !(wr (x.ns[k]'hlt))
                      have hk1 : wr x.ns[k] = true := by simpa using hc
                      refine wp_skip (hK46 _ _ ?_)
                      refine wp_reg All mixed hsz50 hdf50 st_tr trivial ?_
                      refine Chain.op (φ := Is (.int .i64 (((k : Nat) : Int) + (1 : Int)))) (st_is _) (sp_add (Has.base rfl e91) Has.cst (i64_in (by omega))) ?_
                      refine Chain.op (φ := Is (.int .i64 (((k : Nat) : Int) + (1 : Int)))) (st_is _) (sp_move (Has.loc rfl)) ?_
                      refine Chain.done ⟨by kernel_rfl, fun a53 g W53 hsz53 hdf53 hk hg henv hrest hpsi => ?_⟩
                      obtain ⟨e91, -, -⟩ := henv
                      replace e89 := (hrest 89 rfl).trans e89
                      replace e90 := (hrest 90 rfl).trans e90
                      replace D_cn0 := D_cn0.ext hk
                      have e91 : sl a53 91 = (.int .i64 (((k : Nat) : Int) + (1 : Int))) := e91
                      replace kw := kw.trans (.of_ext hk)
                      clear hrest hk hg hpsi
                      exact tail_nil ⟨hlt, hsz53, hdf53, kw, e89, e90, (e91.trans (congrArg (Value.int .i64) (by simp))), D_cn0, fun i h1 hi => by rcases Nat.lt_succ_iff_lt_or_eq.1 hi with h | h; exact hinv i h1 h; subst h; exact hk1⟩
                  · -- E: decide (((k : Nat) : Int) < (x.ns.length : Int))
                    have hge0 : ¬ k < x.ns.length := by simpa using hc
                    have hge : k = x.ns.length := by omega
                    rw [List.all_eq_true.2 (fun q hq => by obtain ⟨i, h1, rfl⟩ := List.getElem_of_mem hq; exact hinv i h1 (by omega))] at hp
                    refine wp_exit (hK39 _ _ ?_)
                    refine wp_seq_k fun K54 hK54 => ?_
                    refine wp_reg All mixed hsz44 hdf44 st_tr trivial ?_
                    refine Chain.op (φ := Is (.bool (true))) (st_is _) (sp_assign Has.cst) ?_
                    refine Chain.done ⟨by kernel_rfl, fun a55 g W55 hsz55 hdf55 hk hg henv hrest hpsi => ?_⟩
                    obtain ⟨e2, -⟩ := henv
                    replace D_cn0 := D_cn0.ext hk
                    have e2 : sl a55 2 = (.bool (true)) := e2
                    replace kw := kw.trans (.of_ext hk)
                    clear hrest hk hg hpsi
                    refine tail_nil (hK54 _ _ ?_)
                    refine wp_ret ?_
                    refine (show bodyPost Try.prog Try.f65 _ .ret _ _ from ret1 rfl hdf55 e2 ⟨_, rfl, kw, ?_⟩)
                    rw [hp]
              · -- E: (x.k : Int) == (5 : Int)
                rw [hc, cond_false] at hp
                refine wp_skip (hK13 _ _ ?_)
                refine wp_seq_k fun K56 hK56 => ?_
                refine wp_reg All mixed hsz33 hdf33 st_tr trivial ?_
                refine Chain.op (φ := Is (.bool (false))) (st_is _) (sp_assign Has.cst) ?_
                refine Chain.done ⟨by kernel_rfl, fun a57 g W57 hsz57 hdf57 hk hg henv hrest hpsi => ?_⟩
                obtain ⟨e2, -⟩ := henv
                replace D_cn0 := D_cn0.ext hk
                replace D_ci0 := D_ci0.ext hk
                have e2 : sl a57 2 = (.bool (false)) := e2
                replace own_b1_2 := own_b1_2.ext hk
                replace kw := kw.trans (.of_ext hk)
                clear hrest hk hg hpsi
                refine tail_nil (hK56 _ _ ?_)
                refine wp_ret ?_
                refine (show bodyPost Try.prog Try.f65 _ .ret _ _ from ret1 rfl hdf57 e2 ⟨_, rfl, kw, ?_⟩)
                rw [hp]

end Go.Proofs.Ytipdogbeoflkoaa
