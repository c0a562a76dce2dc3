import Derived.Test.YtkhnemiflpjbpaaC2
namespace Go.Proofs.Ytkhnemiflpjbpaa
open Go.Eng
theorem same_all : ∀ (n : Nat) (x y : V), x.cnt ≤ n → n ≤ 1073741824 → ∀ (w : World) (S : BSet) (p q : Value), Ref w S x.d p → Ref w S y.d q → Calls Try.prog 36 #[p, q, .pointer none] w (Ret w fun u _ => u = .bool (V.beq x y)) := by
  intro n
  induction n with
  | zero => intro x y hx; cases x; simp [V.cnt] at hx
  | succ n ih =>
  intro x y hx hn w S p q hp hq
  have hlx := len_cnts x.xs
  have hcx := cnt_eq x
  have D_p := ref_arg hp
  have D_q := ref_arg hq
  refine enter Try.func36 rfl Try.ntmps36 (Nat.le_of_ble_eq_true rfl) fun a0 hsz0 hdf0 harg => ?_
  have e0 : sl a0 0 = p := harg 0 (Nat.le_of_ble_eq_true rfl)
  have e1 : sl a0 1 = q := harg 1 (Nat.le_of_ble_eq_true rfl)
  have e2 : sl a0 2 = (.pointer none) := harg 2 (Nat.le_of_ble_eq_true rfl)
  have kw := Keeps.refl All w
  clear harg
  refine wp_seq_k fun K1 hK1 => ?_
  refine wp_reg All mixed hsz0 hdf0 st_tr trivial ?_
  refine Chain.op (φ := Is (.bool (false))) (st_is _) (sp_assign Has.cst) ?_
  refine Chain.done ⟨by kernel_rfl, fun a2 g W2 hsz2 hdf2 hk hg henv hrest hpsi => ?_⟩
  obtain ⟨-, -⟩ := henv
  replace e0 := (hrest 0 rfl).trans e0
  replace e1 := (hrest 1 rfl).trans e1
  replace e2 := (hrest 2 rfl).trans e2
  replace D_p := D_p.ext hk
  replace D_q := D_q.ext hk
  replace kw := kw.trans (.of_ext hk)
  clear hrest hk hg hpsi
  refine tail_nil (hK1 _ _ ?_)
  refine wp_seq_k fun K3 hK3 => ?_
  refine wp_seq_k fun K4 hK4 => ?_
  refine wp_reg All mixed hsz2 hdf2 st_tr trivial ?_
  refine Chain.op (φ := Is p) (st_is _) (sp_move (Has.base rfl e0)) ?_
  refine Chain.op (φ := IsR (SA w S []) (V.d (x))) (st_r sub_all) (sp_nilR ((Has.loc rfl).refd D_p sub_all)) ?_
  refine Chain.op (φ := IsR (SA w S []) (D.int .u8 (x.k))) (st_r sub_all) (sp_fieldV (Has.loc rfl) Try.underlying25 rfl sz5 rfl rfl) ?_
  refine Chain.op (φ := Is (.int .u8 (x.k))) (st_is _) (sp_loadInt (Has.loc rfl) agg5 sz5) ?_
  refine Chain.op (φ := Is q) (st_is _) (sp_move (Has.base rfl e1)) ?_
  refine Chain.op (φ := IsR (SA w S []) (V.d (y))) (st_r sub_all) (sp_nilR ((Has.loc rfl).refd D_q sub_all)) ?_
  refine Chain.op (φ := IsR (SA w S []) (D.int .u8 (y.k))) (st_r sub_all) (sp_fieldV (Has.loc rfl) Try.underlying25 rfl sz5 rfl rfl) ?_
  refine Chain.op (φ := Is (.int .u8 (y.k))) (st_is _) (sp_loadInt (Has.loc rfl) agg5 sz5) ?_
  refine Chain.op (φ := Is (.bool ((x.k : Int) != (y.k : Int)))) (st_is _) (sp_neq (Has.loc rfl) (Has.loc rfl)) ?_
  refine Chain.op (φ := Is (.bool ((x.k : Int) != (y.k : Int)))) (st_is _) (sp_move (Has.loc rfl)) ?_
  refine Chain.opE (t := 17) (x := (x.k : Int) != (y.k : Int)) (φ := Is p) rfl (Has.loc rfl) (st_is _) (fun hg => sp_move (Has.base rfl e0)) ?_
  refine Chain.opE (t := 17) (x := (x.k : Int) != (y.k : Int)) (φ := IsR (SA w S []) (V.d (x))) rfl (Has.loc rfl) (st_r sub_all) (fun hg => sp_nilR (((Has.loc rfl).undE hg).refd D_p sub_all)) ?_
  refine Chain.opE (t := 17) (x := (x.k : Int) != (y.k : Int)) (φ := IsR (SA w S []) (D.int .i64 (x.n))) rfl (Has.loc rfl) (st_r sub_all) (fun hg => sp_fieldV ((Has.loc rfl).undE hg) Try.underlying25 rfl sz2 rfl rfl) ?_
  refine Chain.opE (t := 17) (x := (x.k : Int) != (y.k : Int)) (φ := Is (.int .i64 (x.n))) rfl (Has.loc rfl) (st_is _) (fun hg => sp_loadInt ((Has.loc rfl).undE hg) agg2 sz2) ?_
  refine Chain.opE (t := 17) (x := (x.k : Int) != (y.k : Int)) (φ := Is q) rfl (Has.loc rfl) (st_is _) (fun hg => sp_move (Has.base rfl e1)) ?_
  refine Chain.opE (t := 17) (x := (x.k : Int) != (y.k : Int)) (φ := IsR (SA w S []) (V.d (y))) rfl (Has.loc rfl) (st_r sub_all) (fun hg => sp_nilR (((Has.loc rfl).undE hg).refd D_q sub_all)) ?_
  refine Chain.opE (t := 17) (x := (x.k : Int) != (y.k : Int)) (φ := IsR (SA w S []) (D.int .i64 (y.n))) rfl (Has.loc rfl) (st_r sub_all) (fun hg => sp_fieldV ((Has.loc rfl).undE hg) Try.underlying25 rfl sz2 rfl rfl) ?_
  refine Chain.opE (t := 17) (x := (x.k : Int) != (y.k : Int)) (φ := Is (.int .i64 (y.n))) rfl (Has.loc rfl) (st_is _) (fun hg => sp_loadInt ((Has.loc rfl).undE hg) agg2 sz2) ?_
  refine Chain.opE (t := 17) (x := (x.k : Int) != (y.k : Int)) (φ := Is (.bool ((x.n : Int) != (y.n : Int)))) rfl (Has.loc rfl) (st_is _) (fun hg => sp_neq ((Has.loc rfl).undE hg) ((Has.loc rfl).undE hg)) ?_
  refine Chain.op (φ := Is (.bool (((x.k : Int) != (y.k : Int)) || ((x.n : Int) != (y.n : Int))))) (st_is _) (sp_or (Has.loc rfl) ((Has.loc rfl).weak fun hq => hq)) ?_
  refine Chain.op (φ := Is (.bool (((x.k : Int) != (y.k : Int)) || ((x.n : Int) != (y.n : Int))))) (st_is _) (sp_move (Has.loc rfl)) ?_
  refine Chain.opE (t := 28) (x := ((x.k : Int) != (y.k : Int)) || ((x.n : Int) != (y.n : Int))) (φ := Is p) rfl (Has.loc rfl) (st_is _) (fun hg => sp_move (Has.base rfl e0)) ?_
  refine Chain.opE (t := 28) (x := ((x.k : Int) != (y.k : Int)) || ((x.n : Int) != (y.n : Int))) (φ := IsR (SA w S []) (V.d (x))) rfl (Has.loc rfl) (st_r sub_all) (fun hg => sp_nilR (((Has.loc rfl).undE hg).refd D_p sub_all)) ?_
  refine Chain.opE (t := 28) (x := ((x.k : Int) != (y.k : Int)) || ((x.n : Int) != (y.n : Int))) (φ := IsR (SA w S []) (D.str (x.t))) rfl (Has.loc rfl) (st_r sub_all) (fun hg => sp_fieldV ((Has.loc rfl).undE hg) Try.underlying25 rfl sz9 rfl rfl) ?_
  refine Chain.opE (t := 28) (x := ((x.k : Int) != (y.k : Int)) || ((x.n : Int) != (y.n : Int))) (φ := Is (.string (x.t))) rfl (Has.loc rfl) (st_is _) (fun hg => sp_loadStr ((Has.loc rfl).undE hg) agg9 sz9) ?_
  refine Chain.opE (t := 28) (x := ((x.k : Int) != (y.k : Int)) || ((x.n : Int) != (y.n : Int))) (φ := Is q) rfl (Has.loc rfl) (st_is _) (fun hg => sp_move (Has.base rfl e1)) ?_
  refine Chain.opE (t := 28) (x := ((x.k : Int) != (y.k : Int)) || ((x.n : Int) != (y.n : Int))) (φ := IsR (SA w S []) (V.d (y))) rfl (Has.loc rfl) (st_r sub_all) (fun hg => sp_nilR (((Has.loc rfl).undE hg).refd D_q sub_all)) ?_
  refine Chain.opE (t := 28) (x := ((x.k : Int) != (y.k : Int)) || ((x.n : Int) != (y.n : Int))) (φ := IsR (SA w S []) (D.str (y.t))) rfl (Has.loc rfl) (st_r sub_all) (fun hg => sp_fieldV ((Has.loc rfl).undE hg) Try.underlying25 rfl sz9 rfl rfl) ?_
  refine Chain.opE (t := 28) (x := ((x.k : Int) != (y.k : Int)) || ((x.n : Int) != (y.n : Int))) (φ := Is (.string (y.t))) rfl (Has.loc rfl) (st_is _) (fun hg => sp_loadStr ((Has.loc rfl).undE hg) agg9 sz9) ?_
  refine Chain.opE (t := 28) (x := ((x.k : Int) != (y.k : Int)) || ((x.n : Int) != (y.n : Int))) (φ := Is (.bool (!decide (x.t = y.t)))) rfl (Has.loc rfl) (st_is _) (fun hg => sp_sNeq ((Has.loc rfl).undE hg) ((Has.loc rfl).undE hg)) ?_
  refine Chain.op (φ := Is (.bool ((((x.k : Int) != (y.k : Int)) || ((x.n : Int) != (y.n : Int))) || (!decide (x.t = y.t))))) (st_is _) (sp_or (Has.loc rfl) ((Has.loc rfl).weak fun hq => hq)) ?_
  refine Chain.op (φ := Is (.bool ((((x.k : Int) != (y.k : Int)) || ((x.n : Int) != (y.n : Int))) || (!decide (x.t = y.t))))) (st_is _) (sp_move (Has.loc rfl)) ?_
  refine Chain.opE (t := 39) (x := (((x.k : Int) != (y.k : Int)) || ((x.n : Int) != (y.n : Int))) || (!decide (x.t = y.t))) (φ := Is p) rfl (Has.loc rfl) (st_is _) (fun hg => sp_move (Has.base rfl e0)) ?_
  refine Chain.opE (t := 39) (x := (((x.k : Int) != (y.k : Int)) || ((x.n : Int) != (y.n : Int))) || (!decide (x.t = y.t))) (φ := IsR (SA w S []) (V.d (x))) rfl (Has.loc rfl) (st_r sub_all) (fun hg => sp_nilR (((Has.loc rfl).undE hg).refd D_p sub_all)) ?_
  refine Chain.opE (t := 39) (x := (((x.k : Int) != (y.k : Int)) || ((x.n : Int) != (y.n : Int))) || (!decide (x.t = y.t))) (φ := IsR (SA w S []) (strsD (x.ns))) rfl (Has.loc rfl) (st_r sub_all) (fun hg => sp_fieldV ((Has.loc rfl).undE hg) Try.underlying25 rfl sz22 rfl rfl) ?_
  refine Chain.opE (t := 39) (x := (((x.k : Int) != (y.k : Int)) || ((x.n : Int) != (y.n : Int))) || (!decide (x.t = y.t))) (φ := IsD (SA w S []) (strsD (x.ns))) rfl (Has.loc rfl) (st_d sub_all) (fun hg => sp_loadR ((Has.loc rfl).undE hg) agg22 sz22 rfl) ?_
  refine Chain.opE (t := 39) (x := (((x.k : Int) != (y.k : Int)) || ((x.n : Int) != (y.n : Int))) || (!decide (x.t = y.t))) (φ := Is q) rfl (Has.loc rfl) (st_is _) (fun hg => sp_move (Has.base rfl e1)) ?_
  refine Chain.opE (t := 39) (x := (((x.k : Int) != (y.k : Int)) || ((x.n : Int) != (y.n : Int))) || (!decide (x.t = y.t))) (φ := IsR (SA w S []) (V.d (y))) rfl (Has.loc rfl) (st_r sub_all) (fun hg => sp_nilR (((Has.loc rfl).undE hg).refd D_q sub_all)) ?_
  refine Chain.opE (t := 39) (x := (((x.k : Int) != (y.k : Int)) || ((x.n : Int) != (y.n : Int))) || (!decide (x.t = y.t))) (φ := IsR (SA w S []) (strsD (y.ns))) rfl (Has.loc rfl) (st_r sub_all) (fun hg => sp_fieldV ((Has.loc rfl).undE hg) Try.underlying25 rfl sz22 rfl rfl) ?_
  refine Chain.opE (t := 39) (x := (((x.k : Int) != (y.k : Int)) || ((x.n : Int) != (y.n : Int))) || (!decide (x.t = y.t))) (φ := IsD (SA w S []) (strsD (y.ns))) rfl (Has.loc rfl) (st_d sub_all) (fun hg => sp_loadR ((Has.loc rfl).undE hg) agg22 sz22 rfl) ?_
  refine Chain.opE (t := 39) (x := (((x.k : Int) != (y.k : Int)) || ((x.n : Int) != (y.n : Int))) || (!decide (x.t = y.t))) (φ := Is (.bool (decide (x.ns = y.ns)))) rfl (Has.loc rfl) (st_is _) (fun hg => sp_call2 (φ1 := IsD (SA w S []) (strsD (x.ns))) (φ2 := IsD (SA w S []) (strsD (y.ns))) ent46 ((Has.loc rfl).undE hg) ((Has.loc rfl).undE hg) (fun g u1 u2 W hk hgk h1 h2 => equal_ok (x.ns) (y.ns) W _ _ _ h1 h2)) ?_
  refine Chain.opE (t := 39) (x := (((x.k : Int) != (y.k : Int)) || ((x.n : Int) != (y.n : Int))) || (!decide (x.t = y.t))) (φ := Is (.bool (!(decide (x.ns = y.ns))))) rfl (Has.loc rfl) (st_is _) (fun hg => sp_not ((Has.loc rfl).undE hg)) ?_
  refine Chain.op (φ := Is (.bool (((((x.k : Int) != (y.k : Int)) || ((x.n : Int) != (y.n : Int))) || (!decide (x.t = y.t))) || (!(decide (x.ns = y.ns)))))) (st_is _) (sp_or (Has.loc rfl) ((Has.loc rfl).weak fun hq => hq)) ?_
  refine Chain.op (φ := Is (.bool (((((x.k : Int) != (y.k : Int)) || ((x.n : Int) != (y.n : Int))) || (!decide (x.t = y.t))) || (!(decide (x.ns = y.ns)))))) (st_is _) (sp_move (Has.loc rfl)) ?_
  refine Chain.opE (t := 51) (x := ((((x.k : Int) != (y.k : Int)) || ((x.n : Int) != (y.n : Int))) || (!decide (x.t = y.t))) || (!(decide (x.ns = y.ns)))) (φ := Is p) rfl (Has.loc rfl) (st_is _) (fun hg => sp_move (Has.base rfl e0)) ?_
  refine Chain.opE (t := 51) (x := ((((x.k : Int) != (y.k : Int)) || ((x.n : Int) != (y.n : Int))) || (!decide (x.t = y.t))) || (!(decide (x.ns = y.ns)))) (φ := IsR (SA w S []) (V.d (x))) rfl (Has.loc rfl) (st_r sub_all) (fun hg => sp_nilR (((Has.loc rfl).undE hg).refd D_p sub_all)) ?_
  refine Chain.opE (t := 51) (x := ((((x.k : Int) != (y.k : Int)) || ((x.n : Int) != (y.n : Int))) || (!decide (x.t = y.t))) || (!(decide (x.ns = y.ns)))) (φ := IsR (SA w S []) (valsD (x.xs))) rfl (Has.loc rfl) (st_r sub_all) (fun hg => sp_fieldV ((Has.loc rfl).undE hg) Try.underlying25 rfl sz23 rfl rfl) ?_
  refine Chain.opE (t := 51) (x := ((((x.k : Int) != (y.k : Int)) || ((x.n : Int) != (y.n : Int))) || (!decide (x.t = y.t))) || (!(decide (x.ns = y.ns)))) (φ := IsD (SA w S []) (valsD (x.xs))) rfl (Has.loc rfl) (st_d sub_all) (fun hg => sp_loadR ((Has.loc rfl).undE hg) agg23 sz23 rfl) ?_
  refine Chain.opE (t := 51) (x := ((((x.k : Int) != (y.k : Int)) || ((x.n : Int) != (y.n : Int))) || (!decide (x.t = y.t))) || (!(decide (x.ns = y.ns)))) (φ := Is (.int .i64 (x.xs.length))) rfl (Has.loc rfl) (st_is _) (fun hg => sp_lenVs Try.underlying23 ((Has.loc rfl).undE hg)) ?_
  refine Chain.opE (t := 51) (x := ((((x.k : Int) != (y.k : Int)) || ((x.n : Int) != (y.n : Int))) || (!decide (x.t = y.t))) || (!(decide (x.ns = y.ns)))) (φ := Is q) rfl (Has.loc rfl) (st_is _) (fun hg => sp_move (Has.base rfl e1)) ?_
  refine Chain.opE (t := 51) (x := ((((x.k : Int) != (y.k : Int)) || ((x.n : Int) != (y.n : Int))) || (!decide (x.t = y.t))) || (!(decide (x.ns = y.ns)))) (φ := IsR (SA w S []) (V.d (y))) rfl (Has.loc rfl) (st_r sub_all) (fun hg => sp_nilR (((Has.loc rfl).undE hg).refd D_q sub_all)) ?_
  refine Chain.opE (t := 51) (x := ((((x.k : Int) != (y.k : Int)) || ((x.n : Int) != (y.n : Int))) || (!decide (x.t = y.t))) || (!(decide (x.ns = y.ns)))) (φ := IsR (SA w S []) (valsD (y.xs))) rfl (Has.loc rfl) (st_r sub_all) (fun hg => sp_fieldV ((Has.loc rfl).undE hg) Try.underlying25 rfl sz23 rfl rfl) ?_
  refine Chain.opE (t := 51) (x := ((((x.k : Int) != (y.k : Int)) || ((x.n : Int) != (y.n : Int))) || (!decide (x.t = y.t))) || (!(decide (x.ns = y.ns)))) (φ := IsD (SA w S []) (valsD (y.xs))) rfl (Has.loc rfl) (st_d sub_all) (fun hg => sp_loadR ((Has.loc rfl).undE hg) agg23 sz23 rfl) ?_
  refine Chain.opE (t := 51) (x := ((((x.k : Int) != (y.k : Int)) || ((x.n : Int) != (y.n : Int))) || (!decide (x.t = y.t))) || (!(decide (x.ns = y.ns)))) (φ := Is (.int .i64 (y.xs.length))) rfl (Has.loc rfl) (st_is _) (fun hg => sp_lenVs Try.underlying23 ((Has.loc rfl).undE hg)) ?_
  refine Chain.opE (t := 51) (x := ((((x.k : Int) != (y.k : Int)) || ((x.n : Int) != (y.n : Int))) || (!decide (x.t = y.t))) || (!(decide (x.ns = y.ns)))) (φ := Is (.bool ((x.xs.length : Int) != (y.xs.length : Int)))) rfl (Has.loc rfl) (st_is _) (fun hg => sp_neq ((Has.loc rfl).undE hg) ((Has.loc rfl).undE hg)) ?_
  refine Chain.op (φ := Is (.bool ((((((x.k : Int) != (y.k : Int)) || ((x.n : Int) != (y.n : Int))) || (!decide (x.t = y.t))) || (!(decide (x.ns = y.ns)))) || ((x.xs.length : Int) != (y.xs.length : Int))))) (st_is _) (sp_or (Has.loc rfl) ((Has.loc rfl).weak fun hq => hq)) ?_
  refine Chain.done ⟨by kernel_rfl, fun a5 g W5 hsz5 hdf5 hk hg henv hrest hpsi => ?_⟩
  obtain ⟨e63, -, -, -, -, -, -, -, -, -, -, -, -, -, -, -, -, -, -, -, -, -, -, -, -, -, -, -, -, -, -, -, -, -, -, -, -, -, -, -, -, -, -, -, -, -, -, -, -, -, -, -, -, -, -, -, -⟩ := henv
  replace e0 := (hrest 0 rfl).trans e0
  replace e1 := (hrest 1 rfl).trans e1
  replace e2 := (hrest 2 rfl).trans e2
  replace D_p := D_p.ext hk
  replace D_q := D_q.ext hk
  have e63 : sl a5 63 = (.bool ((((((x.k : Int) != (y.k : Int)) || ((x.n : Int) != (y.n : Int))) || (!decide (x.t = y.t))) || (!(decide (x.ns = y.ns)))) || ((x.xs.length : Int) != (y.xs.length : Int)))) := e63
  replace kw := kw.trans (.of_ext hk)
  clear hrest hk hg hpsi
  refine tail_nil (hK4 _ _ ?_)
  refine wp_cond_split e63 (fun hc => ?_) (fun hc => ?_)
  · -- T: (((((x.k : Int) != (y.k : Int)) || ((x.n : Int) != (y.n : Int))) || (!decide (x.
    have hfin : V.beq x y = false := beq_false fun h => by subst h; simp at hc
    refine wp_seq_k fun K6 hK6 => ?_
    refine wp_reg All mixed hsz5 hdf5 st_tr trivial ?_
    refine Chain.op (φ := Is (.bool (false))) (st_is _) (sp_assign Has.cst) ?_
    refine Chain.done ⟨by kernel_rfl, fun a7 g W7 hsz7 hdf7 hk hg henv hrest hpsi => ?_⟩
    obtain ⟨e6, -⟩ := henv
    replace D_p := D_p.ext hk
    replace D_q := D_q.ext hk
    have e6 : sl a7 6 = (.bool (false)) := e6
    replace kw := kw.trans (.of_ext hk)
    clear hrest hk hg hpsi
    refine tail_nil (hK6 _ _ ?_)
    refine wp_ret ?_
    refine (show bodyPost Try.prog Try.f36 _ .ret _ _ from ret1 rfl hdf7 e6 ⟨_, rfl, kw, ?_⟩)
    rw [hfin]
  · -- E: (((((x.k : Int) != (y.k : Int)) || ((x.n : Int) != (y.n : Int))) || (!decide (x.
    simp at hc
    obtain ⟨⟨⟨⟨q1, q2⟩, q3⟩, q4⟩, q5⟩ := hc
    refine wp_skip (hK3 _ _ ?_)
    refine wp_seq_k fun K8 hK8 => ?_
    refine wp_seq_k fun K9 hK9 => ?_
    refine wp_reg All mixed hsz5 hdf5 st_tr trivial ?_
    refine Chain.op (φ := Is (.pointer none)) (st_is _) (sp_move (Has.base rfl e2)) ?_
    refine Chain.op (φ := Is (.bool (false))) (st_is _) (sp_nilNeq Try.underlying52 (Has.loc rfl) Has.cst (by simp) rfl) ?_
    refine Chain.done ⟨by kernel_rfl, fun a10 g W10 hsz10 hdf10 hk hg henv hrest hpsi => ?_⟩
    obtain ⟨e65, -, -⟩ := henv
    replace e0 := (hrest 0 rfl).trans e0
    replace e1 := (hrest 1 rfl).trans e1
    replace e2 := (hrest 2 rfl).trans e2
    replace D_p := D_p.ext hk
    replace D_q := D_q.ext hk
    have e65 : sl a10 65 = (.bool (false)) := e65
    replace kw := kw.trans (.of_ext hk)
    clear hrest hk hg hpsi
    refine tail_nil (hK9 _ _ ?_)
    refine wp_cond_false e65 ?_
    refine wp_skip (hK8 _ _ ?_)
    refine wp_seq_k fun K11 hK11 => ?_
    refine wp_seq_k fun K12 hK12 => ?_
    refine wp_reg All mixed hsz10 hdf10 st_tr trivial ?_
    refine Chain.op (φ := Is p) (st_is _) (sp_move (Has.base rfl e0)) ?_
    refine Chain.op (φ := IsR (SA w S []) (V.d (x))) (st_r sub_all) (sp_nilR ((Has.loc rfl).refd D_p sub_all)) ?_
    refine Chain.op (φ := IsR (SA w S []) (valsD (x.xs))) (st_r sub_all) (sp_fieldV (Has.loc rfl) Try.underlying25 rfl sz23 rfl rfl) ?_
    refine Chain.op (φ := IsD (SA w S []) (valsD (x.xs))) (st_d sub_all) (sp_loadR (Has.loc rfl) agg23 sz23 rfl) ?_
    refine Chain.op (φ := Is (.int .i64 (x.xs.length))) (st_is _) (sp_lenVs Try.underlying23 (Has.loc rfl)) ?_
    refine Chain.op (φ := Is (.int .i64 (0))) (st_is _) (sp_move Has.cst) ?_
    refine Chain.done ⟨by kernel_rfl, fun a13 g W13 hsz13 hdf13 hk hg henv hrest hpsi => ?_⟩
    obtain ⟨e88, e87, -, -, -, -, -⟩ := henv
    replace e0 := (hrest 0 rfl).trans e0
    replace e1 := (hrest 1 rfl).trans e1
    replace e2 := (hrest 2 rfl).trans e2
    replace D_p := D_p.ext hk
    replace D_q := D_q.ext hk
    have e87 : sl a13 87 = (.int .i64 (x.xs.length)) := e87
    have e88 : sl a13 88 = (.int .i64 (0)) := e88
    replace kw := kw.trans (.of_ext hk)
    clear hrest hk hg hpsi
    refine tail_nil (hK12 _ _ ?_)
    refine wp_block ?_
    refine wp_for (x.xs.length) (fun k a W => a.tmps.size = 107 ∧ a.defers = [] ∧ Keeps All w W ∧ sl a 0 = p ∧ sl a 1 = q ∧ sl a 2 = (.pointer none) ∧ sl a 87 = (.int .i64 (x.xs.length)) ∧ sl a 88 = (.int .i64 ((k : Nat))) ∧ Ref W (SA w S []) (V.d (x)) p ∧ Ref W (SA w S []) (V.d (y)) q ∧ (∀ i (h1 : i < x.xs.length) (h2 : i < y.xs.length), i < k → x.xs[i] = y.xs[i])) ⟨hsz13, hdf13, kw, e0, e1, e2, e87, (e88.trans (congrArg (Value.int .i64) (rfl))), D_p, D_q, fun i h1 h2 hi => absurd hi (by omega)⟩ ?_
    clear kw e0 e1 e2 e87 e88 D_p D_q
    rintro k a14 W14 hkk ⟨hsz14, hdf14, kw, e0, e1, e2, e87, e88, D_p, D_q, hinv⟩
    refine wp_seq_k fun K15 hK15 => ?_
    refine wp_reg All mixed hsz14 hdf14 st_tr trivial ?_
    refine Chain.op (φ := Is (.bool (decide (((k : Nat) : Int) < (x.xs.length : Int))))) (st_is _) (sp_lss (Has.base rfl e88) (Has.base rfl e87)) ?_
    refine Chain.done ⟨by kernel_rfl, fun a16 g W16 hsz16 hdf16 hk hg henv hrest hpsi => ?_⟩
    obtain ⟨e89, -⟩ := henv
    replace e0 := (hrest 0 rfl).trans e0
    replace e1 := (hrest 1 rfl).trans e1
    replace e2 := (hrest 2 rfl).trans e2
    replace e87 := (hrest 87 rfl).trans e87
    replace e88 := (hrest 88 rfl).trans e88
    replace D_p := D_p.ext hk
    replace D_q := D_q.ext hk
    have e89 : sl a16 89 = (.bool (decide (((k : Nat) : Int) < (x.xs.length : Int)))) := e89
    replace kw := kw.trans (.of_ext hk)
    clear hrest hk hg hpsi
    refine tail_nil (hK15 _ _ ?_)
    refine wp_seq_k fun K17 hK17 => ?_
    refine wp_cond_split e89 (fun hc => ?_) (fun hc => ?_)
    · -- T: decide (((k : Nat) : Int) < (x.xs.length : Int))
      have hlt : k < x.xs.length := by simpa using hc
      have hce := cnt_elem hlt
      have hcq := cnt_eq x
      refine wp_skip (hK17 _ _ ?_)
      refine wp_seq_k fun K18 hK18 => ?_
      refine wp_block ?_
      refine wp_seq_k fun K19 hK19 => ?_
      refine wp_reg All mixed hsz16 hdf16 st_tr trivial ?_
      refine Chain.op (φ := Is (.int .i64 ((k : Nat)))) (st_is _) (sp_move (Has.base rfl e88)) ?_
      refine Chain.op (φ := Is (.int .i64 ((k : Nat)))) (st_is _) (sp_assign (Has.loc rfl)) ?_
      refine Chain.done ⟨by kernel_rfl, fun a20 g W20 hsz20 hdf20 hk hg henv hrest hpsi => ?_⟩
      obtain ⟨e7, -, -⟩ := henv
      replace e0 := (hrest 0 rfl).trans e0
      replace e1 := (hrest 1 rfl).trans e1
      replace e2 := (hrest 2 rfl).trans e2
      replace e87 := (hrest 87 rfl).trans e87
      replace e88 := (hrest 88 rfl).trans e88
      replace D_p := D_p.ext hk
      replace D_q := D_q.ext hk
      have e7 : sl a20 7 = (.int .i64 ((k : Nat))) := e7
      replace kw := kw.trans (.of_ext hk)
      clear hrest hk hg hpsi
      refine tail_nil (hK19 _ _ ?_)
      refine wp_seq_k fun K21 hK21 => ?_
      refine wp_reg All mixed hsz20 hdf20 st_tr trivial ?_
      refine Chain.op (φ := Is p) (st_is _) (sp_move (Has.base rfl e0)) ?_
      refine Chain.op (φ := IsR (SA w S []) (V.d (x))) (st_r sub_all) (sp_nilR ((Has.loc rfl).refd D_p sub_all)) ?_
      refine Chain.op (φ := IsR (SA w S []) (valsD (x.xs))) (st_r sub_all) (sp_fieldV (Has.loc rfl) Try.underlying25 rfl sz23 rfl rfl) ?_
      refine Chain.op (φ := IsD (SA w S []) (valsD (x.xs))) (st_d sub_all) (sp_loadR (Has.loc rfl) agg23 sz23 rfl) ?_
      refine Chain.op (φ := Is (.int .i64 ((k : Nat)))) (st_is _) (sp_move (Has.base rfl e7)) ?_
      refine Chain.op (φ := IsR (SA w S []) (V.d (x.xs[k]'hlt))) (st_r sub_all) (sp_indexV (i := k) (Has.loc rfl) (Has.loc rfl) Try.underlying23 sz25 rfl hlt) ?_
      refine Chain.op (φ := Is q) (st_is _) (sp_move (Has.base rfl e1)) ?_
      refine Chain.op (φ := IsR (SA w S []) (V.d (y))) (st_r sub_all) (sp_nilR ((Has.loc rfl).refd D_q sub_all)) ?_
      refine Chain.op (φ := IsR (SA w S []) (valsD (y.xs))) (st_r sub_all) (sp_fieldV (Has.loc rfl) Try.underlying25 rfl sz23 rfl rfl) ?_
      refine Chain.op (φ := IsD (SA w S []) (valsD (y.xs))) (st_d sub_all) (sp_loadR (Has.loc rfl) agg23 sz23 rfl) ?_
      refine Chain.op (φ := Is (.int .i64 ((k : Nat)))) (st_is _) (sp_move (Has.base rfl e7)) ?_
      refine Chain.op (φ := IsR (SA w S []) (V.d (y.xs[k]'(by omega)))) (st_r sub_all) (sp_indexV (i := k) (Has.loc rfl) (Has.loc rfl) Try.underlying23 sz25 rfl (by omega)) ?_
      refine Chain.op (φ := Is (.pointer none)) (st_is _) (sp_move (Has.base rfl e2)) ?_
      refine Chain.op (φ := Is (.bool (V.beq (x.xs[k]'hlt) (y.xs[k]'(by omega))))) (st_is _) (sp_call3 (φ1 := IsR (SA w S []) (V.d (x.xs[k]'hlt))) (φ2 := IsR (SA w S []) (V.d (y.xs[k]'(by omega)))) (φ3 := Is (.pointer none)) ent36 (Has.loc rfl) (Has.loc rfl) (Has.loc rfl) (fun g u1 u2 u3 W hk hgk h1 h2 h3 => by have h3 : u3 = _ := h3; subst u3; exact ih (x.xs[k]'hlt) (y.xs[k]'(by omega)) (by omega) (by omega) W _ _ _ h1 h2)) ?_
      refine Chain.op (φ := Is (.bool (!(V.beq (x.xs[k]'hlt) (y.xs[k]'(by omega)))))) (st_is _) (sp_not (Has.loc rfl)) ?_
      refine Chain.done ⟨by kernel_rfl, fun a22 g W22 hsz22 hdf22 hk hg henv hrest hpsi => ?_⟩
      obtain ⟨e105, -, -, -, -, -, -, -, -, -, -, -, -, -, -, -⟩ := henv
      replace e0 := (hrest 0 rfl).trans e0
      replace e1 := (hrest 1 rfl).trans e1
      replace e2 := (hrest 2 rfl).trans e2
      replace e87 := (hrest 87 rfl).trans e87
      replace e88 := (hrest 88 rfl).trans e88
      replace D_p := D_p.ext hk
      replace D_q := D_q.ext hk
      have e105 : sl a22 105 = (.bool (!(V.beq (x.xs[k]'hlt) (y.xs[k]'(by omega))))) := e105
      replace kw := kw.trans (.of_ext hk)
      clear hrest hk hg hpsi
      refine tail_nil (hK21 _ _ ?_)
      refine wp_cond_split e105 (fun hc => ?_) (fun hc => ?_)
      · -- T: !(V.beq (x.xs[k]'hlt) (y.xs[k]'(by omega)))
        have hfin : V.beq x y = false := beq_false fun h => by subst h; simp [beq_refl] at hc
        refine wp_seq_k fun K23 hK23 => ?_
        refine wp_reg All mixed hsz22 hdf22 st_tr trivial ?_
        refine Chain.op (φ := Is (.bool (false))) (st_is _) (sp_assign Has.cst) ?_
        refine Chain.done ⟨by kernel_rfl, fun a24 g W24 hsz24 hdf24 hk hg henv hrest hpsi => ?_⟩
        obtain ⟨e6, -⟩ := henv
        replace D_p := D_p.ext hk
        replace D_q := D_q.ext hk
        have e6 : sl a24 6 = (.bool (false)) := e6
        replace kw := kw.trans (.of_ext hk)
        clear hrest hk hg hpsi
        refine tail_nil (hK23 _ _ ?_)
        refine wp_ret ?_
        refine (show bodyPost Try.prog Try.f36 _ .ret _ _ from ret1 rfl hdf24 e6 ⟨_, rfl, kw, ?_⟩)
        rw [hfin]
      · -- E: !(V.beq (x.xs[k]'hlt) (y.xs[k]'(by omega)))
        have hk1 : x.xs[k] = y.xs[k] := (beq_iff _ _).1 (by simpa using hc)
        refine wp_skip (hK18 _ _ ?_)
        refine wp_reg All mixed hsz22 hdf22 st_tr trivial ?_
        refine Chain.op (φ := Is (.int .i64 (((k : Nat) : Int) + (1 : Int)))) (st_is _) (sp_add (Has.base rfl e88) Has.cst (i64_in (by omega))) ?_
        refine Chain.op (φ := Is (.int .i64 (((k : Nat) : Int) + (1 : Int)))) (st_is _) (sp_move (Has.loc rfl)) ?_
        refine Chain.done ⟨by kernel_rfl, fun a25 g W25 hsz25 hdf25 hk hg henv hrest hpsi => ?_⟩
        obtain ⟨e88, -, -⟩ := henv
        replace e0 := (hrest 0 rfl).trans e0
        replace e1 := (hrest 1 rfl).trans e1
        replace e2 := (hrest 2 rfl).trans e2
        replace e87 := (hrest 87 rfl).trans e87
        replace D_p := D_p.ext hk
        replace D_q := D_q.ext hk
        have e88 : sl a25 88 = (.int .i64 (((k : Nat) : Int) + (1 : Int))) := e88
        replace kw := kw.trans (.of_ext hk)
        clear hrest hk hg hpsi
        exact tail_nil ⟨hlt, hsz25, hdf25, kw, e0, e1, e2, e87, (e88.trans (congrArg (Value.int .i64) (by simp))), D_p, D_q, fun i h1 h2 hi => by rcases Nat.lt_succ_iff_lt_or_eq.1 hi with h | h; exact hinv i h1 h2 h; subst h; exact hk1⟩
    · -- E: decide (((k : Nat) : Int) < (x.xs.length : Int))
      have hge0 : ¬ k < x.xs.length := by simpa using hc
      have hge : k = x.xs.length := by omega
      have hfin : V.beq x y = true := (beq_iff x y).2 (V.ext (by omega) q2 q3 q4 (List.ext_getElem (by omega) fun i h1 h2 => hinv i h1 h2 (by omega)))
      refine wp_exit (hK11 _ _ ?_)
      refine wp_seq_k fun K26 hK26 => ?_
      refine wp_reg All mixed hsz16 hdf16 st_tr trivial ?_
      refine Chain.op (φ := Is (.bool (true))) (st_is _) (sp_assign Has.cst) ?_
      refine Chain.done ⟨by kernel_rfl, fun a27 g W27 hsz27 hdf27 hk hg henv hrest hpsi => ?_⟩
      obtain ⟨e6, -⟩ := henv
      replace D_p := D_p.ext hk
      replace D_q := D_q.ext hk
      have e6 : sl a27 6 = (.bool (true)) := e6
      replace kw := kw.trans (.of_ext hk)
      clear hrest hk hg hpsi
      refine tail_nil (hK26 _ _ ?_)
      refine wp_ret ?_
      refine (show bodyPost Try.prog Try.f36 _ .ret _ _ from ret1 rfl hdf27 e6 ⟨_, rfl, kw, ?_⟩)
      rw [hfin]

theorem Same_ok (x y : V) (hx : x.cnt ≤ 1073741824) (hy : y.cnt ≤ 1073741824) (w : World) (S : BSet) (v u : Value) (hS : ∀ b o, S b o → Cln o) (hv : Rd w S x.d v) (hu : Rd w S y.d u) : Calls Try.prog 13 #[v, u] w (Ret w fun u _ => u = .bool (V.beq x y)) := by
  have hcx := cnt_eq x
  have hcy := cnt_eq y
  obtain ⟨cn0a, cn0c, ci0a, ci0c, ev, ht0, D_cn0, D_ci0⟩ := rdV_out (rd_arg hv)
  subst ev
  obtain ⟨cn1a, cn1c, ci1a, ci1c, ev, ht1, D_cn1, D_ci1⟩ := rdV_out (rd_arg hu)
  subst ev
  refine enter Try.func13 rfl Try.ntmps13 (Nat.le_of_ble_eq_true rfl) fun a0 hsz0 hdf0 harg => ?_
  have e0 : sl a0 0 = (.agg #[(.int .u8 (x.k)), (.int .i64 (x.n)), (.string (x.t)), (.slice cn0a (x.ns.length) cn0c), (.slice ci0a (x.xs.length) ci0c)]) := harg 0 (Nat.le_of_ble_eq_true rfl)
  have e1 : sl a0 1 = (.agg #[(.int .u8 (y.k)), (.int .i64 (y.n)), (.string (y.t)), (.slice cn1a (y.ns.length) cn1c), (.slice ci1a (y.xs.length) ci1c)]) := harg 1 (Nat.le_of_ble_eq_true rfl)
  have kw := Keeps.refl All w
  clear harg
  refine wp_seq_k fun K1 hK1 => ?_
  refine wp_reg All mixed hsz0 hdf0 st_tr trivial ?_
  refine Chain.boxOp (v := (.agg #[(.int .u8 (x.k)), (.int .i64 (x.n)), (.string (x.t)), (.slice cn0a (x.ns.length) cn0c), (.slice ci0a (x.xs.length) ci0c)])) (Has.base rfl e0) ?_
  refine Chain.boxOp (v := (.agg #[(.int .u8 (y.k)), (.int .i64 (y.n)), (.string (y.t)), (.slice cn1a (y.ns.length) cn1c), (.slice ci1a (y.xs.length) ci1c)])) (Has.base rfl e1) ?_
  refine Chain.op (φ := Is (.bool (false))) (st_is _) (sp_assign Has.cst) ?_
  refine Chain.done ⟨by kernel_rfl, fun a2 g W2 hsz2 hdf2 hk hg henv hrest hpsi => ?_⟩
  obtain ⟨-, ⟨b3_2, e3, hb3, own_b3_2⟩, ⟨b2_2, e2, hb2, own_b2_2⟩, -⟩ := henv
  have lo_b3_2 : w.heap.size ≤ b3_2 := Nat.le_trans kw.size (hg.lo _ _ hb3)
  have own_b3_2 : Own W2 b3_2 [(.int .u8 (y.k)), (.int .i64 (y.n)), (.string (y.t)), (.slice cn1a (y.ns.length) cn1c), (.slice ci1a (y.xs.length) ci1c)] 25 := own_b3_2
  have lo_b2_2 : w.heap.size ≤ b2_2 := Nat.le_trans kw.size (hg.lo _ _ hb2)
  have own_b2_2 : Own W2 b2_2 [(.int .u8 (x.k)), (.int .i64 (x.n)), (.string (x.t)), (.slice cn0a (x.ns.length) cn0c), (.slice ci0a (x.xs.length) ci0c)] 25 := own_b2_2
  have ne_b3_2_b2_2 : b3_2 ≠ b2_2 := fun h => by have := hg.inj _ _ _ hb3 (h ▸ hb2); cases this
  replace D_cn0 := sa_more D_cn0 hk [b3_2, b2_2] (in_cons (hg.lo _ _ hb3) (in_cons (hg.lo _ _ hb2) in_nil))
  replace D_ci0 := sa_more D_ci0 hk [b3_2, b2_2] (in_cons (hg.lo _ _ hb3) (in_cons (hg.lo _ _ hb2) in_nil))
  replace D_cn1 := sa_more D_cn1 hk [b3_2, b2_2] (in_cons (hg.lo _ _ hb3) (in_cons (hg.lo _ _ hb2) in_nil))
  replace D_ci1 := sa_more D_ci1 hk [b3_2, b2_2] (in_cons (hg.lo _ _ hb3) (in_cons (hg.lo _ _ hb2) in_nil))
  replace kw := kw.trans (.of_ext hk)
  clear hrest hk hg hpsi hb3 hb2
  refine tail_nil (hK1 _ _ ?_)
  refine wp_seq_k fun K3 hK3 => ?_
  refine wp_reg All mixed hsz2 hdf2 st_tr trivial ?_
  refine Chain.op (φ := Is (.pointer (some ⟨b2_2, 4, none⟩))) (st_is _) (sp_fieldO (Has.base rfl e2) Try.underlying25 rfl sz23 rfl) ?_
  refine Chain.op (φ := Is (.slice ci0a (x.xs.length) ci0c)) (st_is _) (sp_loadO (v := (.slice ci0a (x.xs.length) ci0c)) (Has.loc rfl) own_b2_2 trivial agg23 sz23 (Nat.le_of_ble_eq_true rfl) (fun h => by first | rfl | cases h) rfl) ?_
  refine Chain.op (φ := Is (.bool (false))) (st_is _) (sp_call4 (φ1 := IsD (SA w S [b3_2, b2_2]) (valsD (x.xs))) (φ2 := Is (.int .i64 (1))) (φ3 := Is (.pointer none)) (φ4 := Is (.bool (false))) ent35 ((Has.loc rfl).dat D_ci0 sub_all) Has.cst Has.cst Has.cst (fun g u1 u2 u3 u4 W hk hgk h1 h2 h3 h4 => by have h2 : u2 = _ := h2; subst u2; have h3 : u3 = _ := h3; subst u3; have h4 : u4 = _ := h4; subst u4; exact endless_all _ (x.xs) (Nat.lt_succ_self _) (1) (by omega) (by omega) (false) _ W _ _ (fun b o h => sa_cln hS b o h.1) h1 (Or.inl rfl))) ?_
  refine Chain.op (φ := Is (.bool (false))) (st_is _) (sp_assign (Has.loc rfl)) ?_
  refine Chain.done ⟨by kernel_rfl, fun a4 g W4 hsz4 hdf4 hk hg henv hrest hpsi => ?_⟩
  obtain ⟨e5, -, -, -, -⟩ := henv
  replace e3 := (hrest 3 rfl).trans e3
  replace e2 := (hrest 2 rfl).trans e2
  replace D_cn0 := D_cn0.ext hk
  replace D_ci0 := D_ci0.ext hk
  replace D_cn1 := D_cn1.ext hk
  replace D_ci1 := D_ci1.ext hk
  have e5 : sl a4 5 = (.bool (false)) := e5
  replace own_b3_2 := own_b3_2.ext hk
  replace own_b2_2 := own_b2_2.ext hk
  replace kw := kw.trans (.of_ext hk)
  clear hrest hk hg hpsi
  refine tail_nil (hK3 _ _ ?_)
  refine wp_seq_k fun K5 hK5 => ?_
  refine wp_seq_k fun K6 hK6 => ?_
  refine wp_reg All mixed hsz4 hdf4 st_tr trivial ?_
  refine Chain.op (φ := Is (.bool (false))) (st_is _) (sp_move (Has.base rfl e5)) ?_
  refine Chain.op (φ := Is (.pointer (some ⟨b3_2, 4, none⟩))) (st_is _) (sp_fieldO (Has.base rfl e3) Try.underlying25 rfl sz23 rfl) ?_
  refine Chain.op (φ := Is (.slice ci1a (y.xs.length) ci1c)) (st_is _) (sp_loadO (v := (.slice ci1a (y.xs.length) ci1c)) (Has.loc rfl) own_b3_2 trivial agg23 sz23 (Nat.le_of_ble_eq_true rfl) (fun h => by first | rfl | cases h) rfl) ?_
  refine Chain.op (φ := Is (.bool (false))) (st_is _) (sp_call4 (φ1 := IsD (SA w S [b3_2, b2_2]) (valsD (y.xs))) (φ2 := Is (.int .i64 (1))) (φ3 := Is (.pointer none)) (φ4 := Is (.bool (false))) ent35 ((Has.loc rfl).dat D_ci1 sub_all) Has.cst Has.cst Has.cst (fun g u1 u2 u3 u4 W hk hgk h1 h2 h3 h4 => by have h2 : u2 = _ := h2; subst u2; have h3 : u3 = _ := h3; subst u3; have h4 : u4 = _ := h4; subst u4; exact endless_all _ (y.xs) (Nat.lt_succ_self _) (1) (by omega) (by omega) (false) _ W _ _ (fun b o h => sa_cln hS b o h.1) h1 (Or.inl rfl))) ?_
  refine Chain.op (φ := Is (.bool (!(false == false)))) (st_is _) (sp_bNeq Try.underlying4 (Has.loc rfl) (Has.loc rfl)) ?_
  refine Chain.done ⟨by kernel_rfl, fun a7 g W7 hsz7 hdf7 hk hg henv hrest hpsi => ?_⟩
  obtain ⟨e14, -, -, -, -, -⟩ := henv
  replace e3 := (hrest 3 rfl).trans e3
  replace e2 := (hrest 2 rfl).trans e2
  replace e5 := (hrest 5 rfl).trans e5
  replace D_cn0 := D_cn0.ext hk
  replace D_ci0 := D_ci0.ext hk
  replace D_cn1 := D_cn1.ext hk
  replace D_ci1 := D_ci1.ext hk
  have e14 : sl a7 14 = (.bool (!(false == false))) := e14
  replace own_b3_2 := own_b3_2.ext hk
  replace own_b2_2 := own_b2_2.ext hk
  replace kw := kw.trans (.of_ext hk)
  clear hrest hk hg hpsi
  refine tail_nil (hK6 _ _ ?_)
  refine wp_cond_false (e14.trans (congrArg Value.bool (by decide))) ?_
  refine wp_skip (hK5 _ _ ?_)
  refine wp_seq_k fun K8 hK8 => ?_
  refine wp_seq_k fun K9 hK9 => ?_
  refine wp_reg All mixed hsz7 hdf7 st_tr trivial ?_
  refine Chain.op (φ := Is (.bool (false))) (st_is _) (sp_move (Has.base rfl e5)) ?_
  refine Chain.done ⟨by kernel_rfl, fun a10 g W10 hsz10 hdf10 hk hg henv hrest hpsi => ?_⟩
  obtain ⟨e15, -⟩ := henv
  replace e3 := (hrest 3 rfl).trans e3
  replace e2 := (hrest 2 rfl).trans e2
  replace D_cn0 := D_cn0.ext hk
  replace D_ci0 := D_ci0.ext hk
  replace D_cn1 := D_cn1.ext hk
  replace D_ci1 := D_ci1.ext hk
  have e15 : sl a10 15 = (.bool (false)) := e15
  replace own_b3_2 := own_b3_2.ext hk
  replace own_b2_2 := own_b2_2.ext hk
  replace kw := kw.trans (.of_ext hk)
  clear hrest hk hg hpsi
  refine tail_nil (hK9 _ _ ?_)
  refine wp_cond_false e15 ?_
  refine wp_skip (hK8 _ _ ?_)
  refine wp_seq_k fun K11 hK11 => ?_
  refine wp_reg All mixed hsz10 hdf10 st_tr trivial ?_
  refine Chain.op (φ := Is (.bool (V.beq (x) (y)))) (st_is _) (sp_call3 (φ1 := IsR (SA w S []) (V.d (x))) (φ2 := IsR (SA w S []) (V.d (y))) (φ3 := Is (.pointer none)) ent36 ((Has.base rfl e2).refB own_b2_2 lo_b2_2 (rdV_in (x := x) ht0 D_cn0 D_ci0 : Rd W10 (SA w S [b3_2, b2_2]) (V.d (x)) _)) ((Has.base rfl e3).refB own_b3_2 lo_b3_2 (rdV_in (x := y) ht1 D_cn1 D_ci1 : Rd W10 (SA w S [b3_2, b2_2]) (V.d (y)) _)) Has.cst (fun g u1 u2 u3 W hk hgk h1 h2 h3 => by have h3 : u3 = _ := h3; subst u3; exact same_all _ (x) (y) (Nat.le_refl _) (by omega) W _ _ _ h1 h2)) ?_
  refine Chain.op (φ := Is (.bool (V.beq (x) (y)))) (st_is _) (sp_assign (Has.loc rfl)) ?_
  refine Chain.done ⟨by kernel_rfl, fun a12 g W12 hsz12 hdf12 hk hg henv hrest hpsi => ?_⟩
  obtain ⟨e4, -, -⟩ := henv
  replace D_cn0 := D_cn0.ext hk
  replace D_ci0 := D_ci0.ext hk
  replace D_cn1 := D_cn1.ext hk
  replace D_ci1 := D_ci1.ext hk
  have e4 : sl a12 4 = (.bool (V.beq (x) (y))) := e4
  replace own_b3_2 := own_b3_2.ext hk
  replace own_b2_2 := own_b2_2.ext hk
  replace kw := kw.trans (.of_ext hk)
  clear hrest hk hg hpsi
  refine tail_nil (hK11 _ _ ?_)
  refine wp_ret ?_
  refine (show bodyPost Try.prog Try.f13 _ .ret _ _ from ret1 rfl hdf12 e4 ⟨_, rfl, kw, ?_⟩)
  exact rfl

theorem Count_ok (x : V) (hx : x.cnt ≤ 1073741824) (w : World) (S : BSet) (v : Value) (hS : ∀ b o, S b o → Cln o) (hv : Rd w S x.d v) : Calls Try.prog 16 #[v] w (Ret w fun u _ => u = .int .i64 x.cnt) := by
  have hcx := cnt_eq x
  obtain ⟨cn0a, cn0c, ci0a, ci0c, ev, ht0, D_cn0, D_ci0⟩ := rdV_out (rd_arg hv)
  subst ev
  refine enter Try.func16 rfl Try.ntmps16 (Nat.le_of_ble_eq_true rfl) fun a0 hsz0 hdf0 harg => ?_
  have e0 : sl a0 0 = (.agg #[(.int .u8 (x.k)), (.int .i64 (x.n)), (.string (x.t)), (.slice cn0a (x.ns.length) cn0c), (.slice ci0a (x.xs.length) ci0c)]) := harg 0 (Nat.le_of_ble_eq_true rfl)
  have kw := Keeps.refl All w
  clear harg
  refine wp_seq_k fun K1 hK1 => ?_
  refine wp_reg All mixed hsz0 hdf0 st_tr trivial ?_
  refine Chain.boxOp (v := (.agg #[(.int .u8 (x.k)), (.int .i64 (x.n)), (.string (x.t)), (.slice cn0a (x.ns.length) cn0c), (.slice ci0a (x.xs.length) ci0c)])) (Has.base rfl e0) ?_
  refine Chain.op (φ := Is (.int .i64 (0))) (st_is _) (sp_assign Has.cst) ?_
  refine Chain.done ⟨by kernel_rfl, fun a2 g W2 hsz2 hdf2 hk hg henv hrest hpsi => ?_⟩
  obtain ⟨-, ⟨b1_2, e1, hb1, own_b1_2⟩, -⟩ := henv
  have lo_b1_2 : w.heap.size ≤ b1_2 := Nat.le_trans kw.size (hg.lo _ _ hb1)
  have own_b1_2 : Own W2 b1_2 [(.int .u8 (x.k)), (.int .i64 (x.n)), (.string (x.t)), (.slice cn0a (x.ns.length) cn0c), (.slice ci0a (x.xs.length) ci0c)] 25 := own_b1_2
  replace D_cn0 := sa_more D_cn0 hk [b1_2] (in_cons (hg.lo _ _ hb1) in_nil)
  replace D_ci0 := sa_more D_ci0 hk [b1_2] (in_cons (hg.lo _ _ hb1) in_nil)
  replace kw := kw.trans (.of_ext hk)
  clear hrest hk hg hpsi hb1
  refine tail_nil (hK1 _ _ ?_)
  refine wp_seq_k fun K3 hK3 => ?_
  refine wp_seq_k fun K4 hK4 => ?_
  refine wp_reg All mixed hsz2 hdf2 st_tr trivial ?_
  refine Chain.op (φ := Is (.pointer (some ⟨b1_2, 4, none⟩))) (st_is _) (sp_fieldO (Has.base rfl e1) Try.underlying25 rfl sz23 rfl) ?_
  refine Chain.op (φ := Is (.slice ci0a (x.xs.length) ci0c)) (st_is _) (sp_loadO (v := (.slice ci0a (x.xs.length) ci0c)) (Has.loc rfl) own_b1_2 trivial agg23 sz23 (Nat.le_of_ble_eq_true rfl) (fun h => by first | rfl | cases h) rfl) ?_
  refine Chain.op (φ := Is (.bool (false))) (st_is _) (sp_call4 (φ1 := IsD (SA w S [b1_2]) (valsD (x.xs))) (φ2 := Is (.int .i64 (1))) (φ3 := Is (.pointer none)) (φ4 := Is (.bool (false))) ent35 ((Has.loc rfl).dat D_ci0 sub_all) Has.cst Has.cst Has.cst (fun g u1 u2 u3 u4 W hk hgk h1 h2 h3 h4 => by have h2 : u2 = _ := h2; subst u2; have h3 : u3 = _ := h3; subst u3; have h4 : u4 = _ := h4; subst u4; exact endless_all _ (x.xs) (Nat.lt_succ_self _) (1) (by omega) (by omega) (false) _ W _ _ (fun b o h => sa_cln hS b o h.1) h1 (Or.inl rfl))) ?_
  refine Chain.done ⟨by kernel_rfl, fun a5 g W5 hsz5 hdf5 hk hg henv hrest hpsi => ?_⟩
  obtain ⟨e5, -, -, -⟩ := henv
  replace e1 := (hrest 1 rfl).trans e1
  replace D_cn0 := D_cn0.ext hk
  replace D_ci0 := D_ci0.ext hk
  have e5 : sl a5 5 = (.bool (false)) := e5
  replace own_b1_2 := own_b1_2.ext hk
  replace kw := kw.trans (.of_ext hk)
  clear hrest hk hg hpsi
  refine tail_nil (hK4 _ _ ?_)
  refine wp_cond_false e5 ?_
  refine wp_skip (hK3 _ _ ?_)
  refine wp_seq_k fun K6 hK6 => ?_
  refine wp_reg All mixed hsz5 hdf5 st_tr trivial ?_
  refine Chain.op (φ := Is (.agg #[(.int .u8 (x.k)), (.int .i64 (x.n)), (.string (x.t)), (.slice cn0a (x.ns.length) cn0c), (.slice ci0a (x.xs.length) ci0c)])) (st_is _) (sp_loadO (v := (.agg #[(.int .u8 (x.k)), (.int .i64 (x.n)), (.string (x.t)), (.slice cn0a (x.ns.length) cn0c), (.slice ci0a (x.xs.length) ci0c)])) (Has.base rfl e1) own_b1_2 trivial agg25 sz25 (Nat.le_of_ble_eq_true rfl) (fun h => by first | rfl | cases h) rfl) ?_
  refine Chain.op (φ := Is (.int .i64 (V.cnt (x)))) (st_is _) (sp_call1 (φ1 := IsD (SA w S [b1_2]) (V.d (x))) ent40 ((Has.loc rfl).dat (rdV_in (x := x) ht0 D_cn0 D_ci0 : Rd W5 (SA w S [b1_2]) (V.d (x)) _) sub_all) (fun g u1 W hk hgk h1 => count_all _ (x) (Nat.le_refl _) (by omega) W _ _ h1)) ?_
  refine Chain.op (φ := Is (.int .i64 (V.cnt (x)))) (st_is _) (sp_assign (Has.loc rfl)) ?_
  refine Chain.done ⟨by kernel_rfl, fun a7 g W7 hsz7 hdf7 hk hg henv hrest hpsi => ?_⟩
  obtain ⟨e2, -, -, -⟩ := henv
  replace D_cn0 := D_cn0.ext hk
  replace D_ci0 := D_ci0.ext hk
  have e2 : sl a7 2 = (.int .i64 (V.cnt (x))) := e2
  replace own_b1_2 := own_b1_2.ext hk
  replace kw := kw.trans (.of_ext hk)
  clear hrest hk hg hpsi
  refine tail_nil (hK6 _ _ ?_)
  refine wp_ret ?_
  refine (show bodyPost Try.prog Try.f16 _ .ret _ _ from ret1 rfl hdf7 e2 ⟨_, rfl, kw, ?_⟩)
  exact rfl

theorem Depth_ok (x : V) (hx : x.cnt ≤ 1073741824) (w : World) (S : BSet) (v : Value) (hS : ∀ b o, S b o → Cln o) (hv : Rd w S x.d v) : Calls Try.prog 17 #[v] w (Ret w fun u _ => u = .int .i64 x.dep) := by
  have hcx := cnt_eq x
  obtain ⟨cn0a, cn0c, ci0a, ci0c, ev, ht0, D_cn0, D_ci0⟩ := rdV_out (rd_arg hv)
  subst ev
  refine enter Try.func17 rfl Try.ntmps17 (Nat.le_of_ble_eq_true rfl) fun a0 hsz0 hdf0 harg => ?_
  have e0 : sl a0 0 = (.agg #[(.int .u8 (x.k)), (.int .i64 (x.n)), (.string (x.t)), (.slice cn0a (x.ns.length) cn0c), (.slice ci0a (x.xs.length) ci0c)]) := harg 0 (Nat.le_of_ble_eq_true rfl)
  have kw := Keeps.refl All w
  clear harg
  refine wp_seq_k fun K1 hK1 => ?_
  refine wp_reg All mixed hsz0 hdf0 st_tr trivial ?_
  refine Chain.boxOp (v := (.agg #[(.int .u8 (x.k)), (.int .i64 (x.n)), (.string (x.t)), (.slice cn0a (x.ns.length) cn0c), (.slice ci0a (x.xs.length) ci0c)])) (Has.base rfl e0) ?_
  refine Chain.op (φ := Is (.int .i64 (0))) (st_is _) (sp_assign Has.cst) ?_
  refine Chain.done ⟨by kernel_rfl, fun a2 g W2 hsz2 hdf2 hk hg henv hrest hpsi => ?_⟩
  obtain ⟨-, ⟨b1_2, e1, hb1, own_b1_2⟩, -⟩ := henv
  have lo_b1_2 : w.heap.size ≤ b1_2 := Nat.le_trans kw.size (hg.lo _ _ hb1)
  have own_b1_2 : Own W2 b1_2 [(.int .u8 (x.k)), (.int .i64 (x.n)), (.string (x.t)), (.slice cn0a (x.ns.length) cn0c), (.slice ci0a (x.xs.length) ci0c)] 25 := own_b1_2
  replace D_cn0 := sa_more D_cn0 hk [b1_2] (in_cons (hg.lo _ _ hb1) in_nil)
  replace D_ci0 := sa_more D_ci0 hk [b1_2] (in_cons (hg.lo _ _ hb1) in_nil)
  replace kw := kw.trans (.of_ext hk)
  clear hrest hk hg hpsi hb1
  refine tail_nil (hK1 _ _ ?_)
  refine wp_seq_k fun K3 hK3 => ?_
  refine wp_seq_k fun K4 hK4 => ?_
  refine wp_reg All mixed hsz2 hdf2 st_tr trivial ?_
  refine Chain.op (φ := Is (.pointer (some ⟨b1_2, 0, none⟩))) (st_is _) (sp_fieldO (Has.base rfl e1) Try.underlying25 rfl sz5 rfl) ?_
  refine Chain.op (φ := Is (.int .u8 (x.k))) (st_is _) (sp_loadO (v := (.int .u8 (x.k))) (Has.loc rfl) own_b1_2 trivial agg5 sz5 (Nat.le_of_ble_eq_true rfl) (fun h => by first | rfl | cases h) rfl) ?_
  refine Chain.op (φ := Is (.bool ((x.k : Int) != (4 : Int)))) (st_is _) (sp_neq (Has.loc rfl) Has.cst) ?_
  refine Chain.op (φ := Is (.bool ((x.k : Int) != (4 : Int)))) (st_is _) (sp_move (Has.loc rfl)) ?_
  refine Chain.opE (t := 6) (x := (x.k : Int) != (4 : Int)) (φ := Is (.pointer (some ⟨b1_2, 0, none⟩))) rfl (Has.loc rfl) (st_is _) (fun hg => sp_fieldO (Has.base rfl e1) Try.underlying25 rfl sz5 rfl) ?_
  refine Chain.opE (t := 6) (x := (x.k : Int) != (4 : Int)) (φ := Is (.int .u8 (x.k))) rfl (Has.loc rfl) (st_is _) (fun hg => sp_loadO (v := (.int .u8 (x.k))) ((Has.loc rfl).undE hg) own_b1_2 trivial agg5 sz5 (Nat.le_of_ble_eq_true rfl) (fun h => by first | rfl | cases h) rfl) ?_
  refine Chain.opE (t := 6) (x := (x.k : Int) != (4 : Int)) (φ := Is (.bool ((x.k : Int) != (5 : Int)))) rfl (Has.loc rfl) (st_is _) (fun hg => sp_neq ((Has.loc rfl).undE hg) Has.cst) ?_
  refine Chain.op (φ := Is (.bool (((x.k : Int) != (4 : Int)) && ((x.k : Int) != (5 : Int))))) (st_is _) (sp_and (Has.loc rfl) ((Has.loc rfl).weak fun hq => hq)) ?_
  refine Chain.done ⟨by kernel_rfl, fun a5 g W5 hsz5 hdf5 hk hg henv hrest hpsi => ?_⟩
  obtain ⟨e10, -, -, -, -, -, -, -, -⟩ := henv
  replace e1 := (hrest 1 rfl).trans e1
  replace D_cn0 := D_cn0.ext hk
  replace D_ci0 := D_ci0.ext hk
  have e10 : sl a5 10 = (.bool (((x.k : Int) != (4 : Int)) && ((x.k : Int) != (5 : Int)))) := e10
  replace own_b1_2 := own_b1_2.ext hk
  replace kw := kw.trans (.of_ext hk)
  clear hrest hk hg hpsi
  refine tail_nil (hK4 _ _ ?_)
  refine wp_cond_split e10 (fun hc => ?_) (fun hc => ?_)
  · -- T: ((x.k : Int) != (4 : Int)) && ((x.k : Int) != (5 : Int))
    have hfin : x.dep = 0 := by simp at hc; rw [dep_eq, if_neg (by omega)]
    refine wp_seq_k fun K6 hK6 => ?_
    refine wp_reg All mixed hsz5 hdf5 st_tr trivial ?_
    refine Chain.op (φ := Is (.int .i64 (0))) (st_is _) (sp_assign Has.cst) ?_
    refine Chain.done ⟨by kernel_rfl, fun a7 g W7 hsz7 hdf7 hk hg henv hrest hpsi => ?_⟩
    obtain ⟨e2, -⟩ := henv
    replace D_cn0 := D_cn0.ext hk
    replace D_ci0 := D_ci0.ext hk
    have e2 : sl a7 2 = (.int .i64 (0)) := e2
    replace own_b1_2 := own_b1_2.ext hk
    replace kw := kw.trans (.of_ext hk)
    clear hrest hk hg hpsi
    refine tail_nil (hK6 _ _ ?_)
    refine wp_ret ?_
    refine (show bodyPost Try.prog Try.f17 _ .ret _ _ from ret1 rfl hdf7 e2 ⟨_, rfl, kw, ?_⟩)
    first | rfl | (rw [hfin]; rfl)
  · -- E: ((x.k : Int) != (4 : Int)) && ((x.k : Int) != (5 : Int))
    have hfin : x.dep = x.dep := rfl
    refine wp_skip (hK3 _ _ ?_)
    refine wp_seq_k fun K8 hK8 => ?_
    refine wp_seq_k fun K9 hK9 => ?_
    refine wp_reg All mixed hsz5 hdf5 st_tr trivial ?_
    refine Chain.op (φ := Is (.pointer (some ⟨b1_2, 4, none⟩))) (st_is _) (sp_fieldO (Has.base rfl e1) Try.underlying25 rfl sz23 rfl) ?_
    refine Chain.op (φ := Is (.slice ci0a (x.xs.length) ci0c)) (st_is _) (sp_loadO (v := (.slice ci0a (x.xs.length) ci0c)) (Has.loc rfl) own_b1_2 trivial agg23 sz23 (Nat.le_of_ble_eq_true rfl) (fun h => by first | rfl | cases h) rfl) ?_
    refine Chain.op (φ := Is (.bool (false))) (st_is _) (sp_call4 (φ1 := IsD (SA w S [b1_2]) (valsD (x.xs))) (φ2 := Is (.int .i64 (1))) (φ3 := Is (.pointer none)) (φ4 := Is (.bool (true))) ent35 ((Has.loc rfl).dat D_ci0 sub_all) Has.cst Has.cst Has.cst (fun g u1 u2 u3 u4 W hk hgk h1 h2 h3 h4 => by have h2 : u2 = _ := h2; subst u2; have h3 : u3 = _ := h3; subst u3; have h4 : u4 = _ := h4; subst u4; exact endless_all _ (x.xs) (Nat.lt_succ_self _) (1) (by omega) (by omega) (true) _ W _ _ (fun b o h => sa_cln hS b o h.1) h1 (Or.inl rfl))) ?_
    refine Chain.done ⟨by kernel_rfl, fun a10 g W10 hsz10 hdf10 hk hg henv hrest hpsi => ?_⟩
    obtain ⟨e13, -, -, -⟩ := henv
    replace e1 := (hrest 1 rfl).trans e1
    replace D_cn0 := D_cn0.ext hk
    replace D_ci0 := D_ci0.ext hk
    have e13 : sl a10 13 = (.bool (false)) := e13
    replace own_b1_2 := own_b1_2.ext hk
    replace kw := kw.trans (.of_ext hk)
    clear hrest hk hg hpsi
    refine tail_nil (hK9 _ _ ?_)
    refine wp_cond_false e13 ?_
    refine wp_skip (hK8 _ _ ?_)
    refine wp_seq_k fun K11 hK11 => ?_
    refine wp_reg All mixed hsz10 hdf10 st_tr trivial ?_
    refine Chain.op (φ := Is (.agg #[(.int .u8 (x.k)), (.int .i64 (x.n)), (.string (x.t)), (.slice cn0a (x.ns.length) cn0c), (.slice ci0a (x.xs.length) ci0c)])) (st_is _) (sp_loadO (v := (.agg #[(.int .u8 (x.k)), (.int .i64 (x.n)), (.string (x.t)), (.slice cn0a (x.ns.length) cn0c), (.slice ci0a (x.xs.length) ci0c)])) (Has.base rfl e1) own_b1_2 trivial agg25 sz25 (Nat.le_of_ble_eq_true rfl) (fun h => by first | rfl | cases h) rfl) ?_
    refine Chain.op (φ := Is (.int .i64 (V.dep (x)))) (st_is _) (sp_call1 (φ1 := IsD (SA w S [b1_2]) (V.d (x))) ent41 ((Has.loc rfl).dat (rdV_in (x := x) ht0 D_cn0 D_ci0 : Rd W10 (SA w S [b1_2]) (V.d (x)) _) sub_all) (fun g u1 W hk hgk h1 => depth_all _ (x) (Nat.le_refl _) (by omega) W _ _ h1)) ?_
    refine Chain.op (φ := Is (.int .i64 (V.dep (x)))) (st_is _) (sp_assign (Has.loc rfl)) ?_
    refine Chain.done ⟨by kernel_rfl, fun a12 g W12 hsz12 hdf12 hk hg henv hrest hpsi => ?_⟩
    obtain ⟨e2, -, -, -⟩ := henv
    replace D_cn0 := D_cn0.ext hk
    replace D_ci0 := D_ci0.ext hk
    have e2 : sl a12 2 = (.int .i64 (V.dep (x))) := e2
    replace own_b1_2 := own_b1_2.ext hk
    replace kw := kw.trans (.of_ext hk)
    clear hrest hk hg hpsi
    refine tail_nil (hK11 _ _ ?_)
    refine wp_ret ?_
    refine (show bodyPost Try.prog Try.f17 _ .ret _ _ from ret1 rfl hdf12 e2 ⟨_, rfl, kw, ?_⟩)
    first | rfl | (rw [hfin]; rfl)

end Go.Proofs.Ytkhnemiflpjbpaa
