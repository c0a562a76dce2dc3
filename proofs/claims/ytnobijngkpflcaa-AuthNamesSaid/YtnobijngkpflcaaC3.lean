import Derived.Test.YtnobijngkpflcaaC2
namespace Go.Proofs.Ytnobijngkpflcaa
open Go.Eng
set_option maxRecDepth 100000 in
theorem same_all : ∀ (n : Nat) (x y : V), x.cnt ≤ n → n ≤ 1073741824 → ∀ (w : World) (S : BSet) (p q : Value), Ref w S x.d p → Ref w S y.d q → Calls Try.prog 148 #[p, q, .pointer none] w (Ret w fun u _ => u = .bool (V.beq x y)) := by
  intro n
  induction n with
  | zero => intro x y hx; cases x; simp [V.cnt] at hx
  | succ n ih =>
  intro x y hx hn w S p q hp hq
  have hlx := len_cnts x.xs
  have hcx := cnt_eq x
  have D_p := ref_arg hp
  have D_q := ref_arg hq
  refine enter Try.func148 rfl Try.ntmps148 (lbr rfl) fun a0 y0 zz0 harg => ?_
  have e0 : sl a0 0 = p := harg 0 (lbr rfl)
  have e1 : sl a0 1 = q := harg 1 (lbr rfl)
  have e2 : sl a0 2 = (.pointer none) := harg 2 (lbr rfl)
  have kw := Keeps.refl All w
  clear harg
  refine wp_seq_k fun K1 hK1 => ?_
  refine rg mixed y0 zz0 ?_
  refine .i (sp_assign Has.cst) ?_
  refine .done ⟨by kernel_rfl, fun a2 g W2 y2 zz2 hk hg hV hR hP => ?_⟩
  obtain ⟨-, -⟩ := hV
  replace e0 := (hR 0 rfl).trans e0
  replace e1 := (hR 1 rfl).trans e1
  replace e2 := (hR 2 rfl).trans e2
  replace D_p := D_p.ext hk
  replace D_q := D_q.ext hk
  replace kw := kw.x hk
  clear hR hk hg hP
  refine tail_nil (hK1 _ _ ?_)
  refine wp_seq_k fun K3 hK3 => ?_
  refine wp_seq_k fun K4 hK4 => ?_
  refine rg mixed y2 zz2 ?_
  refine .i (sp_move (hbs rfl e0)) ?_
  refine .rf (sp_nilR ((hlc rfl).refd D_p sub_all)) ?_
  refine .rf (X := SA w S []) (e := D.int .u8 (x.k)) (sp_fieldV (hlc rfl) Try.underlying33 rfl sz5 rfl rfl) ?_
  refine .i (sp_loadInt (hlc rfl) agg5 sz5) ?_
  refine .i (sp_move (hbs rfl e1)) ?_
  refine .rf (sp_nilR ((hlc rfl).refd D_q sub_all)) ?_
  refine .rf (X := SA w S []) (e := D.int .u8 (y.k)) (sp_fieldV (hlc rfl) Try.underlying33 rfl sz5 rfl rfl) ?_
  refine .i (sp_loadInt (hlc rfl) agg5 sz5) ?_
  refine .i (sp_neq (hlc rfl) (hlc rfl)) ?_
  refine .i (sp_move (hlc rfl)) ?_
  refine .e (t := 17) rfl (hlc rfl) (fun hg => sp_move (hbs rfl e0)) ?_
  refine .opE (t := 17) (φ := IsR (SA w S []) (V.d (x))) rfl (hlc rfl) (st_r sub_all) (fun hg => sp_nilR (((hlc rfl).undE hg).refd D_p sub_all)) ?_
  refine .opE (t := 17) (φ := IsR (SA w S []) (D.int .i64 (x.n))) rfl (hlc rfl) (st_r sub_all) (fun hg => sp_fieldV ((hlc rfl).undE hg) Try.underlying33 rfl sz2 rfl rfl) ?_
  refine .e (t := 17) rfl (hlc rfl) (fun hg => sp_loadInt ((hlc rfl).undE hg) agg2 sz2) ?_
  refine .e (t := 17) rfl (hlc rfl) (fun hg => sp_move (hbs rfl e1)) ?_
  refine .opE (t := 17) (φ := IsR (SA w S []) (V.d (y))) rfl (hlc rfl) (st_r sub_all) (fun hg => sp_nilR (((hlc rfl).undE hg).refd D_q sub_all)) ?_
  refine .opE (t := 17) (φ := IsR (SA w S []) (D.int .i64 (y.n))) rfl (hlc rfl) (st_r sub_all) (fun hg => sp_fieldV ((hlc rfl).undE hg) Try.underlying33 rfl sz2 rfl rfl) ?_
  refine .e (t := 17) rfl (hlc rfl) (fun hg => sp_loadInt ((hlc rfl).undE hg) agg2 sz2) ?_
  refine .e (t := 17) rfl (hlc rfl) (fun hg => sp_neq ((hlc rfl).undE hg) ((hlc rfl).undE hg)) ?_
  refine .i (sp_or (hlc rfl) ((hlc rfl).weak fun hq => hq)) ?_
  refine .i (sp_move (hlc rfl)) ?_
  refine .e (t := 28) rfl (hlc rfl) (fun hg => sp_move (hbs rfl e0)) ?_
  refine .opE (t := 28) (φ := IsR (SA w S []) (V.d (x))) rfl (hlc rfl) (st_r sub_all) (fun hg => sp_nilR (((hlc rfl).undE hg).refd D_p sub_all)) ?_
  refine .opE (t := 28) (φ := IsR (SA w S []) (D.str (x.t))) rfl (hlc rfl) (st_r sub_all) (fun hg => sp_fieldV ((hlc rfl).undE hg) Try.underlying33 rfl sz9 rfl rfl) ?_
  refine .e (t := 28) rfl (hlc rfl) (fun hg => sp_loadStr ((hlc rfl).undE hg) agg9 sz9) ?_
  refine .e (t := 28) rfl (hlc rfl) (fun hg => sp_move (hbs rfl e1)) ?_
  refine .opE (t := 28) (φ := IsR (SA w S []) (V.d (y))) rfl (hlc rfl) (st_r sub_all) (fun hg => sp_nilR (((hlc rfl).undE hg).refd D_q sub_all)) ?_
  refine .opE (t := 28) (φ := IsR (SA w S []) (D.str (y.t))) rfl (hlc rfl) (st_r sub_all) (fun hg => sp_fieldV ((hlc rfl).undE hg) Try.underlying33 rfl sz9 rfl rfl) ?_
  refine .e (t := 28) rfl (hlc rfl) (fun hg => sp_loadStr ((hlc rfl).undE hg) agg9 sz9) ?_
  refine .e (t := 28) rfl (hlc rfl) (fun hg => sp_sNeq ((hlc rfl).undE hg) ((hlc rfl).undE hg)) ?_
  refine .i (sp_or (hlc rfl) ((hlc rfl).weak fun hq => hq)) ?_
  refine .i (sp_move (hlc rfl)) ?_
  refine .e (t := 39) rfl (hlc rfl) (fun hg => sp_move (hbs rfl e0)) ?_
  refine .opE (t := 39) (φ := IsR (SA w S []) (V.d (x))) rfl (hlc rfl) (st_r sub_all) (fun hg => sp_nilR (((hlc rfl).undE hg).refd D_p sub_all)) ?_
  refine .opE (t := 39) (φ := IsR (SA w S []) (strsD (x.ns))) rfl (hlc rfl) (st_r sub_all) (fun hg => sp_fieldV ((hlc rfl).undE hg) Try.underlying33 rfl sz23 rfl rfl) ?_
  refine .opE (t := 39) (φ := IsD (SA w S []) (strsD (x.ns))) rfl (hlc rfl) (st_d sub_all) (fun hg => sp_loadR ((hlc rfl).undE hg) agg23 sz23 rfl) ?_
  refine .e (t := 39) rfl (hlc rfl) (fun hg => sp_move (hbs rfl e1)) ?_
  refine .opE (t := 39) (φ := IsR (SA w S []) (V.d (y))) rfl (hlc rfl) (st_r sub_all) (fun hg => sp_nilR (((hlc rfl).undE hg).refd D_q sub_all)) ?_
  refine .opE (t := 39) (φ := IsR (SA w S []) (strsD (y.ns))) rfl (hlc rfl) (st_r sub_all) (fun hg => sp_fieldV ((hlc rfl).undE hg) Try.underlying33 rfl sz23 rfl rfl) ?_
  refine .opE (t := 39) (φ := IsD (SA w S []) (strsD (y.ns))) rfl (hlc rfl) (st_d sub_all) (fun hg => sp_loadR ((hlc rfl).undE hg) agg23 sz23 rfl) ?_
  refine .e (t := 39) (v := (.bool (decide (x.ns = y.ns)))) rfl (hlc rfl) (fun hg => sp_call2 (φ1 := IsD (SA w S []) (strsD (x.ns))) (φ2 := IsD (SA w S []) (strsD (y.ns))) ent127 ((hlc rfl).undE hg) ((hlc rfl).undE hg) (fun g u1 u2 W hk hgk h1 h2 => equal_ok (x.ns) (y.ns) W _ _ _ h1 h2)) ?_
  refine .e (t := 39) rfl (hlc rfl) (fun hg => sp_not ((hlc rfl).undE hg)) ?_
  refine .i (sp_or (hlc rfl) ((hlc rfl).weak fun hq => hq)) ?_
  refine .i (sp_move (hlc rfl)) ?_
  refine .e (t := 51) rfl (hlc rfl) (fun hg => sp_move (hbs rfl e0)) ?_
  refine .opE (t := 51) (φ := IsR (SA w S []) (V.d (x))) rfl (hlc rfl) (st_r sub_all) (fun hg => sp_nilR (((hlc rfl).undE hg).refd D_p sub_all)) ?_
  refine .opE (t := 51) (φ := IsR (SA w S []) (valsD (x.xs))) rfl (hlc rfl) (st_r sub_all) (fun hg => sp_fieldV ((hlc rfl).undE hg) Try.underlying33 rfl sz31 rfl rfl) ?_
  refine .opE (t := 51) (φ := IsD (SA w S []) (valsD (x.xs))) rfl (hlc rfl) (st_d sub_all) (fun hg => sp_loadR ((hlc rfl).undE hg) agg31 sz31 rfl) ?_
  refine .e (t := 51) rfl (hlc rfl) (fun hg => sp_lenVs Try.underlying31 ((hlc rfl).undE hg)) ?_
  refine .e (t := 51) rfl (hlc rfl) (fun hg => sp_move (hbs rfl e1)) ?_
  refine .opE (t := 51) (φ := IsR (SA w S []) (V.d (y))) rfl (hlc rfl) (st_r sub_all) (fun hg => sp_nilR (((hlc rfl).undE hg).refd D_q sub_all)) ?_
  refine .opE (t := 51) (φ := IsR (SA w S []) (valsD (y.xs))) rfl (hlc rfl) (st_r sub_all) (fun hg => sp_fieldV ((hlc rfl).undE hg) Try.underlying33 rfl sz31 rfl rfl) ?_
  refine .opE (t := 51) (φ := IsD (SA w S []) (valsD (y.xs))) rfl (hlc rfl) (st_d sub_all) (fun hg => sp_loadR ((hlc rfl).undE hg) agg31 sz31 rfl) ?_
  refine .e (t := 51) rfl (hlc rfl) (fun hg => sp_lenVs Try.underlying31 ((hlc rfl).undE hg)) ?_
  refine .e (t := 51) rfl (hlc rfl) (fun hg => sp_neq ((hlc rfl).undE hg) ((hlc rfl).undE hg)) ?_
  refine .i (sp_or (hlc rfl) ((hlc rfl).weak fun hq => hq)) ?_
  refine .done ⟨by kernel_rfl, fun a5 g W5 y5 zz5 hk hg hV hR hP => ?_⟩
  obtain ⟨e63, -, -, -, -, -, -, -, -, -, -, -, -, -, -, -, -, -, -, -, -, -, -, -, -, -, -, -, -, -, -, -, -, -, -, -, -, -, -, -, -, -, -, -, -, -, -, -, -, -, -, -, -, -, -, -, -⟩ := hV
  replace e0 := (hR 0 rfl).trans e0
  replace e1 := (hR 1 rfl).trans e1
  replace e2 := (hR 2 rfl).trans e2
  replace D_p := D_p.ext hk
  replace D_q := D_q.ext hk
  replace e63 := e63.q
  replace kw := kw.x hk
  clear hR hk hg hP
  refine tail_nil (hK4 _ _ ?_)
  refine wp_cond_split e63 (fun hc => ?_) (fun hc => ?_)
  ·
   have hfin : V.beq x y = false := beq_false fun h => by subst h; simp at hc
   refine wp_seq_k fun K6 hK6 => ?_
   refine rg mixed y5 zz5 ?_
   refine .i (sp_assign Has.cst) ?_
   refine .done ⟨by kernel_rfl, fun a7 g W7 y7 zz7 hk hg hV hR hP => ?_⟩
   obtain ⟨e6, -⟩ := hV
   replace D_p := D_p.ext hk
   replace D_q := D_q.ext hk
   have e6 : sl a7 6 = (.bool (false)) := e6
   replace kw := kw.x hk
   clear hR hk hg hP
   refine tail_nil (hK6 _ _ ?_)
   refine wp_ret ?_
   refine (show bodyPost Try.prog Try.f148 _ .ret _ _ from ret1 rfl zz7 e6 ⟨_, rfl, kw, ?_⟩)
   rw [hfin]
  ·
   simp at hc
   obtain ⟨⟨⟨⟨q1, q2⟩, q3⟩, q4⟩, q5⟩ := hc
   refine wp_skip (hK3 _ _ ?_)
   refine wp_seq_k fun K8 hK8 => ?_
   refine wp_seq_k fun K9 hK9 => ?_
   refine rg mixed y5 zz5 ?_
   refine .i (sp_move (hbs rfl e2)) ?_
   refine .i (v := (.bool (false))) (sp_nilNeq Try.underlying187 (hlc rfl) Has.cst (by simp) rfl) ?_
   refine .done ⟨by kernel_rfl, fun a10 g W10 y10 zz10 hk hg hV hR hP => ?_⟩
   obtain ⟨e65, -, -⟩ := hV
   replace e0 := (hR 0 rfl).trans e0
   replace e1 := (hR 1 rfl).trans e1
   replace e2 := (hR 2 rfl).trans e2
   replace D_p := D_p.ext hk
   replace D_q := D_q.ext hk
   have e65 : sl a10 65 = (.bool (false)) := e65
   replace kw := kw.x hk
   clear hR hk hg hP
   refine tail_nil (hK9 _ _ ?_)
   refine wp_cond_false e65 ?_
   refine wp_skip (hK8 _ _ ?_)
   refine wp_seq_k fun K11 hK11 => ?_
   refine wp_seq_k fun K12 hK12 => ?_
   refine rg mixed y10 zz10 ?_
   refine .i (sp_move (hbs rfl e0)) ?_
   refine .rf (sp_nilR ((hlc rfl).refd D_p sub_all)) ?_
   refine .rf (X := SA w S []) (e := valsD (x.xs)) (sp_fieldV (hlc rfl) Try.underlying33 rfl sz31 rfl rfl) ?_
   refine .da (X := SA w S []) (e := valsD (x.xs)) (sp_loadR (hlc rfl) agg31 sz31 rfl) ?_
   refine .i (sp_lenVs Try.underlying31 (hlc rfl)) ?_
   refine .i (sp_move Has.cst) ?_
   refine .done ⟨by kernel_rfl, fun a13 g W13 y13 zz13 hk hg hV hR hP => ?_⟩
   obtain ⟨e88, e87, -, -, -, -, -⟩ := hV
   replace e0 := (hR 0 rfl).trans e0
   replace e1 := (hR 1 rfl).trans e1
   replace e2 := (hR 2 rfl).trans e2
   replace D_p := D_p.ext hk
   replace D_q := D_q.ext hk
   have e87 : sl a13 87 = (.int .i64 (x.xs.length)) := e87
   have e88 : sl a13 88 = (.int .i64 (0)) := e88
   replace kw := kw.x hk
   clear hR hk hg hP
   refine tail_nil (hK12 _ _ ?_)
   refine wp_block ?_
   refine wp_for (x.xs.length) (fun k a W => a.tmps.size = 107 ∧ a.defers = [] ∧ Keeps All w W ∧ sl a 0 = p ∧ sl a 1 = q ∧ sl a 2 = (.pointer none) ∧ sl a 87 = (.int .i64 (x.xs.length)) ∧ sl a 88 = (.int .i64 ((k : Nat))) ∧ Ref W (SA w S []) (V.d (x)) p ∧ Ref W (SA w S []) (V.d (y)) q ∧ (∀ i (h1 : i < x.xs.length) (h2 : i < y.xs.length), i < k → x.xs[i] = y.xs[i])) ⟨y13, zz13, kw, e0, e1, e2, e87, (e88.trans (congrArg (Value.int .i64) (rfl))), D_p, D_q, fun i h1 h2 hi => absurd hi (by omega)⟩ ?_
   clear kw e0 e1 e2 e87 e88 D_p D_q
   rintro k a14 W14 hkk ⟨y14, zz14, kw, e0, e1, e2, e87, e88, D_p, D_q, hinv⟩
   refine wp_seq_k fun K15 hK15 => ?_
   refine rg mixed y14 zz14 ?_
   refine .i (sp_lss (hbs rfl e88) (hbs rfl e87)) ?_
   refine .done ⟨by kernel_rfl, fun a16 g W16 y16 zz16 hk hg hV hR hP => ?_⟩
   obtain ⟨e89, -⟩ := hV
   replace e0 := (hR 0 rfl).trans e0
   replace e1 := (hR 1 rfl).trans e1
   replace e2 := (hR 2 rfl).trans e2
   replace e87 := (hR 87 rfl).trans e87
   replace e88 := (hR 88 rfl).trans e88
   replace D_p := D_p.ext hk
   replace D_q := D_q.ext hk
   replace e89 := e89.q
   replace kw := kw.x hk
   clear hR hk hg hP
   refine tail_nil (hK15 _ _ ?_)
   refine wp_seq_k fun K17 hK17 => ?_
   refine wp_cond_split e89 (fun hc => ?_) (fun hc => ?_)
   ·
    have hlt : k < x.xs.length := by simpa using hc
    have hce := cnt_elem hlt
    have hcq := cnt_eq x
    refine wp_skip (hK17 _ _ ?_)
    refine wp_seq_k fun K18 hK18 => ?_
    refine wp_block ?_
    refine wp_seq_k fun K19 hK19 => ?_
    refine rg mixed y16 zz16 ?_
    refine .i (sp_move (hbs rfl e88)) ?_
    refine .i (sp_assign (hlc rfl)) ?_
    refine .done ⟨by kernel_rfl, fun a20 g W20 y20 zz20 hk hg hV hR hP => ?_⟩
    obtain ⟨e7, -, -⟩ := hV
    replace e0 := (hR 0 rfl).trans e0
    replace e1 := (hR 1 rfl).trans e1
    replace e2 := (hR 2 rfl).trans e2
    replace e87 := (hR 87 rfl).trans e87
    replace e88 := (hR 88 rfl).trans e88
    replace D_p := D_p.ext hk
    replace D_q := D_q.ext hk
    have e7 : sl a20 7 = (.int .i64 ((k : Nat))) := e7
    replace kw := kw.x hk
    clear hR hk hg hP
    refine tail_nil (hK19 _ _ ?_)
    refine wp_seq_k fun K21 hK21 => ?_
    refine rg mixed y20 zz20 ?_
    refine .i (sp_move (hbs rfl e0)) ?_
    refine .rf (sp_nilR ((hlc rfl).refd D_p sub_all)) ?_
    refine .rf (X := SA w S []) (e := valsD (x.xs)) (sp_fieldV (hlc rfl) Try.underlying33 rfl sz31 rfl rfl) ?_
    refine .da (X := SA w S []) (e := valsD (x.xs)) (sp_loadR (hlc rfl) agg31 sz31 rfl) ?_
    refine .i (sp_move (hbs rfl e7)) ?_
    refine .rf (sp_indexV (i := k) (hlc rfl) (hlc rfl) Try.underlying31 sz33 rfl hlt) ?_
    refine .i (sp_move (hbs rfl e1)) ?_
    refine .rf (sp_nilR ((hlc rfl).refd D_q sub_all)) ?_
    refine .rf (X := SA w S []) (e := valsD (y.xs)) (sp_fieldV (hlc rfl) Try.underlying33 rfl sz31 rfl rfl) ?_
    refine .da (X := SA w S []) (e := valsD (y.xs)) (sp_loadR (hlc rfl) agg31 sz31 rfl) ?_
    refine .i (sp_move (hbs rfl e7)) ?_
    refine .rf (sp_indexV (i := k) (hlc rfl) (hlc rfl) Try.underlying31 sz33 rfl (by omega)) ?_
    refine .i (sp_move (hbs rfl e2)) ?_
    refine .i (v := (.bool (V.beq (x.xs[k]'hlt) (y.xs[k]'(by omega))))) (sp_call3 (φ1 := IsR (SA w S []) (V.d (x.xs[k]'hlt))) (φ2 := IsR (SA w S []) (V.d (y.xs[k]'(by omega)))) (φ3 := Is (.pointer none)) ent148 (hlc rfl) (hlc rfl) (hlc rfl) (fun g u1 u2 u3 W hk hgk h1 h2 h3 => by have h3 : u3 = _ := h3; subst u3; exact ih (x.xs[k]'hlt) (y.xs[k]'(by omega)) (by omega) (by omega) W _ _ _ h1 h2)) ?_
    refine .i (sp_not (hlc rfl)) ?_
    refine .done ⟨by kernel_rfl, fun a22 g W22 y22 zz22 hk hg hV hR hP => ?_⟩
    obtain ⟨e105, -, -, -, -, -, -, -, -, -, -, -, -, -, -, -⟩ := hV
    replace e0 := (hR 0 rfl).trans e0
    replace e1 := (hR 1 rfl).trans e1
    replace e2 := (hR 2 rfl).trans e2
    replace e87 := (hR 87 rfl).trans e87
    replace e88 := (hR 88 rfl).trans e88
    replace D_p := D_p.ext hk
    replace D_q := D_q.ext hk
    replace e105 := e105.q
    replace kw := kw.x hk
    clear hR hk hg hP
    refine tail_nil (hK21 _ _ ?_)
    refine wp_cond_split e105 (fun hc => ?_) (fun hc => ?_)
    ·
     have hfin : V.beq x y = false := beq_false fun h => by subst h; simp [beq_refl] at hc
     refine wp_seq_k fun K23 hK23 => ?_
     refine rg mixed y22 zz22 ?_
     refine .i (sp_assign Has.cst) ?_
     refine .done ⟨by kernel_rfl, fun a24 g W24 y24 zz24 hk hg hV hR hP => ?_⟩
     obtain ⟨e6, -⟩ := hV
     replace D_p := D_p.ext hk
     replace D_q := D_q.ext hk
     have e6 : sl a24 6 = (.bool (false)) := e6
     replace kw := kw.x hk
     clear hR hk hg hP
     refine tail_nil (hK23 _ _ ?_)
     refine wp_ret ?_
     refine (show bodyPost Try.prog Try.f148 _ .ret _ _ from ret1 rfl zz24 e6 ⟨_, rfl, kw, ?_⟩)
     rw [hfin]
    ·
     have hk1 : x.xs[k] = y.xs[k] := (beq_iff _ _).1 (by simpa using hc)
     refine wp_skip (hK18 _ _ ?_)
     refine rg mixed y22 zz22 ?_
     refine .i (sp_add (hbs rfl e88) Has.cst (i64_in (by omega))) ?_
     refine .i (sp_move (hlc rfl)) ?_
     refine .done ⟨by kernel_rfl, fun a25 g W25 y25 zz25 hk hg hV hR hP => ?_⟩
     obtain ⟨e88, -, -⟩ := hV
     replace e0 := (hR 0 rfl).trans e0
     replace e1 := (hR 1 rfl).trans e1
     replace e2 := (hR 2 rfl).trans e2
     replace e87 := (hR 87 rfl).trans e87
     replace D_p := D_p.ext hk
     replace D_q := D_q.ext hk
     replace e88 := e88.q
     replace kw := kw.x hk
     clear hR hk hg hP
     exact tail_nil ⟨hlt, y25, zz25, kw, e0, e1, e2, e87, (e88.trans (congrArg (Value.int .i64) (by simp))), D_p, D_q, fun i h1 h2 hi => by rcases Nat.lt_succ_iff_lt_or_eq.1 hi with h | h; exact hinv i h1 h2 h; subst h; exact hk1⟩
   ·
    have hge0 : ¬ k < x.xs.length := by simpa using hc
    have hge : k = x.xs.length := by omega
    have hfin : V.beq x y = true := (beq_iff x y).2 (V.ext (by omega) q2 q3 q4 (List.ext_getElem (by omega) fun i h1 h2 => hinv i h1 h2 (by omega)))
    refine wp_exit (hK11 _ _ ?_)
    refine wp_seq_k fun K26 hK26 => ?_
    refine rg mixed y16 zz16 ?_
    refine .i (sp_assign Has.cst) ?_
    refine .done ⟨by kernel_rfl, fun a27 g W27 y27 zz27 hk hg hV hR hP => ?_⟩
    obtain ⟨e6, -⟩ := hV
    replace D_p := D_p.ext hk
    replace D_q := D_q.ext hk
    have e6 : sl a27 6 = (.bool (true)) := e6
    replace kw := kw.x hk
    clear hR hk hg hP
    refine tail_nil (hK26 _ _ ?_)
    refine wp_ret ?_
    refine (show bodyPost Try.prog Try.f148 _ .ret _ _ from ret1 rfl zz27 e6 ⟨_, rfl, kw, ?_⟩)
    rw [hfin]

set_option maxRecDepth 100000 in
theorem Same_ok (x y : V) (hx : x.cnt ≤ 1073741824) (hy : y.cnt ≤ 1073741824) (w : World) (S : BSet) (v u : Value) (hS : ∀ b o, S b o → Cln o) (hv : Rd w S x.d v) (hu : Rd w S y.d u) : Calls Try.prog 121 #[v, u] w (Ret w fun u _ => u = .bool (V.beq x y)) := by
  have hcx := cnt_eq x
  have hcy := cnt_eq y
  obtain ⟨cn0a, cn0c, ci0a, ci0c, ev, ht0, D_cn0, D_ci0⟩ := rdV_out (rd_arg hv)
  subst ev
  obtain ⟨cn1a, cn1c, ci1a, ci1c, ev, ht1, D_cn1, D_ci1⟩ := rdV_out (rd_arg hu)
  subst ev
  refine enter Try.func121 rfl Try.ntmps121 (lbr rfl) fun a0 y0 zz0 harg => ?_
  have e0 : sl a0 0 = (.agg #[(.int .u8 (x.k)), (.int .i64 (x.n)), (.string (x.t)), (.slice cn0a (x.ns.length) cn0c), (.slice ci0a (x.xs.length) ci0c)]) := harg 0 (lbr rfl)
  have e1 : sl a0 1 = (.agg #[(.int .u8 (y.k)), (.int .i64 (y.n)), (.string (y.t)), (.slice cn1a (y.ns.length) cn1c), (.slice ci1a (y.xs.length) ci1c)]) := harg 1 (lbr rfl)
  have kw := Keeps.refl All w
  clear harg
  refine wp_seq_k fun K1 hK1 => ?_
  refine rg mixed y0 zz0 ?_
  refine .boxOp (v := (.agg #[(.int .u8 (x.k)), (.int .i64 (x.n)), (.string (x.t)), (.slice cn0a (x.ns.length) cn0c), (.slice ci0a (x.xs.length) ci0c)])) (hbs rfl e0) ?_
  refine .boxOp (v := (.agg #[(.int .u8 (y.k)), (.int .i64 (y.n)), (.string (y.t)), (.slice cn1a (y.ns.length) cn1c), (.slice ci1a (y.xs.length) ci1c)])) (hbs rfl e1) ?_
  refine .i (sp_assign Has.cst) ?_
  refine .done ⟨by kernel_rfl, fun a2 g W2 y2 zz2 hk hg hV hR hP => ?_⟩
  obtain ⟨-, ⟨b3_2, e3, hb3, own_b3_2⟩, ⟨b2_2, e2, hb2, own_b2_2⟩, -⟩ := hV
  have lo_b3_2 : w.heap.size ≤ b3_2 := Nat.le_trans kw.size (hg.lo _ _ hb3)
  have own_b3_2 : Own W2 b3_2 [(.int .u8 (y.k)), (.int .i64 (y.n)), (.string (y.t)), (.slice cn1a (y.ns.length) cn1c), (.slice ci1a (y.xs.length) ci1c)] 33 := own_b3_2
  have lo_b2_2 : w.heap.size ≤ b2_2 := Nat.le_trans kw.size (hg.lo _ _ hb2)
  have own_b2_2 : Own W2 b2_2 [(.int .u8 (x.k)), (.int .i64 (x.n)), (.string (x.t)), (.slice cn0a (x.ns.length) cn0c), (.slice ci0a (x.xs.length) ci0c)] 33 := own_b2_2
  have ne_b3_2_b2_2 : b3_2 ≠ b2_2 := fun h => by have := hg.inj _ _ _ hb3 (h ▸ hb2); cases this
  replace D_cn0 := sa_more D_cn0 hk [b3_2, b2_2] (in_cons (hg.lo _ _ hb3) (in_cons (hg.lo _ _ hb2) in_nil))
  replace D_ci0 := sa_more D_ci0 hk [b3_2, b2_2] (in_cons (hg.lo _ _ hb3) (in_cons (hg.lo _ _ hb2) in_nil))
  replace D_cn1 := sa_more D_cn1 hk [b3_2, b2_2] (in_cons (hg.lo _ _ hb3) (in_cons (hg.lo _ _ hb2) in_nil))
  replace D_ci1 := sa_more D_ci1 hk [b3_2, b2_2] (in_cons (hg.lo _ _ hb3) (in_cons (hg.lo _ _ hb2) in_nil))
  replace kw := kw.x hk
  clear hR hk hg hP hb3 hb2
  refine tail_nil (hK1 _ _ ?_)
  refine wp_seq_k fun K3 hK3 => ?_
  refine rg mixed y2 zz2 ?_
  refine .i (fo 4 (hbs rfl e2) Try.underlying33 rfl sz31 rfl) ?_
  refine .i (lo1 (hlc rfl) own_b2_2 trivial agg31 sz31 rfl) ?_
  refine .i (v := (.bool (false))) (sp_call4 (φ1 := IsD (SA w S [b3_2, b2_2]) (valsD (x.xs))) (φ2 := Is (.int .i64 (1))) (φ3 := Is (.pointer none)) (φ4 := Is (.bool (false))) ent137 ((hlc rfl).dat D_ci0 sub_all) Has.cst Has.cst Has.cst (fun g u1 u2 u3 u4 W hk hgk h1 h2 h3 h4 => by have h2 : u2 = _ := h2; subst u2; have h3 : u3 = _ := h3; subst u3; have h4 : u4 = _ := h4; subst u4; exact endless_all _ (x.xs) (Nat.lt_succ_self _) (1) (by omega) (by omega) (false) _ W _ _ (fun b o h => sa_cln hS b o h.1) h1 (Or.inl rfl))) ?_
  refine .i (sp_assign (hlc rfl)) ?_
  refine .done ⟨by kernel_rfl, fun a4 g W4 y4 zz4 hk hg hV hR hP => ?_⟩
  obtain ⟨e5, -, -, -, -⟩ := hV
  replace e3 := (hR 3 rfl).trans e3
  replace e2 := (hR 2 rfl).trans e2
  replace D_cn0 := D_cn0.ext hk
  replace D_ci0 := D_ci0.ext hk
  replace D_cn1 := D_cn1.ext hk
  replace D_ci1 := D_ci1.ext hk
  have e5 : sl a4 5 = (.bool (false)) := e5
  replace own_b3_2 := own_b3_2.ext hk
  replace own_b2_2 := own_b2_2.ext hk
  replace kw := kw.x hk
  clear hR hk hg hP
  refine tail_nil (hK3 _ _ ?_)
  refine wp_seq_k fun K5 hK5 => ?_
  refine wp_seq_k fun K6 hK6 => ?_
  refine rg mixed y4 zz4 ?_
  refine .i (sp_move (hbs rfl e5)) ?_
  refine .i (fo 4 (hbs rfl e3) Try.underlying33 rfl sz31 rfl) ?_
  refine .i (lo1 (hlc rfl) own_b3_2 trivial agg31 sz31 rfl) ?_
  refine .i (v := (.bool (false))) (sp_call4 (φ1 := IsD (SA w S [b3_2, b2_2]) (valsD (y.xs))) (φ2 := Is (.int .i64 (1))) (φ3 := Is (.pointer none)) (φ4 := Is (.bool (false))) ent137 ((hlc rfl).dat D_ci1 sub_all) Has.cst Has.cst Has.cst (fun g u1 u2 u3 u4 W hk hgk h1 h2 h3 h4 => by have h2 : u2 = _ := h2; subst u2; have h3 : u3 = _ := h3; subst u3; have h4 : u4 = _ := h4; subst u4; exact endless_all _ (y.xs) (Nat.lt_succ_self _) (1) (by omega) (by omega) (false) _ W _ _ (fun b o h => sa_cln hS b o h.1) h1 (Or.inl rfl))) ?_
  refine .i (sp_bNeq Try.underlying4 (hlc rfl) (hlc rfl)) ?_
  refine .done ⟨by kernel_rfl, fun a7 g W7 y7 zz7 hk hg hV hR hP => ?_⟩
  obtain ⟨e14, -, -, -, -, -⟩ := hV
  replace e3 := (hR 3 rfl).trans e3
  replace e2 := (hR 2 rfl).trans e2
  replace e5 := (hR 5 rfl).trans e5
  replace D_cn0 := D_cn0.ext hk
  replace D_ci0 := D_ci0.ext hk
  replace D_cn1 := D_cn1.ext hk
  replace D_ci1 := D_ci1.ext hk
  have e14 : sl a7 14 = (.bool (!(false == false))) := e14
  replace own_b3_2 := own_b3_2.ext hk
  replace own_b2_2 := own_b2_2.ext hk
  replace kw := kw.x hk
  clear hR hk hg hP
  refine tail_nil (hK6 _ _ ?_)
  refine wp_cond_false (e14.trans (congrArg Value.bool (by decide))) ?_
  refine wp_skip (hK5 _ _ ?_)
  refine wp_seq_k fun K8 hK8 => ?_
  refine wp_seq_k fun K9 hK9 => ?_
  refine rg mixed y7 zz7 ?_
  refine .i (sp_move (hbs rfl e5)) ?_
  refine .done ⟨by kernel_rfl, fun a10 g W10 y10 zz10 hk hg hV hR hP => ?_⟩
  obtain ⟨e15, -⟩ := hV
  replace e3 := (hR 3 rfl).trans e3
  replace e2 := (hR 2 rfl).trans e2
  replace D_cn0 := D_cn0.ext hk
  replace D_ci0 := D_ci0.ext hk
  replace D_cn1 := D_cn1.ext hk
  replace D_ci1 := D_ci1.ext hk
  have e15 : sl a10 15 = (.bool (false)) := e15
  replace own_b3_2 := own_b3_2.ext hk
  replace own_b2_2 := own_b2_2.ext hk
  replace kw := kw.x hk
  clear hR hk hg hP
  refine tail_nil (hK9 _ _ ?_)
  refine wp_cond_false e15 ?_
  refine wp_skip (hK8 _ _ ?_)
  refine wp_seq_k fun K11 hK11 => ?_
  refine rg mixed y10 zz10 ?_
  refine .i (v := (.bool (V.beq (x) (y)))) (sp_call3 (φ1 := IsR (SA w S []) (V.d (x))) (φ2 := IsR (SA w S []) (V.d (y))) (φ3 := Is (.pointer none)) ent148 ((hbs rfl e2).refB own_b2_2 lo_b2_2 (rdV_in (x := x) ht0 D_cn0 D_ci0 : Rd W10 (SA w S [b3_2, b2_2]) (V.d (x)) _)) ((hbs rfl e3).refB own_b3_2 lo_b3_2 (rdV_in (x := y) ht1 D_cn1 D_ci1 : Rd W10 (SA w S [b3_2, b2_2]) (V.d (y)) _)) Has.cst (fun g u1 u2 u3 W hk hgk h1 h2 h3 => by have h3 : u3 = _ := h3; subst u3; exact same_all _ (x) (y) (Nat.le_refl _) (by omega) W _ _ _ h1 h2)) ?_
  refine .i (sp_assign (hlc rfl)) ?_
  refine .done ⟨by kernel_rfl, fun a12 g W12 y12 zz12 hk hg hV hR hP => ?_⟩
  obtain ⟨e4, -, -⟩ := hV
  replace D_cn0 := D_cn0.ext hk
  replace D_ci0 := D_ci0.ext hk
  replace D_cn1 := D_cn1.ext hk
  replace D_ci1 := D_ci1.ext hk
  have e4 : sl a12 4 = (.bool (V.beq (x) (y))) := e4
  replace own_b3_2 := own_b3_2.ext hk
  replace own_b2_2 := own_b2_2.ext hk
  replace kw := kw.x hk
  clear hR hk hg hP
  refine tail_nil (hK11 _ _ ?_)
  refine wp_ret ?_
  refine (show bodyPost Try.prog Try.f121 _ .ret _ _ from ret1 rfl zz12 e4 ⟨_, rfl, kw, ?_⟩)
  exact rfl

end Go.Proofs.Ytnobijngkpflcaa
