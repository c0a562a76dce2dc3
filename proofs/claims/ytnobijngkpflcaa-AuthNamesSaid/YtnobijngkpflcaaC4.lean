import Derived.Test.YtnobijngkpflcaaC3
namespace Go.Proofs.Ytnobijngkpflcaa
open Go.Eng
set_option maxRecDepth 100000 in
theorem refSame_all : ∀ (n : Nat) (x y : V), x.cnt ≤ n → n ≤ 1073741824 → ∀ (w : World) (S : BSet) (v u : Value), Rd w S x.d v → Rd w S y.d u → Calls Try.prog 34 #[v, u] w (Ret w fun u _ => u = .bool (V.beq x y)) := by
  intro n
  induction n with
  | zero => intro x y hx; cases x; simp [V.cnt] at hx
  | succ n ih =>
  intro x y hx hn w S v u hv hu
  have hlx := len_cnts x.xs
  have hcx := cnt_eq x
  have hmn : x.ns.length ≤ maxLen := by obtain ⟨_, _, _, _, _, _, h, _⟩ := rdV_out hv; exact rd_lenS h
  simp only [maxLen] at hmn
  obtain ⟨cn0a, cn0c, ci0a, ci0c, ev, ht0, D_cn0, D_ci0⟩ := rdV_out (rd_arg hv)
  subst ev
  obtain ⟨cn1a, cn1c, ci1a, ci1c, ev, ht1, D_cn1, D_ci1⟩ := rdV_out (rd_arg hu)
  subst ev
  refine enter Try.func34 rfl Try.ntmps34 (lbr rfl) fun a0 y0 zz0 harg => ?_
  have e0 : sl a0 0 = (.agg #[(.int .u8 (x.k)), (.int .i64 (x.n)), (.string (x.t)), (.slice cn0a (x.ns.length) cn0c), (.slice ci0a (x.xs.length) ci0c)]) := harg 0 (lbr rfl)
  have e1 : sl a0 1 = (.agg #[(.int .u8 (y.k)), (.int .i64 (y.n)), (.string (y.t)), (.slice cn1a (y.ns.length) cn1c), (.slice ci1a (y.xs.length) ci1c)]) := harg 1 (lbr rfl)
  have kw := Keeps.refl All w
  clear harg
  refine wp_seq_k fun K1 hK1 => ?_
  refine rg mixed y0 zz0 ?_
  refine .boxOp (v := (.agg #[(.int .u8 (x.k)), (.int .i64 (x.n)), (.string (x.t)), (.slice cn0a (x.ns.length) cn0c), (.slice ci0a (x.xs.length) ci0c)])) (hbs rfl e0) ?_
  refine .boxOp (v := (.agg #[(.int .u8 (y.k)), (.int .i64 (y.n)), (.string (y.t)), (.slice cn1a (y.ns.length) cn1c), (.slice ci1a (y.xs.length) ci1c)])) (hbs rfl e1) ?_
  refine .i (sp_assign Has.cst) ?_
  refine .done ⟨by kernel_rfl, fun a2 g W2 y2 zz2 hk hg hV hR hP => ?_⟩
  obtain ⟨-, ⟨b3_2, e3, hb3, own_b3_2⟩, ⟨b2_2, e2, hb2, own_b2_2⟩, -⟩ := hV
  have lo_b3_2 : w.heap.size ≤ b3_2 := Nat.le_trans kw.size (hg.lo _ _ hb3)
  have own_b3_2 : Own W2 b3_2 [(.int .u8 (y.k)), (.int .i64 (y.n)), (.string (y.t)), (.slice cn1a (y.ns.length) cn1c), (.slice ci1a (y.xs.length) ci1c)] 33 := own_b3_2
  have lo_b2_2 : w.heap.size ≤ b2_2 := Nat.le_trans kw.size (hg.lo _ _ hb2)
  have own_b2_2 : Own W2 b2_2 [(.int .u8 (x.k)), (.int .i64 (x.n)), (.string (x.t)), (.slice cn0a (x.ns.length) cn0c), (.slice ci0a (x.xs.length) ci0c)] 33 := own_b2_2
  have ne_b3_2_b2_2 : b3_2 ≠ b2_2 := fun h => by have := hg.inj _ _ _ hb3 (h ▸ hb2); cases this
  replace D_cn0 := sa_more D_cn0 hk [b3_2, b2_2] (in_cons (hg.lo _ _ hb3) (in_cons (hg.lo _ _ hb2) in_nil))
  replace D_ci0 := sa_more D_ci0 hk [b3_2, b2_2] (in_cons (hg.lo _ _ hb3) (in_cons (hg.lo _ _ hb2) in_nil))
  replace D_cn1 := sa_more D_cn1 hk [b3_2, b2_2] (in_cons (hg.lo _ _ hb3) (in_cons (hg.lo _ _ hb2) in_nil))
  replace D_ci1 := sa_more D_ci1 hk [b3_2, b2_2] (in_cons (hg.lo _ _ hb3) (in_cons (hg.lo _ _ hb2) in_nil))
  replace kw := kw.x hk
  clear hR hk hg hP hb3 hb2
  refine tail_nil (hK1 _ _ ?_)
  refine wp_seq_k fun K3 hK3 => ?_
  refine wp_seq_k fun K4 hK4 => ?_
  refine rg mixed y2 zz2 ?_
  refine .i (fo 0 (hbs rfl e2) Try.underlying33 rfl sz5 rfl) ?_
  refine .i (lo1 (hlc rfl) own_b2_2 trivial agg5 sz5 rfl) ?_
  refine .i (fo 0 (hbs rfl e3) Try.underlying33 rfl sz5 rfl) ?_
  refine .i (lo1 (hlc rfl) own_b3_2 trivial agg5 sz5 rfl) ?_
  refine .i (sp_neq (hlc rfl) (hlc rfl)) ?_
  refine .i (sp_move (hlc rfl)) ?_
  refine .e (t := 12) rfl (hlc rfl) (fun hg => fo 1 (hbs rfl e2) Try.underlying33 rfl sz2 rfl) ?_
  refine .e (t := 12) rfl (hlc rfl) (fun hg => lo1 ((hlc rfl).undE hg) own_b2_2 trivial agg2 sz2 rfl) ?_
  refine .e (t := 12) rfl (hlc rfl) (fun hg => fo 1 (hbs rfl e3) Try.underlying33 rfl sz2 rfl) ?_
  refine .e (t := 12) rfl (hlc rfl) (fun hg => lo1 ((hlc rfl).undE hg) own_b3_2 trivial agg2 sz2 rfl) ?_
  refine .e (t := 12) rfl (hlc rfl) (fun hg => sp_neq ((hlc rfl).undE hg) ((hlc rfl).undE hg)) ?_
  refine .i (sp_or (hlc rfl) ((hlc rfl).weak fun hq => hq)) ?_
  refine .i (sp_move (hlc rfl)) ?_
  refine .e (t := 19) rfl (hlc rfl) (fun hg => fo 2 (hbs rfl e2) Try.underlying33 rfl sz9 rfl) ?_
  refine .e (t := 19) rfl (hlc rfl) (fun hg => lo1 ((hlc rfl).undE hg) own_b2_2 trivial agg9 sz9 rfl) ?_
  refine .e (t := 19) rfl (hlc rfl) (fun hg => fo 2 (hbs rfl e3) Try.underlying33 rfl sz9 rfl) ?_
  refine .e (t := 19) rfl (hlc rfl) (fun hg => lo1 ((hlc rfl).undE hg) own_b3_2 trivial agg9 sz9 rfl) ?_
  refine .e (t := 19) rfl (hlc rfl) (fun hg => sp_sNeq ((hlc rfl).undE hg) ((hlc rfl).undE hg)) ?_
  refine .i (sp_or (hlc rfl) ((hlc rfl).weak fun hq => hq)) ?_
  refine .i (sp_move (hlc rfl)) ?_
  refine .e (t := 26) rfl (hlc rfl) (fun hg => fo 3 (hbs rfl e2) Try.underlying33 rfl sz23 rfl) ?_
  refine .e (t := 26) rfl (hlc rfl) (fun hg => lo1 ((hlc rfl).undE hg) own_b2_2 trivial agg23 sz23 rfl) ?_
  refine .e (t := 26) rfl (hlc rfl) (fun hg => sp_lenSs Try.underlying23 (((hlc rfl).undE hg).dat D_cn0 sub_all)) ?_
  refine .e (t := 26) rfl (hlc rfl) (fun hg => fo 3 (hbs rfl e3) Try.underlying33 rfl sz23 rfl) ?_
  refine .e (t := 26) rfl (hlc rfl) (fun hg => lo1 ((hlc rfl).undE hg) own_b3_2 trivial agg23 sz23 rfl) ?_
  refine .e (t := 26) rfl (hlc rfl) (fun hg => sp_lenSs Try.underlying23 (((hlc rfl).undE hg).dat D_cn1 sub_all)) ?_
  refine .e (t := 26) rfl (hlc rfl) (fun hg => sp_neq ((hlc rfl).undE hg) ((hlc rfl).undE hg)) ?_
  refine .i (sp_or (hlc rfl) ((hlc rfl).weak fun hq => hq)) ?_
  refine .i (sp_move (hlc rfl)) ?_
  refine .e (t := 35) rfl (hlc rfl) (fun hg => fo 4 (hbs rfl e2) Try.underlying33 rfl sz31 rfl) ?_
  refine .e (t := 35) rfl (hlc rfl) (fun hg => lo1 ((hlc rfl).undE hg) own_b2_2 trivial agg31 sz31 rfl) ?_
  refine .e (t := 35) rfl (hlc rfl) (fun hg => sp_lenVs Try.underlying31 (((hlc rfl).undE hg).dat D_ci0 sub_all)) ?_
  refine .e (t := 35) rfl (hlc rfl) (fun hg => fo 4 (hbs rfl e3) Try.underlying33 rfl sz31 rfl) ?_
  refine .e (t := 35) rfl (hlc rfl) (fun hg => lo1 ((hlc rfl).undE hg) own_b3_2 trivial agg31 sz31 rfl) ?_
  refine .e (t := 35) rfl (hlc rfl) (fun hg => sp_lenVs Try.underlying31 (((hlc rfl).undE hg).dat D_ci1 sub_all)) ?_
  refine .e (t := 35) rfl (hlc rfl) (fun hg => sp_neq ((hlc rfl).undE hg) ((hlc rfl).undE hg)) ?_
  refine .i (sp_or (hlc rfl) ((hlc rfl).weak fun hq => hq)) ?_
  refine .done ⟨by kernel_rfl, fun a5 g W5 y5 zz5 hk hg hV hR hP => ?_⟩
  obtain ⟨e43, -, -, -, -, -, -, -, -, -, -, -, -, -, -, -, -, -, -, -, -, -, -, -, -, -, -, -, -, -, -, -, -, -, -, -, -, -⟩ := hV
  replace e3 := (hR 3 rfl).trans e3
  replace e2 := (hR 2 rfl).trans e2
  replace D_cn0 := D_cn0.ext hk
  replace D_ci0 := D_ci0.ext hk
  replace D_cn1 := D_cn1.ext hk
  replace D_ci1 := D_ci1.ext hk
  replace e43 := e43.q
  replace own_b3_2 := own_b3_2.ext hk
  replace own_b2_2 := own_b2_2.ext hk
  replace kw := kw.x hk
  clear hR hk hg hP
  refine tail_nil (hK4 _ _ ?_)
  refine wp_cond_split e43 (fun hc => ?_) (fun hc => ?_)
  ·
   have hfin : V.beq x y = false := beq_false fun h => by subst h; simp at hc
   refine wp_seq_k fun K6 hK6 => ?_
   refine rg mixed y5 zz5 ?_
   refine .i (sp_assign Has.cst) ?_
   refine .done ⟨by kernel_rfl, fun a7 g W7 y7 zz7 hk hg hV hR hP => ?_⟩
   obtain ⟨e4, -⟩ := hV
   replace D_cn0 := D_cn0.ext hk
   replace D_ci0 := D_ci0.ext hk
   replace D_cn1 := D_cn1.ext hk
   replace D_ci1 := D_ci1.ext hk
   have e4 : sl a7 4 = (.bool (false)) := e4
   replace own_b3_2 := own_b3_2.ext hk
   replace own_b2_2 := own_b2_2.ext hk
   replace kw := kw.x hk
   clear hR hk hg hP
   refine tail_nil (hK6 _ _ ?_)
   refine wp_ret ?_
   refine (show bodyPost Try.prog Try.f34 _ .ret _ _ from ret1 rfl zz7 e4 ⟨_, rfl, kw, ?_⟩)
   rw [hfin]
  ·
   simp at hc
   obtain ⟨⟨⟨⟨q1, q2⟩, q3⟩, q4⟩, q5⟩ := hc
   refine wp_skip (hK3 _ _ ?_)
   refine wp_seq_k fun K8 hK8 => ?_
   refine wp_seq_k fun K9 hK9 => ?_
   refine rg mixed y5 zz5 ?_
   refine .i (sp_assign Has.cst) ?_
   refine .done ⟨by kernel_rfl, fun a10 g W10 y10 zz10 hk hg hV hR hP => ?_⟩
   obtain ⟨e5, -⟩ := hV
   replace e3 := (hR 3 rfl).trans e3
   replace e2 := (hR 2 rfl).trans e2
   replace D_cn0 := D_cn0.ext hk
   replace D_ci0 := D_ci0.ext hk
   replace D_cn1 := D_cn1.ext hk
   replace D_ci1 := D_ci1.ext hk
   have e5 : sl a10 5 = (.int .i64 (0)) := e5
   replace own_b3_2 := own_b3_2.ext hk
   replace own_b2_2 := own_b2_2.ext hk
   replace kw := kw.x hk
   clear hR hk hg hP
   refine tail_nil (hK9 _ _ ?_)
   refine wp_block ?_
   refine wp_for (x.ns.length) (fun k a W => a.tmps.size = 81 ∧ a.defers = [] ∧ Keeps All w W ∧ sl a 2 = (.pointer (some ⟨b2_2, 0, none⟩)) ∧ sl a 3 = (.pointer (some ⟨b3_2, 0, none⟩)) ∧ sl a 5 = (.int .i64 ((k : Nat))) ∧ Own W b3_2 [(.int .u8 (y.k)), (.int .i64 (y.n)), (.string (y.t)), (.slice cn1a (y.ns.length) cn1c), (.slice ci1a (y.xs.length) ci1c)] 33 ∧ Own W b2_2 [(.int .u8 (x.k)), (.int .i64 (x.n)), (.string (x.t)), (.slice cn0a (x.ns.length) cn0c), (.slice ci0a (x.xs.length) ci0c)] 33 ∧ Rd W (SA w S [b3_2, b2_2]) (strsD (x.ns)) (.slice cn0a (x.ns.length) cn0c) ∧ Rd W (SA w S [b3_2, b2_2]) (valsD (x.xs)) (.slice ci0a (x.xs.length) ci0c) ∧ Rd W (SA w S [b3_2, b2_2]) (strsD (y.ns)) (.slice cn1a (y.ns.length) cn1c) ∧ Rd W (SA w S [b3_2, b2_2]) (valsD (y.xs)) (.slice ci1a (y.xs.length) ci1c) ∧ (∀ i (h1 : i < x.ns.length) (h2 : i < y.ns.length), i < k → x.ns[i] = y.ns[i])) ⟨y10, zz10, kw, e2, e3, (e5.trans (congrArg (Value.int .i64) (rfl))), own_b3_2, own_b2_2, D_cn0, D_ci0, D_cn1, D_ci1, fun i h1 h2 hi => absurd hi (by omega)⟩ ?_
   clear kw e2 e3 e5 own_b3_2 own_b2_2 D_cn0 D_ci0 D_cn1 D_ci1
   rintro k a11 W11 hkk ⟨y11, zz11, kw, e2, e3, e5, own_b3_2, own_b2_2, D_cn0, D_ci0, D_cn1, D_ci1, hinv⟩
   refine wp_seq_k fun K12 hK12 => ?_
   refine wp_seq_k fun K13 hK13 => ?_
   refine rg mixed y11 zz11 ?_
   refine .i (sp_move (hbs rfl e5)) ?_
   refine .i (fo 3 (hbs rfl e2) Try.underlying33 rfl sz23 rfl) ?_
   refine .i (lo1 (hlc rfl) own_b2_2 trivial agg23 sz23 rfl) ?_
   refine .i (sp_lenSs Try.underlying23 ((hlc rfl).dat D_cn0 sub_all)) ?_
   refine .i (sp_lss (hlc rfl) (hlc rfl)) ?_
   refine .done ⟨by kernel_rfl, fun a14 g W14 y14 zz14 hk hg hV hR hP => ?_⟩
   obtain ⟨e48, -, -, -, -, -⟩ := hV
   replace e3 := (hR 3 rfl).trans e3
   replace e2 := (hR 2 rfl).trans e2
   replace e5 := (hR 5 rfl).trans e5
   replace D_cn0 := D_cn0.ext hk
   replace D_ci0 := D_ci0.ext hk
   replace D_cn1 := D_cn1.ext hk
   replace D_ci1 := D_ci1.ext hk
   replace e48 := e48.q
   replace own_b3_2 := own_b3_2.ext hk
   replace own_b2_2 := own_b2_2.ext hk
   replace kw := kw.x hk
   clear hR hk hg hP
   refine tail_nil (hK13 _ _ ?_)
   refine wp_cond_split e48 (fun hc => ?_) (fun hc => ?_)
   ·
    have hlt : k < x.ns.length := by simpa using hc
    refine wp_skip (hK12 _ _ ?_)
    refine wp_seq_k fun K15 hK15 => ?_
    refine wp_block ?_
    refine wp_seq_k fun K16 hK16 => ?_
    refine rg mixed y14 zz14 ?_
    refine .i (fo 3 (hbs rfl e2) Try.underlying33 rfl sz23 rfl) ?_
    refine .i (lo1 (hlc rfl) own_b2_2 trivial agg23 sz23 rfl) ?_
    refine .i (sp_move (hbs rfl e5)) ?_
    refine .rf (sp_indexS (i := k) ((hlc rfl).dat D_cn0 sub_all) (hlc rfl) Try.underlying23 sz9 rfl hlt) ?_
    refine .i (sp_loadStr (hlc rfl) agg9 sz9) ?_
    refine .i (fo 3 (hbs rfl e3) Try.underlying33 rfl sz23 rfl) ?_
    refine .i (lo1 (hlc rfl) own_b3_2 trivial agg23 sz23 rfl) ?_
    refine .i (sp_move (hbs rfl e5)) ?_
    refine .rf (sp_indexS (i := k) ((hlc rfl).dat D_cn1 sub_all) (hlc rfl) Try.underlying23 sz9 rfl (by omega)) ?_
    refine .i (sp_loadStr (hlc rfl) agg9 sz9) ?_
    refine .i (sp_sNeq (hlc rfl) (hlc rfl)) ?_
    refine .done ⟨by kernel_rfl, fun a17 g W17 y17 zz17 hk hg hV hR hP => ?_⟩
    obtain ⟨e61, -, -, -, -, -, -, -, -, -, -, -⟩ := hV
    replace e3 := (hR 3 rfl).trans e3
    replace e2 := (hR 2 rfl).trans e2
    replace e5 := (hR 5 rfl).trans e5
    replace D_cn0 := D_cn0.ext hk
    replace D_ci0 := D_ci0.ext hk
    replace D_cn1 := D_cn1.ext hk
    replace D_ci1 := D_ci1.ext hk
    replace e61 := e61.q
    replace own_b3_2 := own_b3_2.ext hk
    replace own_b2_2 := own_b2_2.ext hk
    replace kw := kw.x hk
    clear hR hk hg hP
    refine tail_nil (hK16 _ _ ?_)
    refine wp_cond_split e61 (fun hc => ?_) (fun hc => ?_)
    ·
     have hfin : V.beq x y = false := beq_false fun h => by subst h; simp at hc
     refine wp_seq_k fun K18 hK18 => ?_
     refine rg mixed y17 zz17 ?_
     refine .i (sp_assign Has.cst) ?_
     refine .done ⟨by kernel_rfl, fun a19 g W19 y19 zz19 hk hg hV hR hP => ?_⟩
     obtain ⟨e4, -⟩ := hV
     replace D_cn0 := D_cn0.ext hk
     replace D_ci0 := D_ci0.ext hk
     replace D_cn1 := D_cn1.ext hk
     replace D_ci1 := D_ci1.ext hk
     have e4 : sl a19 4 = (.bool (false)) := e4
     replace own_b3_2 := own_b3_2.ext hk
     replace own_b2_2 := own_b2_2.ext hk
     replace kw := kw.x hk
     clear hR hk hg hP
     refine tail_nil (hK18 _ _ ?_)
     refine wp_ret ?_
     refine (show bodyPost Try.prog Try.f34 _ .ret _ _ from ret1 rfl zz19 e4 ⟨_, rfl, kw, ?_⟩)
     rw [hfin]
    ·
     have hk1 : x.ns[k] = y.ns[k] := by simpa using hc
     refine wp_skip (hK15 _ _ ?_)
     refine rg mixed y17 zz17 ?_
     refine .i (sp_move (hbs rfl e5)) ?_
     refine .i (sp_add (hlc rfl) Has.cst (i64_in (by omega))) ?_
     refine .i (sp_assign (hlc rfl)) ?_
     refine .done ⟨by kernel_rfl, fun a20 g W20 y20 zz20 hk hg hV hR hP => ?_⟩
     obtain ⟨e5, -, -, -⟩ := hV
     replace e3 := (hR 3 rfl).trans e3
     replace e2 := (hR 2 rfl).trans e2
     replace D_cn0 := D_cn0.ext hk
     replace D_ci0 := D_ci0.ext hk
     replace D_cn1 := D_cn1.ext hk
     replace D_ci1 := D_ci1.ext hk
     replace e5 := e5.q
     replace own_b3_2 := own_b3_2.ext hk
     replace own_b2_2 := own_b2_2.ext hk
     replace kw := kw.x hk
     clear hR hk hg hP
     exact tail_nil ⟨hlt, y20, zz20, kw, e2, e3, (e5.trans (congrArg (Value.int .i64) (by simp))), own_b3_2, own_b2_2, D_cn0, D_ci0, D_cn1, D_ci1, fun i h1 h2 hi => by rcases Nat.lt_succ_iff_lt_or_eq.1 hi with h | h; exact hinv i h1 h2 h; subst h; exact hk1⟩
   ·
    have hge0 : ¬ k < x.ns.length := by simpa using hc
    have hge : k = x.ns.length := by omega
    have hns : x.ns = y.ns := List.ext_getElem (by omega) fun i h1 h2 => hinv i h1 h2 (by omega)
    refine wp_exit (hK8 _ _ ?_)
    refine wp_seq_k fun K21 hK21 => ?_
    refine wp_seq_k fun K22 hK22 => ?_
    refine rg mixed y14 zz14 ?_
    refine .i (sp_assign Has.cst) ?_
    refine .done ⟨by kernel_rfl, fun a23 g W23 y23 zz23 hk hg hV hR hP => ?_⟩
    obtain ⟨e6, -⟩ := hV
    replace e3 := (hR 3 rfl).trans e3
    replace e2 := (hR 2 rfl).trans e2
    replace D_cn0 := D_cn0.ext hk
    replace D_ci0 := D_ci0.ext hk
    replace D_cn1 := D_cn1.ext hk
    replace D_ci1 := D_ci1.ext hk
    have e6 : sl a23 6 = (.int .i64 (0)) := e6
    replace own_b3_2 := own_b3_2.ext hk
    replace own_b2_2 := own_b2_2.ext hk
    replace kw := kw.x hk
    clear hR hk hg hP
    refine tail_nil (hK22 _ _ ?_)
    refine wp_block ?_
    refine wp_for (x.xs.length) (fun j a W => a.tmps.size = 81 ∧ a.defers = [] ∧ Keeps All w W ∧ sl a 2 = (.pointer (some ⟨b2_2, 0, none⟩)) ∧ sl a 3 = (.pointer (some ⟨b3_2, 0, none⟩)) ∧ sl a 6 = (.int .i64 ((j : Nat))) ∧ Own W b3_2 [(.int .u8 (y.k)), (.int .i64 (y.n)), (.string (y.t)), (.slice cn1a (y.ns.length) cn1c), (.slice ci1a (y.xs.length) ci1c)] 33 ∧ Own W b2_2 [(.int .u8 (x.k)), (.int .i64 (x.n)), (.string (x.t)), (.slice cn0a (x.ns.length) cn0c), (.slice ci0a (x.xs.length) ci0c)] 33 ∧ Rd W (SA w S [b3_2, b2_2]) (strsD (x.ns)) (.slice cn0a (x.ns.length) cn0c) ∧ Rd W (SA w S [b3_2, b2_2]) (valsD (x.xs)) (.slice ci0a (x.xs.length) ci0c) ∧ Rd W (SA w S [b3_2, b2_2]) (strsD (y.ns)) (.slice cn1a (y.ns.length) cn1c) ∧ Rd W (SA w S [b3_2, b2_2]) (valsD (y.xs)) (.slice ci1a (y.xs.length) ci1c) ∧ (∀ i (h1 : i < x.xs.length) (h2 : i < y.xs.length), i < j → x.xs[i] = y.xs[i])) ⟨y23, zz23, kw, e2, e3, (e6.trans (congrArg (Value.int .i64) (rfl))), own_b3_2, own_b2_2, D_cn0, D_ci0, D_cn1, D_ci1, fun i h1 h2 hi => absurd hi (by omega)⟩ ?_
    clear kw e2 e3 e6 own_b3_2 own_b2_2 D_cn0 D_ci0 D_cn1 D_ci1
    rintro j a24 W24 hkj ⟨y24, zz24, kw, e2, e3, e6, own_b3_2, own_b2_2, D_cn0, D_ci0, D_cn1, D_ci1, hinv2⟩
    refine wp_seq_k fun K25 hK25 => ?_
    refine wp_seq_k fun K26 hK26 => ?_
    refine rg mixed y24 zz24 ?_
    refine .i (sp_move (hbs rfl e6)) ?_
    refine .i (fo 4 (hbs rfl e2) Try.underlying33 rfl sz31 rfl) ?_
    refine .i (lo1 (hlc rfl) own_b2_2 trivial agg31 sz31 rfl) ?_
    refine .i (sp_lenVs Try.underlying31 ((hlc rfl).dat D_ci0 sub_all)) ?_
    refine .i (sp_lss (hlc rfl) (hlc rfl)) ?_
    refine .done ⟨by kernel_rfl, fun a27 g W27 y27 zz27 hk hg hV hR hP => ?_⟩
    obtain ⟨e66, -, -, -, -, -⟩ := hV
    replace e3 := (hR 3 rfl).trans e3
    replace e2 := (hR 2 rfl).trans e2
    replace e6 := (hR 6 rfl).trans e6
    replace D_cn0 := D_cn0.ext hk
    replace D_ci0 := D_ci0.ext hk
    replace D_cn1 := D_cn1.ext hk
    replace D_ci1 := D_ci1.ext hk
    replace e66 := e66.q
    replace own_b3_2 := own_b3_2.ext hk
    replace own_b2_2 := own_b2_2.ext hk
    replace kw := kw.x hk
    clear hR hk hg hP
    refine tail_nil (hK26 _ _ ?_)
    refine wp_cond_split e66 (fun hc => ?_) (fun hc => ?_)
    ·
     have hlt : j < x.xs.length := by simpa using hc
     have hltj := hlt
     have hce := cnt_elem hlt
     have hcq := cnt_eq x
     refine wp_skip (hK25 _ _ ?_)
     refine wp_seq_k fun K28 hK28 => ?_
     refine wp_block ?_
     refine wp_seq_k fun K29 hK29 => ?_
     refine rg mixed y27 zz27 ?_
     refine .i (fo 4 (hbs rfl e2) Try.underlying33 rfl sz31 rfl) ?_
     refine .i (lo1 (hlc rfl) own_b2_2 trivial agg31 sz31 rfl) ?_
     refine .i (sp_move (hbs rfl e6)) ?_
     refine .rf (sp_indexV (i := j) ((hlc rfl).dat D_ci0 sub_all) (hlc rfl) Try.underlying31 sz33 rfl hltj) ?_
     refine .da (sp_loadV (hlc rfl) agg33 sz33) ?_
     refine .i (fo 4 (hbs rfl e3) Try.underlying33 rfl sz31 rfl) ?_
     refine .i (lo1 (hlc rfl) own_b3_2 trivial agg31 sz31 rfl) ?_
     refine .i (sp_move (hbs rfl e6)) ?_
     refine .rf (sp_indexV (i := j) ((hlc rfl).dat D_ci1 sub_all) (hlc rfl) Try.underlying31 sz33 rfl (by omega)) ?_
     refine .da (sp_loadV (hlc rfl) agg33 sz33) ?_
     refine .i (v := (.bool (V.beq (x.xs[j]'hltj) (y.xs[j]'(by omega))))) (sp_call2 (φ1 := IsD (SA w S [b3_2, b2_2]) (V.d (x.xs[j]'hltj))) (φ2 := IsD (SA w S [b3_2, b2_2]) (V.d (y.xs[j]'(by omega)))) ent34 (hlc rfl) (hlc rfl) (fun g u1 u2 W hk hgk h1 h2 => ih (x.xs[j]'hltj) (y.xs[j]'(by omega)) (by omega) (by first | omega | exact Nat.le_of_ble_eq_true (by kernel_rfl)) W _ _ _ h1 h2)) ?_
     refine .i (sp_not (hlc rfl)) ?_
     refine .done ⟨by kernel_rfl, fun a30 g W30 y30 zz30 hk hg hV hR hP => ?_⟩
     obtain ⟨e80, -, -, -, -, -, -, -, -, -, -, -, -⟩ := hV
     replace e3 := (hR 3 rfl).trans e3
     replace e2 := (hR 2 rfl).trans e2
     replace e6 := (hR 6 rfl).trans e6
     replace D_cn0 := D_cn0.ext hk
     replace D_ci0 := D_ci0.ext hk
     replace D_cn1 := D_cn1.ext hk
     replace D_ci1 := D_ci1.ext hk
     replace e80 := e80.q
     replace own_b3_2 := own_b3_2.ext hk
     replace own_b2_2 := own_b2_2.ext hk
     replace kw := kw.x hk
     clear hR hk hg hP
     refine tail_nil (hK29 _ _ ?_)
     refine wp_cond_split e80 (fun hc => ?_) (fun hc => ?_)
     ·
      have hfin : V.beq x y = false := beq_false fun h => by subst h; simp [beq_refl] at hc
      refine wp_seq_k fun K31 hK31 => ?_
      refine rg mixed y30 zz30 ?_
      refine .i (sp_assign Has.cst) ?_
      refine .done ⟨by kernel_rfl, fun a32 g W32 y32 zz32 hk hg hV hR hP => ?_⟩
      obtain ⟨e4, -⟩ := hV
      replace D_cn0 := D_cn0.ext hk
      replace D_ci0 := D_ci0.ext hk
      replace D_cn1 := D_cn1.ext hk
      replace D_ci1 := D_ci1.ext hk
      have e4 : sl a32 4 = (.bool (false)) := e4
      replace own_b3_2 := own_b3_2.ext hk
      replace own_b2_2 := own_b2_2.ext hk
      replace kw := kw.x hk
      clear hR hk hg hP
      refine tail_nil (hK31 _ _ ?_)
      refine wp_ret ?_
      refine (show bodyPost Try.prog Try.f34 _ .ret _ _ from ret1 rfl zz32 e4 ⟨_, rfl, kw, ?_⟩)
      rw [hfin]
     ·
      have hk1 : x.xs[j] = y.xs[j] := (beq_iff _ _).1 (by simpa using hc)
      refine wp_skip (hK28 _ _ ?_)
      refine rg mixed y30 zz30 ?_
      refine .i (sp_move (hbs rfl e6)) ?_
      refine .i (sp_add (hlc rfl) Has.cst (i64_in (by omega))) ?_
      refine .i (sp_assign (hlc rfl)) ?_
      refine .done ⟨by kernel_rfl, fun a33 g W33 y33 zz33 hk hg hV hR hP => ?_⟩
      obtain ⟨e6, -, -, -⟩ := hV
      replace e3 := (hR 3 rfl).trans e3
      replace e2 := (hR 2 rfl).trans e2
      replace D_cn0 := D_cn0.ext hk
      replace D_ci0 := D_ci0.ext hk
      replace D_cn1 := D_cn1.ext hk
      replace D_ci1 := D_ci1.ext hk
      replace e6 := e6.q
      replace own_b3_2 := own_b3_2.ext hk
      replace own_b2_2 := own_b2_2.ext hk
      replace kw := kw.x hk
      clear hR hk hg hP
      exact tail_nil ⟨hlt, y33, zz33, kw, e2, e3, (e6.trans (congrArg (Value.int .i64) (by simp))), own_b3_2, own_b2_2, D_cn0, D_ci0, D_cn1, D_ci1, fun i h1 h2 hi => by rcases Nat.lt_succ_iff_lt_or_eq.1 hi with h | h; exact hinv2 i h1 h2 h; subst h; exact hk1⟩
    ·
     have hge0 : ¬ j < x.xs.length := by simpa using hc
     have hge : j = x.xs.length := by omega
     have hfin : V.beq x y = true := (beq_iff x y).2 (V.ext (by omega) q2 q3 hns (List.ext_getElem (by omega) fun i h1 h2 => hinv2 i h1 h2 (by omega)))
     refine wp_exit (hK21 _ _ ?_)
     refine wp_seq_k fun K34 hK34 => ?_
     refine rg mixed y27 zz27 ?_
     refine .i (sp_assign Has.cst) ?_
     refine .done ⟨by kernel_rfl, fun a35 g W35 y35 zz35 hk hg hV hR hP => ?_⟩
     obtain ⟨e4, -⟩ := hV
     replace D_cn0 := D_cn0.ext hk
     replace D_ci0 := D_ci0.ext hk
     replace D_cn1 := D_cn1.ext hk
     replace D_ci1 := D_ci1.ext hk
     have e4 : sl a35 4 = (.bool (true)) := e4
     replace own_b3_2 := own_b3_2.ext hk
     replace own_b2_2 := own_b2_2.ext hk
     replace kw := kw.x hk
     clear hR hk hg hP
     refine tail_nil (hK34 _ _ ?_)
     refine wp_ret ?_
     refine (show bodyPost Try.prog Try.f34 _ .ret _ _ from ret1 rfl zz35 e4 ⟨_, rfl, kw, ?_⟩)
     rw [hfin]

set_option maxRecDepth 100000 in
theorem hasPrefix_in (t p : ByteArray) (w : World) : Calls Try.prog 181 #[.string t, .string p] w (Ret w fun u _ => u = .bool (hasPre t p)) := by
  refine enter Try.func181 rfl Try.ntmps181 (lbr rfl) fun a0 y0 zz0 harg => ?_
  have e0 : sl a0 0 = (.string (t)) := harg 0 (lbr rfl)
  have e1 : sl a0 1 = (.string (p)) := harg 1 (lbr rfl)
  have kw := Keeps.refl All w
  clear harg
  refine wp_seq_k fun K1 hK1 => ?_
  refine rg mixed y0 zz0 ?_
  refine .i (sp_assign Has.cst) ?_
  refine .done ⟨by kernel_rfl, fun a2 g W2 y2 zz2 hk hg hV hR hP => ?_⟩
  obtain ⟨-, -⟩ := hV
  replace e0 := (hR 0 rfl).trans e0
  replace e1 := (hR 1 rfl).trans e1
  replace kw := kw.x hk
  clear hR hk hg hP
  refine tail_nil (hK1 _ _ ?_)
  refine wp_seq_k fun K3 hK3 => ?_
  refine rg mixed y2 zz2 ?_
  refine .i (sp_move (hbs rfl e0)) ?_
  refine .i (sp_lenS Try.underlying9 (hlc rfl)) ?_
  refine .i (sp_move (hbs rfl e1)) ?_
  refine .i (sp_lenS Try.underlying9 (hlc rfl)) ?_
  refine .i (sp_geq (hlc rfl) (hlc rfl)) ?_
  refine .i (sp_move (hlc rfl)) ?_
  refine .e (t := 10) rfl (hlc rfl) (fun hg => sp_move (hbs rfl e0)) ?_
  refine .e (t := 10) rfl (hlc rfl) (fun hg => sp_move (hbs rfl e1)) ?_
  refine .e (t := 10) rfl (hlc rfl) (fun hg => sp_lenS Try.underlying9 ((hlc rfl).undE hg)) ?_
  refine .e (t := 10) (v := (.string (t.extract 0 p.size))) rfl (hlc rfl) (fun hg => sp_sliceHi (i := p.size) Try.underlying9 ((hlc rfl).undE hg) ((hlc rfl).undE hg) rfl (by simp at hg; omega)) ?_
  refine .e (t := 10) rfl (hlc rfl) (fun hg => sp_move (hbs rfl e1)) ?_
  refine .e (t := 10) rfl (hlc rfl) (fun hg => sp_sEql ((hlc rfl).undE hg) ((hlc rfl).undE hg)) ?_
  refine .i (sp_and (hlc rfl) ((hlc rfl).weak fun hq => hq)) ?_
  refine .i (sp_assign (hlc rfl)) ?_
  refine .done ⟨by kernel_rfl, fun a4 g W4 y4 zz4 hk hg hV hR hP => ?_⟩
  obtain ⟨e4, -, -, -, -, -, -, -, -, -, -, -, -, -, -⟩ := hV
  replace e4 := e4.q
  replace kw := kw.x hk
  clear hR hk hg hP
  refine tail_nil (hK3 _ _ ?_)
  refine wp_ret ?_
  refine (show bodyPost Try.prog Try.f181 _ .ret _ _ from ret1 rfl zz4 e4 ⟨_, rfl, kw, ?_⟩)
  congr 1; simp [hasPre]

set_option maxRecDepth 100000 in
theorem hasPrefix_ok (t p : ByteArray) (w : World) : Calls Try.prog 180 #[.string t, .string p] w (Ret w fun u _ => u = .bool (hasPre t p)) := by
  refine enter Try.func180 rfl Try.ntmps180 (lbr rfl) fun a0 y0 zz0 harg => ?_
  have e0 : sl a0 0 = (.string (t)) := harg 0 (lbr rfl)
  have e1 : sl a0 1 = (.string (p)) := harg 1 (lbr rfl)
  have kw := Keeps.refl All w
  clear harg
  refine wp_seq_k fun K1 hK1 => ?_
  refine rg mixed y0 zz0 ?_
  refine .i (sp_assign Has.cst) ?_
  refine .done ⟨by kernel_rfl, fun a2 g W2 y2 zz2 hk hg hV hR hP => ?_⟩
  obtain ⟨-, -⟩ := hV
  replace e0 := (hR 0 rfl).trans e0
  replace e1 := (hR 1 rfl).trans e1
  replace kw := kw.x hk
  clear hR hk hg hP
  refine tail_nil (hK1 _ _ ?_)
  refine wp_seq_k fun K3 hK3 => ?_
  refine rg mixed y2 zz2 ?_
  refine .i (sp_move (hbs rfl e0)) ?_
  refine .i (sp_move (hbs rfl e1)) ?_
  refine .i (v := (.bool (hasPre t p))) (sp_call2 (φ1 := Is (.string (t))) (φ2 := Is (.string (p))) ent181 (hlc rfl) (hlc rfl) (fun g u1 u2 W hk hgk h1 h2 => by have h1 : u1 = _ := h1; subst u1; have h2 : u2 = _ := h2; subst u2; exact hasPrefix_in (t) (p) W)) ?_
  refine .i (sp_assign (hlc rfl)) ?_
  refine .done ⟨by kernel_rfl, fun a4 g W4 y4 zz4 hk hg hV hR hP => ?_⟩
  obtain ⟨e4, -, -, -, -⟩ := hV
  have e4 : sl a4 4 = (.bool (hasPre t p)) := e4
  replace kw := kw.x hk
  clear hR hk hg hP
  refine tail_nil (hK3 _ _ ?_)
  refine wp_ret ?_
  refine (show bodyPost Try.prog Try.f180 _ .ret _ _ from ret1 rfl zz4 e4 ⟨_, rfl, kw, ?_⟩)
  exact rfl

set_option maxRecDepth 100000 in
theorem utfLen_ok (t : ByteArray) (ht : t.size ≤ 1073741824) (w : World) : Calls Try.prog 179 #[.string t] w (Ret w fun u _ => ∃ n : Int, u = .tuple #[.int .i64 n, .bool (utfOk t)]) := by
  refine enter Try.func179 rfl Try.ntmps179 (lbr rfl) fun a0 y0 zz0 harg => ?_
  have e0 : sl a0 0 = (.string (t)) := harg 0 (lbr rfl)
  have kw := Keeps.refl All w
  clear harg
  refine wp_seq_k fun K1 hK1 => ?_
  refine rg mixed y0 zz0 ?_
  refine .i (sp_assign Has.cst) ?_
  refine .i (sp_assign Has.cst) ?_
  refine .done ⟨by kernel_rfl, fun a2 g W2 y2 zz2 hk hg hV hR hP => ?_⟩
  obtain ⟨-, -, -⟩ := hV
  replace e0 := (hR 0 rfl).trans e0
  replace kw := kw.x hk
  clear hR hk hg hP
  refine tail_nil (hK1 _ _ ?_)
  refine wp_seq_k fun K3 hK3 => ?_
  refine rg mixed y2 zz2 ?_
  refine .i (sp_assign Has.cst) ?_
  refine .done ⟨by kernel_rfl, fun a4 g W4 y4 zz4 hk hg hV hR hP => ?_⟩
  obtain ⟨e4, -⟩ := hV
  replace e0 := (hR 0 rfl).trans e0
  have e4 : sl a4 4 = (.int .i64 (0)) := e4
  replace kw := kw.x hk
  clear hR hk hg hP
  refine tail_nil (hK3 _ _ ?_)
  refine wp_seq_k fun K5 hK5 => ?_
  refine wp_seq_k fun K6 hK6 => ?_
  refine rg mixed y4 zz4 ?_
  refine .i (sp_move (hbs rfl e0)) ?_
  refine .rangeS Try.underlying9 (hlc rfl) ?_
  refine .done ⟨by kernel_rfl, fun a7 g W7 y7 zz7 hk hg hV hR hP => ?_⟩
  obtain ⟨⟨b8_7, e8, hb8, own_b8_7⟩, -, -⟩ := hV
  have lo_b8_7 : w.heap.size ≤ b8_7 := Nat.le_trans kw.size (hg.lo _ _ hb8)
  have own_b8_7 : OwnIt W7 b8_7 (t) (0) := own_b8_7
  replace e0 := (hR 0 rfl).trans e0
  replace e4 := (hR 4 rfl).trans e4
  replace kw := kw.x hk
  clear hR hk hg hP hb8
  refine tail_nil (hK6 _ _ ?_)
  refine wp_block ?_
  refine wp_for (t.size) (fun k a W => ∃ (p : Nat), ∃ (f : Nat), a.tmps.size = 25 ∧ a.defers = [] ∧ Keeps All w W ∧ sl a 0 = (.string (t)) ∧ sl a 4 = (.int .i64 ((k : Nat))) ∧ sl a 8 = (.pointer (some ⟨b8_7, 0, none⟩)) ∧ OwnIt W b8_7 (t) (p) ∧ (k ≤ p) ∧ (utfOk t = utfFrom t f p) ∧ (t.size ≤ p + f)) ⟨0, t.size, y7, zz7, kw, e0, (e4.trans (congrArg (Value.int .i64) (rfl))), e8, own_b8_7, Nat.le_refl _, rfl, by omega⟩ ?_
  clear kw e0 e4 e8 own_b8_7
  rintro k a8 W8 hkk ⟨p, f, y8, zz8, kw, e0, e4, e8, own_b8_7, hkp, hfu, hfp⟩
  refine wp_seq_k fun K9 hK9 => ?_
  refine wp_next (b := b8_7) (p := p) (s := t) mixed y8 zz8 e8 own_b8_7 (by decide) (by kernel_rfl) (fun a10 W10 y10 zz10 hk hlt own_b8_7 e9 e10 hr => ?_) (fun a10 W10 y10 zz10 hk hge own_b8_7 e9 e10 hr => ?_)
  ·
   replace e0 := (hr 0 (by decide) (by decide)).trans e0
   replace e4 := (hr 4 (by decide) (by decide)).trans e4
   replace e8 := (hr 8 (by decide) (by decide)).trans e8
   replace kw := keeps_store kw hk lo_b8_7
   clear hr hk
   have hwp := width_pos t p hlt
   obtain ⟨f, rfl⟩ : ∃ f', f = f' + 1 := ⟨f - 1, by omega⟩
   rw [utfFrom, if_pos hlt] at hfu
   refine id (hK9 _ _ ?_)
   refine wp_seq_k fun K11 hK11 => ?_
   refine wp_cond_true e10 ?_
   refine wp_skip (hK11 _ _ ?_)
   refine wp_block ?_
   refine wp_seq_k fun K12 hK12 => ?_
   refine rg mixed y10 zz10 ?_
   refine .i (v := (.int .i64 ((p : Nat)))) (sp_extT (hbs rfl e9) rfl) ?_
   refine .i (v := (.int .i32 (((Utf8.decode t p).1 : Nat)))) (sp_extT (hbs rfl e9) rfl) ?_
   refine .i (sp_assign (hlc rfl)) ?_
   refine .i (sp_assign (hlc rfl)) ?_
   refine .done ⟨by kernel_rfl, fun a13 g W13 y13 zz13 hk hg hV hR hP => ?_⟩
   obtain ⟨e6, e5, -, -, -⟩ := hV
   replace e0 := (hR 0 rfl).trans e0
   replace e4 := (hR 4 rfl).trans e4
   replace e8 := (hR 8 rfl).trans e8
   have e5 : sl a13 5 = (.int .i64 ((p : Nat))) := e5
   replace e6 := e6.q
   replace own_b8_7 := own_b8_7.ext hk
   replace kw := kw.x hk
   clear hR hk hg hP
   refine tail_nil (hK12 _ _ ?_)
   refine wp_seq_k fun K14 hK14 => ?_
   refine wp_seq_k fun K15 hK15 => ?_
   refine rg mixed y13 zz13 ?_
   refine .i (sp_move (hbs rfl e6)) ?_
   refine .i (sp_eql (hlc rfl) Has.cst) ?_
   refine .i (sp_move (hlc rfl)) ?_
   refine .e (t := 15) rfl (hlc rfl) (fun hg => sp_move (hbs rfl e0)) ?_
   refine .e (t := 15) rfl (hlc rfl) (fun hg => sp_move (hbs rfl e5)) ?_
   refine .e (t := 15) (v := (.string (t.extract p t.size))) rfl (hlc rfl) (fun hg => sp_sliceLo (i := p) Try.underlying9 ((hlc rfl).undE hg) ((hlc rfl).undE hg) rfl (by omega)) ?_
   refine .e (t := 15) (v := (.bool (hasPre (t.extract p t.size) ⟨#[239, 191, 189]⟩))) rfl (hlc rfl) (fun hg => sp_call2 (φ1 := Is (.string (t.extract p t.size))) (φ2 := Is (.string (⟨#[239, 191, 189]⟩))) ent180 ((hlc rfl).undE hg) Has.cst (fun g u1 u2 W hk hgk h1 h2 => by have h1 : u1 = _ := h1; subst u1; have h2 : u2 = _ := h2; subst u2; exact hasPrefix_ok (t.extract p t.size) (⟨#[239, 191, 189]⟩) W)) ?_
   refine .e (t := 15) rfl (hlc rfl) (fun hg => sp_not ((hlc rfl).undE hg)) ?_
   refine .i (sp_and (hlc rfl) ((hlc rfl).weak fun hq => hq)) ?_
   refine .done ⟨by kernel_rfl, fun a16 g W16 y16 zz16 hk hg hV hR hP => ?_⟩
   obtain ⟨e21, -, -, -, -, -, -, -, -, -⟩ := hV
   replace e0 := (hR 0 rfl).trans e0
   replace e4 := (hR 4 rfl).trans e4
   replace e8 := (hR 8 rfl).trans e8
   replace e21 := e21.q
   replace own_b8_7 := own_b8_7.ext hk
   replace kw := kw.x hk
   clear hR hk hg hP
   refine tail_nil (hK15 _ _ ?_)
   refine wp_cond_split e21 (fun hc => ?_) (fun hc => ?_)
   ·
    simp at hc
    have hfin : utfOk t = false := by rw [hfu, if_pos ⟨by omega, hc.2⟩]
    refine wp_seq_k fun K17 hK17 => ?_
    refine rg mixed y16 zz16 ?_
    refine .i (sp_assign Has.cst) ?_
    refine .i (sp_assign Has.cst) ?_
    refine .done ⟨by kernel_rfl, fun a18 g W18 y18 zz18 hk hg hV hR hP => ?_⟩
    obtain ⟨e3, e2, -⟩ := hV
    have e2 : sl a18 2 = (.int .i64 (0)) := e2
    have e3 : sl a18 3 = (.bool (false)) := e3
    replace own_b8_7 := own_b8_7.ext hk
    replace kw := kw.x hk
    clear hR hk hg hP
    refine tail_nil (hK17 _ _ ?_)
    refine wp_ret ?_
    refine (show bodyPost Try.prog Try.f179 _ .ret _ _ from ret2 rfl zz18 e2 e3 ⟨_, rfl, kw, ?_⟩)
    rw [hfin]
    exact ⟨_, rfl⟩
   ·
    simp at hc
    rw [if_neg (fun h => by have h2 := hc (by omega); have h3 := h.2; unfold badRune at h3; rw [h2] at h3; cases h3)] at hfu
    refine wp_skip (hK14 _ _ ?_)
    refine rg mixed y16 zz16 ?_
    refine .i (sp_move (hbs rfl e4)) ?_
    refine .i (sp_add (hlc rfl) Has.cst (i64_in (by omega))) ?_
    refine .i (sp_assign (hlc rfl)) ?_
    refine .done ⟨by kernel_rfl, fun a19 g W19 y19 zz19 hk hg hV hR hP => ?_⟩
    obtain ⟨e4, -, -, -⟩ := hV
    replace e0 := (hR 0 rfl).trans e0
    replace e8 := (hR 8 rfl).trans e8
    replace e4 := e4.q
    replace own_b8_7 := own_b8_7.ext hk
    replace kw := kw.x hk
    clear hR hk hg hP
    exact tail_nil ⟨by omega, _, f, y19, zz19, kw, e0, (e4.trans (congrArg (Value.int .i64) (by simp))), e8, own_b8_7, by omega, hfu, by omega⟩
  ·
   replace e0 := (hr 0 (by decide) (by decide)).trans e0
   replace e4 := (hr 4 (by decide) (by decide)).trans e4
   replace e8 := (hr 8 (by decide) (by decide)).trans e8
   replace kw := keeps_store kw hk lo_b8_7
   clear hr hk
   have hfin : utfOk t = true := hfu.trans (utfFrom_end hge)
   refine id (hK9 _ _ ?_)
   refine wp_seq_k fun K20 hK20 => ?_
   refine wp_cond_false e10 ?_
   refine wp_exit (hK5 _ _ ?_)
   refine wp_seq_k fun K21 hK21 => ?_
   refine rg mixed y10 zz10 ?_
   refine .i (sp_move (hbs rfl e4)) ?_
   refine .i (sp_assign (hlc rfl)) ?_
   refine .i (sp_assign Has.cst) ?_
   refine .done ⟨by kernel_rfl, fun a22 g W22 y22 zz22 hk hg hV hR hP => ?_⟩
   obtain ⟨e3, e2, -, -⟩ := hV
   have e2 : sl a22 2 = (.int .i64 ((k : Nat))) := e2
   have e3 : sl a22 3 = (.bool (true)) := e3
   replace own_b8_7 := own_b8_7.ext hk
   replace kw := kw.x hk
   clear hR hk hg hP
   refine tail_nil (hK21 _ _ ?_)
   refine wp_ret ?_
   refine (show bodyPost Try.prog Try.f179 _ .ret _ _ from ret2 rfl zz22 e2 e3 ⟨_, rfl, kw, ?_⟩)
   rw [hfin]
   exact ⟨_, rfl⟩

set_option maxRecDepth 100000 in
theorem valid_ok (t : ByteArray) (ht : t.size ≤ 1073741824) (w : World) : Calls Try.prog 177 #[.string t] w (Ret w fun u _ => u = .bool (utfOk t)) := by
  refine enter Try.func177 rfl Try.ntmps177 (lbr rfl) fun a0 y0 zz0 harg => ?_
  have e0 : sl a0 0 = (.string (t)) := harg 0 (lbr rfl)
  have kw := Keeps.refl All w
  clear harg
  refine wp_seq_k fun K1 hK1 => ?_
  refine rg mixed y0 zz0 ?_
  refine .i (sp_assign Has.cst) ?_
  refine .done ⟨by kernel_rfl, fun a2 g W2 y2 zz2 hk hg hV hR hP => ?_⟩
  obtain ⟨-, -⟩ := hV
  replace e0 := (hR 0 rfl).trans e0
  replace kw := kw.x hk
  clear hR hk hg hP
  refine tail_nil (hK1 _ _ ?_)
  refine wp_seq_k fun K3 hK3 => ?_
  refine rg mixed y2 zz2 ?_
  refine .i (sp_move (hbs rfl e0)) ?_
  refine .op (φ := IsT (Any) (Is (.bool (utfOk t)))) (st_t st_any (st_is _)) (sp_call1 (φ1 := Is (.string (t))) ent179 (hlc rfl) (fun g u1 W hk hgk h1 => by have h1 : u1 = _ := h1; subst u1; exact (utfLen_ok (t) (by omega) W).mono (fun _ _ ⟨v, h1, h2, n, h3⟩ => ⟨v, h1, h2, _, _, h3, trivial, rfl⟩))) ?_
  refine .op (φ := IsT (Any) (Is (.bool (utfOk t)))) (st_t st_any (st_is _)) (sp_move (hlc rfl)) ?_
  refine .op (φ := Any) st_any (sp_ext2 (hlc rfl) rfl) ?_
  refine .i (v := (.bool (utfOk t))) (sp_ext2' (hlc rfl) rfl) ?_
  refine .op (φ := Any) st_any (sp_assign (hlc rfl)) ?_
  refine .i (sp_assign (hlc rfl)) ?_
  refine .done ⟨by kernel_rfl, fun a4 g W4 y4 zz4 hk hg hV hR hP => ?_⟩
  obtain ⟨e4, -, -, -, -, -, -, -⟩ := hV
  have e4 : sl a4 4 = (.bool (utfOk t)) := e4
  replace kw := kw.x hk
  clear hR hk hg hP
  refine tail_nil (hK3 _ _ ?_)
  refine wp_seq_k fun K5 hK5 => ?_
  refine rg mixed y4 zz4 ?_
  refine .i (sp_move (hbs rfl e4)) ?_
  refine .i (sp_assign (hlc rfl)) ?_
  refine .done ⟨by kernel_rfl, fun a6 g W6 y6 zz6 hk hg hV hR hP => ?_⟩
  obtain ⟨e2, -, -⟩ := hV
  have e2 : sl a6 2 = (.bool (utfOk t)) := e2
  replace kw := kw.x hk
  clear hR hk hg hP
  refine tail_nil (hK5 _ _ ?_)
  refine wp_ret ?_
  refine (show bodyPost Try.prog Try.f177 _ .ret _ _ from ret1 rfl zz6 e2 ⟨_, rfl, kw, ?_⟩)
  exact rfl

set_option maxRecDepth 100000 in
theorem written_ok (t : ByteArray) (w : World) : Calls Try.prog 169 #[.string t] w (Ret w fun u _ => u = .bool (wr t)) := by
  refine enter Try.func169 rfl Try.ntmps169 (lbr rfl) fun a0 y0 zz0 harg => ?_
  have e0 : sl a0 0 = (.string (t)) := harg 0 (lbr rfl)
  have kw := Keeps.refl All w
  clear harg
  refine wp_seq_k fun K1 hK1 => ?_
  refine rg mixed y0 zz0 ?_
  refine .i (sp_assign Has.cst) ?_
  refine .done ⟨by kernel_rfl, fun a2 g W2 y2 zz2 hk hg hV hR hP => ?_⟩
  obtain ⟨-, -⟩ := hV
  replace e0 := (hR 0 rfl).trans e0
  replace kw := kw.x hk
  clear hR hk hg hP
  refine tail_nil (hK1 _ _ ?_)
  refine wp_seq_k fun K3 hK3 => ?_
  refine rg mixed y2 zz2 ?_
  refine .i (sp_move (hbs rfl e0)) ?_
  refine .i (sp_lenS Try.underlying9 (hlc rfl)) ?_
  refine .i (sp_leq (hlc rfl) Has.cst) ?_
  refine .i (sp_move (hlc rfl)) ?_
  refine .e (t := 6) rfl (hlc rfl) (fun hg => sp_move (hbs rfl e0)) ?_
  refine .e (t := 6) (v := (.bool (utfOk t))) rfl (hlc rfl) (fun hg => sp_call1 (φ1 := Is (.string (t))) ent177 ((hlc rfl).undE hg) (fun g u1 W hk hgk h1 => by have h1 : u1 = _ := h1; subst u1; exact valid_ok (t) (by first | omega | (simp at hg; omega)) W)) ?_
  refine .i (sp_and (hlc rfl) ((hlc rfl).weak fun hq => hq)) ?_
  refine .i (sp_assign (hlc rfl)) ?_
  refine .done ⟨by kernel_rfl, fun a4 g W4 y4 zz4 hk hg hV hR hP => ?_⟩
  obtain ⟨e2, -, -, -, -, -, -, -, -⟩ := hV
  replace e2 := e2.q
  replace kw := kw.x hk
  clear hR hk hg hP
  refine tail_nil (hK3 _ _ ?_)
  refine wp_ret ?_
  refine (show bodyPost Try.prog Try.f169 _ .ret _ _ from ret1 rfl zz4 e2 ⟨_, rfl, kw, ?_⟩)
  congr 1; unfold wr; congr 1; exact decide_eq_decide.2 (by omega)

set_option maxRecDepth 100000 in
theorem proper_ok (x : V) (w : World) (S : BSet) (v : Value) (hv : Rd w S x.d v) : Calls Try.prog 151 #[v] w (Ret w fun u _ => u = .bool (properB x)) := by
  have hp := properG_eq x
  have hmn : x.ns.length ≤ maxLen := by obtain ⟨_, _, _, _, _, _, h, _⟩ := rdV_out hv; exact rd_lenS h
  simp only [maxLen] at hmn
  obtain ⟨cn0a, cn0c, ci0a, ci0c, ev, ht0, D_cn0, D_ci0⟩ := rdV_out (rd_arg hv)
  subst ev
  refine enter Try.func151 rfl Try.ntmps151 (lbr rfl) fun a0 y0 zz0 harg => ?_
  have e0 : sl a0 0 = (.agg #[(.int .u8 (x.k)), (.int .i64 (x.n)), (.string (x.t)), (.slice cn0a (x.ns.length) cn0c), (.slice ci0a (x.xs.length) ci0c)]) := harg 0 (lbr rfl)
  have kw := Keeps.refl All w
  clear harg
  refine wp_seq_k fun K1 hK1 => ?_
  refine rg mixed y0 zz0 ?_
  refine .boxOp (v := (.agg #[(.int .u8 (x.k)), (.int .i64 (x.n)), (.string (x.t)), (.slice cn0a (x.ns.length) cn0c), (.slice ci0a (x.xs.length) ci0c)])) (hbs rfl e0) ?_
  refine .i (sp_assign Has.cst) ?_
  refine .done ⟨by kernel_rfl, fun a2 g W2 y2 zz2 hk hg hV hR hP => ?_⟩
  obtain ⟨-, ⟨b1_2, e1, hb1, own_b1_2⟩, -⟩ := hV
  have lo_b1_2 : w.heap.size ≤ b1_2 := Nat.le_trans kw.size (hg.lo _ _ hb1)
  have own_b1_2 : Own W2 b1_2 [(.int .u8 (x.k)), (.int .i64 (x.n)), (.string (x.t)), (.slice cn0a (x.ns.length) cn0c), (.slice ci0a (x.xs.length) ci0c)] 33 := own_b1_2
  replace D_cn0 := sa_more D_cn0 hk [b1_2] (in_cons (hg.lo _ _ hb1) in_nil)
  replace D_ci0 := sa_more D_ci0 hk [b1_2] (in_cons (hg.lo _ _ hb1) in_nil)
  replace kw := kw.x hk
  clear hR hk hg hP hb1
  refine tail_nil (hK1 _ _ ?_)
  refine wp_seq_k fun K3 hK3 => ?_
  refine wp_seq_k fun K4 hK4 => ?_
  refine rg mixed y2 zz2 ?_
  refine .i (fo 0 (hbs rfl e1) Try.underlying33 rfl sz5 rfl) ?_
  refine .i (lo1 (hlc rfl) own_b1_2 trivial agg5 sz5 rfl) ?_
  refine .i (sp_neq (hlc rfl) Has.cst) ?_
  refine .i (sp_move (hlc rfl)) ?_
  refine .e (t := 8) rfl (hlc rfl) (fun hg => fo 0 (hbs rfl e1) Try.underlying33 rfl sz5 rfl) ?_
  refine .e (t := 8) rfl (hlc rfl) (fun hg => lo1 ((hlc rfl).undE hg) own_b1_2 trivial agg5 sz5 rfl) ?_
  refine .e (t := 8) rfl (hlc rfl) (fun hg => sp_neq ((hlc rfl).undE hg) Has.cst) ?_
  refine .i (sp_and (hlc rfl) ((hlc rfl).weak fun hq => hq)) ?_
  refine .i (sp_move (hlc rfl)) ?_
  refine .e (t := 13) rfl (hlc rfl) (fun hg => fo 1 (hbs rfl e1) Try.underlying33 rfl sz2 rfl) ?_
  refine .e (t := 13) rfl (hlc rfl) (fun hg => lo1 ((hlc rfl).undE hg) own_b1_2 trivial agg2 sz2 rfl) ?_
  refine .e (t := 13) rfl (hlc rfl) (fun hg => sp_neq ((hlc rfl).undE hg) Has.cst) ?_
  refine .i (sp_and (hlc rfl) ((hlc rfl).weak fun hq => hq)) ?_
  refine .i (sp_move (hlc rfl)) ?_
  refine .e (t := 18) rfl (hlc rfl) (fun hg => fo 0 (hbs rfl e1) Try.underlying33 rfl sz5 rfl) ?_
  refine .e (t := 18) rfl (hlc rfl) (fun hg => lo1 ((hlc rfl).undE hg) own_b1_2 trivial agg5 sz5 rfl) ?_
  refine .e (t := 18) rfl (hlc rfl) (fun hg => sp_neq ((hlc rfl).undE hg) Has.cst) ?_
  refine .e (t := 18) rfl (hlc rfl) (fun hg => sp_move ((hlc rfl).undE hg)) ?_
  refine .opEE (t := 22) (x := (x.k : Int) != (3 : Int)) (p := ((((x.k : Int) != (1 : Int)) && ((x.k : Int) != (2 : Int))) && ((x.n : Int) != (0 : Int))) = false) (φ := Is (.pointer (some ⟨b1_2, 2, none⟩))) rfl (hlc rfl) (st_is _) (fun hg => sp_fieldO (hbs rfl e1) Try.underlying33 rfl sz9 rfl) ?_
  refine .opEE (t := 22) (x := (x.k : Int) != (3 : Int)) (p := ((((x.k : Int) != (1 : Int)) && ((x.k : Int) != (2 : Int))) && ((x.n : Int) != (0 : Int))) = false) (φ := Is (.string (x.t))) rfl (hlc rfl) (st_is _) (fun hg => sp_loadO (v := (.string (x.t))) ((hlc rfl).undE hg) own_b1_2 trivial agg9 sz9 (lbr rfl) (fun h => by first | rfl | cases h) rfl) ?_
  refine .opEE (t := 22) (x := (x.k : Int) != (3 : Int)) (p := ((((x.k : Int) != (1 : Int)) && ((x.k : Int) != (2 : Int))) && ((x.n : Int) != (0 : Int))) = false) (φ := Is (.bool (!decide (x.t = (⟨#[]⟩ : ByteArray))))) rfl (hlc rfl) (st_is _) (fun hg => sp_sNeq ((hlc rfl).undE hg) Has.cst) ?_
  refine .e (t := 18) rfl (hlc rfl) (fun hg => sp_and ((hlc rfl).undE hg) ((hlc rfl).weak fun hq => ⟨hg, hq⟩)) ?_
  refine .i (sp_or (hlc rfl) ((hlc rfl).weak fun hq => hq)) ?_
  refine .done ⟨by kernel_rfl, fun a5 g W5 y5 zz5 hk hg hV hR hP => ?_⟩
  obtain ⟨e27, -, -, -, -, -, -, -, -, -, -, -, -, -, -, -, -, -, -, -, -, -, -, -⟩ := hV
  replace e1 := (hR 1 rfl).trans e1
  replace D_cn0 := D_cn0.ext hk
  replace D_ci0 := D_ci0.ext hk
  replace e27 := e27.q
  replace own_b1_2 := own_b1_2.ext hk
  replace kw := kw.x hk
  clear hR hk hg hP
  refine tail_nil (hK4 _ _ ?_)
  refine wp_cond_split e27 (fun hc => ?_) (fun hc => ?_)
  ·
   rw [hc, cond_true] at hp
   refine wp_seq_k fun K6 hK6 => ?_
   refine rg mixed y5 zz5 ?_
   refine .i (sp_assign Has.cst) ?_
   refine .done ⟨by kernel_rfl, fun a7 g W7 y7 zz7 hk hg hV hR hP => ?_⟩
   obtain ⟨e2, -⟩ := hV
   replace D_cn0 := D_cn0.ext hk
   replace D_ci0 := D_ci0.ext hk
   have e2 : sl a7 2 = (.bool (false)) := e2
   replace own_b1_2 := own_b1_2.ext hk
   replace kw := kw.x hk
   clear hR hk hg hP
   refine tail_nil (hK6 _ _ ?_)
   refine wp_ret ?_
   refine (show bodyPost Try.prog Try.f151 _ .ret _ _ from ret1 rfl zz7 e2 ⟨_, rfl, kw, ?_⟩)
   rw [hp]
  ·
   rw [hc, cond_false] at hp
   refine wp_skip (hK3 _ _ ?_)
   refine wp_seq_k fun K8 hK8 => ?_
   refine wp_seq_k fun K9 hK9 => ?_
   refine rg mixed y5 zz5 ?_
   refine .i (fo 0 (hbs rfl e1) Try.underlying33 rfl sz5 rfl) ?_
   refine .i (lo1 (hlc rfl) own_b1_2 trivial agg5 sz5 rfl) ?_
   refine .i (sp_neq (hlc rfl) Has.cst) ?_
   refine .i (sp_move (hlc rfl)) ?_
   refine .e (t := 31) rfl (hlc rfl) (fun hg => fo 3 (hbs rfl e1) Try.underlying33 rfl sz23 rfl) ?_
   refine .e (t := 31) rfl (hlc rfl) (fun hg => lo1 ((hlc rfl).undE hg) own_b1_2 trivial agg23 sz23 rfl) ?_
   refine .e (t := 31) rfl (hlc rfl) (fun hg => sp_lenSs Try.underlying23 (((hlc rfl).undE hg).dat D_cn0 sub_all)) ?_
   refine .e (t := 31) rfl (hlc rfl) (fun hg => sp_gtr ((hlc rfl).undE hg) Has.cst) ?_
   refine .i (sp_and (hlc rfl) ((hlc rfl).weak fun hq => hq)) ?_
   refine .i (sp_move (hlc rfl)) ?_
   refine .e (t := 37) rfl (hlc rfl) (fun hg => fo 0 (hbs rfl e1) Try.underlying33 rfl sz5 rfl) ?_
   refine .e (t := 37) rfl (hlc rfl) (fun hg => lo1 ((hlc rfl).undE hg) own_b1_2 trivial agg5 sz5 rfl) ?_
   refine .e (t := 37) rfl (hlc rfl) (fun hg => sp_neq ((hlc rfl).undE hg) Has.cst) ?_
   refine .e (t := 37) rfl (hlc rfl) (fun hg => sp_move ((hlc rfl).undE hg)) ?_
   refine .opEE (t := 41) (x := (x.k : Int) != (5 : Int)) (p := (((x.k : Int) != (5 : Int)) && (decide ((0 : Int) < (x.ns.length : Int)))) = false) (φ := Is (.pointer (some ⟨b1_2, 0, none⟩))) rfl (hlc rfl) (st_is _) (fun hg => sp_fieldO (hbs rfl e1) Try.underlying33 rfl sz5 rfl) ?_
   refine .opEE (t := 41) (x := (x.k : Int) != (5 : Int)) (p := (((x.k : Int) != (5 : Int)) && (decide ((0 : Int) < (x.ns.length : Int)))) = false) (φ := Is (.int .u8 (x.k))) rfl (hlc rfl) (st_is _) (fun hg => sp_loadO (v := (.int .u8 (x.k))) ((hlc rfl).undE hg) own_b1_2 trivial agg5 sz5 (lbr rfl) (fun h => by first | rfl | cases h) rfl) ?_
   refine .opEE (t := 41) (x := (x.k : Int) != (5 : Int)) (p := (((x.k : Int) != (5 : Int)) && (decide ((0 : Int) < (x.ns.length : Int)))) = false) (φ := Is (.bool ((x.k : Int) != (4 : Int)))) rfl (hlc rfl) (st_is _) (fun hg => sp_neq ((hlc rfl).undE hg) Has.cst) ?_
   refine .e (t := 37) rfl (hlc rfl) (fun hg => sp_and ((hlc rfl).undE hg) ((hlc rfl).weak fun hq => ⟨hg, hq⟩)) ?_
   refine .e (t := 37) rfl (hlc rfl) (fun hg => sp_move ((hlc rfl).undE hg)) ?_
   refine .opEE (t := 46) (x := ((x.k : Int) != (5 : Int)) && ((x.k : Int) != (4 : Int))) (p := (((x.k : Int) != (5 : Int)) && (decide ((0 : Int) < (x.ns.length : Int)))) = false) (φ := Is (.pointer (some ⟨b1_2, 4, none⟩))) rfl (hlc rfl) (st_is _) (fun hg => sp_fieldO (hbs rfl e1) Try.underlying33 rfl sz31 rfl) ?_
   refine .opEE (t := 46) (x := ((x.k : Int) != (5 : Int)) && ((x.k : Int) != (4 : Int))) (p := (((x.k : Int) != (5 : Int)) && (decide ((0 : Int) < (x.ns.length : Int)))) = false) (φ := Is (.slice ci0a (x.xs.length) ci0c)) rfl (hlc rfl) (st_is _) (fun hg => sp_loadO (v := (.slice ci0a (x.xs.length) ci0c)) ((hlc rfl).undE hg) own_b1_2 trivial agg31 sz31 (lbr rfl) (fun h => by first | rfl | cases h) rfl) ?_
   refine .opEE (t := 46) (x := ((x.k : Int) != (5 : Int)) && ((x.k : Int) != (4 : Int))) (p := (((x.k : Int) != (5 : Int)) && (decide ((0 : Int) < (x.ns.length : Int)))) = false) (φ := Is (.int .i64 (x.xs.length))) rfl (hlc rfl) (st_is _) (fun hg => sp_lenVs Try.underlying31 (((hlc rfl).undE hg).dat D_ci0 sub_all)) ?_
   refine .opEE (t := 46) (x := ((x.k : Int) != (5 : Int)) && ((x.k : Int) != (4 : Int))) (p := (((x.k : Int) != (5 : Int)) && (decide ((0 : Int) < (x.ns.length : Int)))) = false) (φ := Is (.bool (decide ((0 : Int) < (x.xs.length : Int))))) rfl (hlc rfl) (st_is _) (fun hg => sp_gtr ((hlc rfl).undE hg) Has.cst) ?_
   refine .e (t := 37) rfl (hlc rfl) (fun hg => sp_and ((hlc rfl).undE hg) ((hlc rfl).weak fun hq => ⟨hg, hq⟩)) ?_
   refine .i (sp_or (hlc rfl) ((hlc rfl).weak fun hq => hq)) ?_
   refine .done ⟨by kernel_rfl, fun a10 g W10 y10 zz10 hk hg hV hR hP => ?_⟩
   obtain ⟨e52, -, -, -, -, -, -, -, -, -, -, -, -, -, -, -, -, -, -, -, -, -, -, -, -, -⟩ := hV
   replace e1 := (hR 1 rfl).trans e1
   replace D_cn0 := D_cn0.ext hk
   replace D_ci0 := D_ci0.ext hk
   replace e52 := e52.q
   replace own_b1_2 := own_b1_2.ext hk
   replace kw := kw.x hk
   clear hR hk hg hP
   refine tail_nil (hK9 _ _ ?_)
   refine wp_cond_split e52 (fun hc => ?_) (fun hc => ?_)
   ·
    rw [hc, cond_true] at hp
    refine wp_seq_k fun K11 hK11 => ?_
    refine rg mixed y10 zz10 ?_
    refine .i (sp_assign Has.cst) ?_
    refine .done ⟨by kernel_rfl, fun a12 g W12 y12 zz12 hk hg hV hR hP => ?_⟩
    obtain ⟨e2, -⟩ := hV
    replace D_cn0 := D_cn0.ext hk
    replace D_ci0 := D_ci0.ext hk
    have e2 : sl a12 2 = (.bool (false)) := e2
    replace own_b1_2 := own_b1_2.ext hk
    replace kw := kw.x hk
    clear hR hk hg hP
    refine tail_nil (hK11 _ _ ?_)
    refine wp_ret ?_
    refine (show bodyPost Try.prog Try.f151 _ .ret _ _ from ret1 rfl zz12 e2 ⟨_, rfl, kw, ?_⟩)
    rw [hp]
   ·
    rw [hc, cond_false] at hp
    refine wp_skip (hK8 _ _ ?_)
    refine wp_seq_k fun K13 hK13 => ?_
    refine wp_seq_k fun K14 hK14 => ?_
    refine rg mixed y10 zz10 ?_
    refine .i (fo 0 (hbs rfl e1) Try.underlying33 rfl sz5 rfl) ?_
    refine .i (lo1 (hlc rfl) own_b1_2 trivial agg5 sz5 rfl) ?_
    refine .done ⟨by kernel_rfl, fun a15 g W15 y15 zz15 hk hg hV hR hP => ?_⟩
    obtain ⟨e54, -, -⟩ := hV
    replace e1 := (hR 1 rfl).trans e1
    replace D_cn0 := D_cn0.ext hk
    replace D_ci0 := D_ci0.ext hk
    have e54 : sl a15 54 = (.int .u8 (x.k)) := e54
    replace own_b1_2 := own_b1_2.ext hk
    replace kw := kw.x hk
    clear hR hk hg hP
    refine tail_nil (hK14 _ _ ?_)
    refine wp_block ?_
    refine wp_seq_k fun K16 hK16 => ?_
    refine rg mixed y15 zz15 ?_
    refine .i (sp_eql (hbs rfl e54) Has.cst) ?_
    refine .i (sp_assign (hlc rfl)) ?_
    refine .done ⟨by kernel_rfl, fun a17 g W17 y17 zz17 hk hg hV hR hP => ?_⟩
    obtain ⟨e55, -, -⟩ := hV
    replace e1 := (hR 1 rfl).trans e1
    replace e54 := (hR 54 rfl).trans e54
    replace D_cn0 := D_cn0.ext hk
    replace D_ci0 := D_ci0.ext hk
    have e55 : sl a17 55 = (.bool ((x.k : Int) == (1 : Int))) := e55
    replace own_b1_2 := own_b1_2.ext hk
    replace kw := kw.x hk
    clear hR hk hg hP
    refine tail_nil (hK16 _ _ ?_)
    refine wp_cond_split e55 (fun hc => ?_) (fun hc => ?_)
    ·
     rw [hc, cond_true] at hp
     refine wp_seq_k fun K18 hK18 => ?_
     refine rg mixed y17 zz17 ?_
     refine .i (fo 1 (hbs rfl e1) Try.underlying33 rfl sz2 rfl) ?_
     refine .i (lo1 (hlc rfl) own_b1_2 trivial agg2 sz2 rfl) ?_
     refine .i (sp_eql (hlc rfl) Has.cst) ?_
     refine .i (sp_move (hlc rfl)) ?_
     refine .e (t := 60) rfl (hlc rfl) (fun hg => fo 1 (hbs rfl e1) Try.underlying33 rfl sz2 rfl) ?_
     refine .e (t := 60) rfl (hlc rfl) (fun hg => lo1 ((hlc rfl).undE hg) own_b1_2 trivial agg2 sz2 rfl) ?_
     refine .e (t := 60) rfl (hlc rfl) (fun hg => sp_eql ((hlc rfl).undE hg) Has.cst) ?_
     refine .i (sp_or (hlc rfl) ((hlc rfl).weak fun hq => hq)) ?_
     refine .i (sp_assign (hlc rfl)) ?_
     refine .done ⟨by kernel_rfl, fun a19 g W19 y19 zz19 hk hg hV hR hP => ?_⟩
     obtain ⟨e2, -, -, -, -, -, -, -, -, -⟩ := hV
     replace D_cn0 := D_cn0.ext hk
     replace D_ci0 := D_ci0.ext hk
     replace e2 := e2.q
     replace own_b1_2 := own_b1_2.ext hk
     replace kw := kw.x hk
     clear hR hk hg hP
     refine tail_nil (hK18 _ _ ?_)
     refine wp_ret ?_
     refine (show bodyPost Try.prog Try.f151 _ .ret _ _ from ret1 rfl zz19 e2 ⟨_, rfl, kw, ?_⟩)
     rw [hp]
    ·
     rw [hc, cond_false] at hp
     refine wp_seq_k fun K20 hK20 => ?_
     refine wp_seq_k fun K21 hK21 => ?_
     refine rg mixed y17 zz17 ?_
     refine .i (sp_eql (hbs rfl e54) Has.cst) ?_
     refine .i (sp_assign (hlc rfl)) ?_
     refine .done ⟨by kernel_rfl, fun a22 g W22 y22 zz22 hk hg hV hR hP => ?_⟩
     obtain ⟨e65, -, -⟩ := hV
     replace e1 := (hR 1 rfl).trans e1
     replace e54 := (hR 54 rfl).trans e54
     replace D_cn0 := D_cn0.ext hk
     replace D_ci0 := D_ci0.ext hk
     have e65 : sl a22 65 = (.bool ((x.k : Int) == (2 : Int))) := e65
     replace own_b1_2 := own_b1_2.ext hk
     replace kw := kw.x hk
     clear hR hk hg hP
     refine tail_nil (hK21 _ _ ?_)
     refine wp_cond_split e65 (fun hc => ?_) (fun hc => ?_)
     ·
      rw [hc, cond_true] at hp
      have hc3 := hc
      refine wp_skip (hK20 _ _ ?_)
      refine wp_cond_split e65 (fun hc => ?_) (fun hc => ?_)
      ·
       refine wp_seq_k fun K23 hK23 => ?_
       refine rg mixed y22 zz22 ?_
       refine .i (sp_assign Has.cst) ?_
       refine .done ⟨by kernel_rfl, fun a24 g W24 y24 zz24 hk hg hV hR hP => ?_⟩
       obtain ⟨e2, -⟩ := hV
       replace D_cn0 := D_cn0.ext hk
       replace D_ci0 := D_ci0.ext hk
       have e2 : sl a24 2 = (.bool (true)) := e2
       replace own_b1_2 := own_b1_2.ext hk
       replace kw := kw.x hk
       clear hR hk hg hP
       refine tail_nil (hK23 _ _ ?_)
       refine wp_ret ?_
       refine (show bodyPost Try.prog Try.f151 _ .ret _ _ from ret1 rfl zz24 e2 ⟨_, rfl, kw, ?_⟩)
       rw [hp]
      ·
       rw [hc3] at hc; cases hc
     ·
      rw [hc, cond_false] at hp
      refine rg mixed y22 zz22 ?_
      refine .i (sp_eql (hbs rfl e54) Has.cst) ?_
      refine .i (sp_assign (hlc rfl)) ?_
      refine .done ⟨by kernel_rfl, fun a25 g W25 y25 zz25 hk hg hV hR hP => ?_⟩
      obtain ⟨e65, -, -⟩ := hV
      replace e1 := (hR 1 rfl).trans e1
      replace e54 := (hR 54 rfl).trans e54
      replace D_cn0 := D_cn0.ext hk
      replace D_ci0 := D_ci0.ext hk
      have e65 : sl a25 65 = (.bool ((x.k : Int) == (4 : Int))) := e65
      replace own_b1_2 := own_b1_2.ext hk
      replace kw := kw.x hk
      clear hR hk hg hP
      refine tail_nil (hK20 _ _ ?_)
      refine wp_cond_split e65 (fun hc => ?_) (fun hc => ?_)
      ·
       rw [hc, cond_true] at hp
       refine wp_seq_k fun K26 hK26 => ?_
       refine rg mixed y25 zz25 ?_
       refine .i (sp_assign Has.cst) ?_
       refine .done ⟨by kernel_rfl, fun a27 g W27 y27 zz27 hk hg hV hR hP => ?_⟩
       obtain ⟨e2, -⟩ := hV
       replace D_cn0 := D_cn0.ext hk
       replace D_ci0 := D_ci0.ext hk
       have e2 : sl a27 2 = (.bool (true)) := e2
       replace own_b1_2 := own_b1_2.ext hk
       replace kw := kw.x hk
       clear hR hk hg hP
       refine tail_nil (hK26 _ _ ?_)
       refine wp_ret ?_
       refine (show bodyPost Try.prog Try.f151 _ .ret _ _ from ret1 rfl zz27 e2 ⟨_, rfl, kw, ?_⟩)
       rw [hp]
      ·
       rw [hc, cond_false] at hp
       refine wp_seq_k fun K28 hK28 => ?_
       refine rg mixed y25 zz25 ?_
       refine .i (sp_eql (hbs rfl e54) Has.cst) ?_
       refine .i (sp_assign (hlc rfl)) ?_
       refine .done ⟨by kernel_rfl, fun a29 g W29 y29 zz29 hk hg hV hR hP => ?_⟩
       obtain ⟨e68, -, -⟩ := hV
       replace e1 := (hR 1 rfl).trans e1
       replace e54 := (hR 54 rfl).trans e54
       replace D_cn0 := D_cn0.ext hk
       replace D_ci0 := D_ci0.ext hk
       have e68 : sl a29 68 = (.bool ((x.k : Int) == (3 : Int))) := e68
       replace own_b1_2 := own_b1_2.ext hk
       replace kw := kw.x hk
       clear hR hk hg hP
       refine tail_nil (hK28 _ _ ?_)
       refine wp_cond_split e68 (fun hc => ?_) (fun hc => ?_)
       ·
        rw [hc, cond_true] at hp
        refine wp_seq_k fun K30 hK30 => ?_
        refine rg mixed y29 zz29 ?_
        refine .i (fo 2 (hbs rfl e1) Try.underlying33 rfl sz9 rfl) ?_
        refine .i (lo1 (hlc rfl) own_b1_2 trivial agg9 sz9 rfl) ?_
        refine .i (v := (.bool (wr x.t))) (sp_call1 (φ1 := Is (.string (x.t))) ent169 (hlc rfl) (fun g u1 W hk hgk h1 => by have h1 : u1 = _ := h1; subst u1; exact written_ok (x.t) W)) ?_
        refine .i (sp_assign (hlc rfl)) ?_
        refine .done ⟨by kernel_rfl, fun a31 g W31 y31 zz31 hk hg hV hR hP => ?_⟩
        obtain ⟨e2, -, -, -, -⟩ := hV
        replace D_cn0 := D_cn0.ext hk
        replace D_ci0 := D_ci0.ext hk
        have e2 : sl a31 2 = (.bool (wr x.t)) := e2
        replace own_b1_2 := own_b1_2.ext hk
        replace kw := kw.x hk
        clear hR hk hg hP
        refine tail_nil (hK30 _ _ ?_)
        refine wp_ret ?_
        refine (show bodyPost Try.prog Try.f151 _ .ret _ _ from ret1 rfl zz31 e2 ⟨_, rfl, kw, ?_⟩)
        rw [hp]
       ·
        rw [hc, cond_false] at hp
        refine wp_seq_k fun K32 hK32 => ?_
        refine rg mixed y29 zz29 ?_
        refine .i (sp_eql (hbs rfl e54) Has.cst) ?_
        refine .i (sp_assign (hlc rfl)) ?_
        refine .done ⟨by kernel_rfl, fun a33 g W33 y33 zz33 hk hg hV hR hP => ?_⟩
        obtain ⟨e73, -, -⟩ := hV
        replace e1 := (hR 1 rfl).trans e1
        replace D_cn0 := D_cn0.ext hk
        replace D_ci0 := D_ci0.ext hk
        have e73 : sl a33 73 = (.bool ((x.k : Int) == (5 : Int))) := e73
        replace own_b1_2 := own_b1_2.ext hk
        replace kw := kw.x hk
        clear hR hk hg hP
        refine tail_nil (hK32 _ _ ?_)
        refine wp_cond_split e73 (fun hc => ?_) (fun hc => ?_)
        ·
         rw [hc, cond_true] at hp
         refine wp_seq_k fun K34 hK34 => ?_
         refine wp_seq_k fun K35 hK35 => ?_
         refine rg mixed y33 zz33 ?_
         refine .i (fo 3 (hbs rfl e1) Try.underlying33 rfl sz23 rfl) ?_
         refine .i (lo1 (hlc rfl) own_b1_2 trivial agg23 sz23 rfl) ?_
         refine .i (sp_lenSs Try.underlying23 ((hlc rfl).dat D_cn0 sub_all)) ?_
         refine .i (fo 4 (hbs rfl e1) Try.underlying33 rfl sz31 rfl) ?_
         refine .i (lo1 (hlc rfl) own_b1_2 trivial agg31 sz31 rfl) ?_
         refine .i (sp_lenVs Try.underlying31 ((hlc rfl).dat D_ci0 sub_all)) ?_
         refine .i (sp_neq (hlc rfl) (hlc rfl)) ?_
         refine .i (sp_move (hlc rfl)) ?_
         refine .e (t := 82) rfl (hlc rfl) (fun hg => fo 3 (hbs rfl e1) Try.underlying33 rfl sz23 rfl) ?_
         refine .e (t := 82) rfl (hlc rfl) (fun hg => lo1 ((hlc rfl).undE hg) own_b1_2 trivial agg23 sz23 rfl) ?_
         refine .e (t := 82) (v := (.bool (asc x.ns))) rfl (hlc rfl) (fun hg => sp_call1 (φ1 := IsD (SA w S [b1_2]) (strsD (x.ns))) ent164 (((hlc rfl).undE hg).dat D_cn0 sub_all) (fun g u1 W hk hgk h1 => ascending_ok (x.ns) W _ _ h1)) ?_
         refine .e (t := 82) rfl (hlc rfl) (fun hg => sp_not ((hlc rfl).undE hg)) ?_
         refine .i (sp_or (hlc rfl) ((hlc rfl).weak fun hq => hq)) ?_
         refine .done ⟨by kernel_rfl, fun a36 g W36 y36 zz36 hk hg hV hR hP => ?_⟩
         obtain ⟨e87, -, -, -, -, -, -, -, -, -, -, -, -, -⟩ := hV
         replace e1 := (hR 1 rfl).trans e1
         replace D_cn0 := D_cn0.ext hk
         replace D_ci0 := D_ci0.ext hk
         replace e87 := e87.q
         replace own_b1_2 := own_b1_2.ext hk
         replace kw := kw.x hk
         clear hR hk hg hP
         refine tail_nil (hK35 _ _ ?_)
         refine wp_cond_split e87 (fun hc => ?_) (fun hc => ?_)
         ·
          rw [hc, cond_true] at hp
          refine wp_seq_k fun K37 hK37 => ?_
          refine rg mixed y36 zz36 ?_
          refine .i (sp_assign Has.cst) ?_
          refine .done ⟨by kernel_rfl, fun a38 g W38 y38 zz38 hk hg hV hR hP => ?_⟩
          obtain ⟨e2, -⟩ := hV
          replace D_cn0 := D_cn0.ext hk
          replace D_ci0 := D_ci0.ext hk
          have e2 : sl a38 2 = (.bool (false)) := e2
          replace own_b1_2 := own_b1_2.ext hk
          replace kw := kw.x hk
          clear hR hk hg hP
          refine tail_nil (hK37 _ _ ?_)
          refine wp_ret ?_
          refine (show bodyPost Try.prog Try.f151 _ .ret _ _ from ret1 rfl zz38 e2 ⟨_, rfl, kw, ?_⟩)
          rw [hp]
         ·
          rw [hc, cond_false] at hp
          refine wp_skip (hK34 _ _ ?_)
          refine wp_seq_k fun K39 hK39 => ?_
          refine wp_seq_k fun K40 hK40 => ?_
          refine rg mixed y36 zz36 ?_
          refine .i (fo 3 (hbs rfl e1) Try.underlying33 rfl sz23 rfl) ?_
          refine .i (lo1 (hlc rfl) own_b1_2 trivial agg23 sz23 rfl) ?_
          refine .i (sp_lenSs Try.underlying23 ((hlc rfl).dat D_cn0 sub_all)) ?_
          refine .i (sp_move Has.cst) ?_
          refine .done ⟨by kernel_rfl, fun a41 g W41 y41 zz41 hk hg hV hR hP => ?_⟩
          obtain ⟨e91, e90, e89, -, -⟩ := hV
          replace D_cn0 := D_cn0.ext hk
          replace D_ci0 := D_ci0.ext hk
          have e89 : sl a41 89 = (.slice cn0a (x.ns.length) cn0c) := e89
          have e90 : sl a41 90 = (.int .i64 (x.ns.length)) := e90
          have e91 : sl a41 91 = (.int .i64 (0)) := e91
          replace own_b1_2 := own_b1_2.ext hk
          replace kw := kw.x hk
          clear hR hk hg hP
          refine tail_nil (hK40 _ _ ?_)
          refine wp_block ?_
          replace D_cn0 := sa_less (M' := []) D_cn0 ls_nil
          refine wp_for (x.ns.length) (fun k a W => a.tmps.size = 99 ∧ a.defers = [] ∧ Keeps All w W ∧ sl a 89 = (.slice cn0a (x.ns.length) cn0c) ∧ sl a 90 = (.int .i64 (x.ns.length)) ∧ sl a 91 = (.int .i64 ((k : Nat))) ∧ Rd W (SA w S []) (strsD (x.ns)) (.slice cn0a (x.ns.length) cn0c) ∧ (∀ i (h1 : i < x.ns.length), i < k → wr x.ns[i] = true)) ⟨y41, zz41, kw, e89, e90, (e91.trans (congrArg (Value.int .i64) (rfl))), D_cn0, fun i h1 hi => absurd hi (by omega)⟩ ?_
          clear kw e89 e90 e91 D_cn0
          rintro k a42 W42 hkk ⟨y42, zz42, kw, e89, e90, e91, D_cn0, hinv⟩
          refine wp_seq_k fun K43 hK43 => ?_
          refine rg mixed y42 zz42 ?_
          refine .i (sp_lss (hbs rfl e91) (hbs rfl e90)) ?_
          refine .done ⟨by kernel_rfl, fun a44 g W44 y44 zz44 hk hg hV hR hP => ?_⟩
          obtain ⟨e92, -⟩ := hV
          replace e89 := (hR 89 rfl).trans e89
          replace e90 := (hR 90 rfl).trans e90
          replace e91 := (hR 91 rfl).trans e91
          replace D_cn0 := D_cn0.ext hk
          replace e92 := e92.q
          replace kw := kw.x hk
          clear hR hk hg hP
          refine tail_nil (hK43 _ _ ?_)
          refine wp_seq_k fun K45 hK45 => ?_
          refine wp_cond_split e92 (fun hc => ?_) (fun hc => ?_)
          ·
           have hlt : k < x.ns.length := by simpa using hc
           refine wp_skip (hK45 _ _ ?_)
           refine wp_seq_k fun K46 hK46 => ?_
           refine wp_block ?_
           refine wp_seq_k fun K47 hK47 => ?_
           refine rg mixed y44 zz44 ?_
           refine .rf (sp_indexS (i := k) ((hbs rfl e89).dat D_cn0 sub_all) (hbs rfl e91) Try.underlying23 sz9 rfl hlt) ?_
           refine .i (sp_loadStr (hlc rfl) agg9 sz9) ?_
           refine .i (sp_assign (hlc rfl)) ?_
           refine .done ⟨by kernel_rfl, fun a48 g W48 y48 zz48 hk hg hV hR hP => ?_⟩
           obtain ⟨e4, -, -, -⟩ := hV
           replace e89 := (hR 89 rfl).trans e89
           replace e90 := (hR 90 rfl).trans e90
           replace e91 := (hR 91 rfl).trans e91
           replace D_cn0 := D_cn0.ext hk
           have e4 : sl a48 4 = (.string (x.ns[k]'hlt)) := e4
           replace kw := kw.x hk
           clear hR hk hg hP
           refine tail_nil (hK47 _ _ ?_)
           refine wp_seq_k fun K49 hK49 => ?_
           refine rg mixed y48 zz48 ?_
           refine .i (sp_move (hbs rfl e4)) ?_
           refine .i (v := (.bool (wr (x.ns[k]'hlt)))) (sp_call1 (φ1 := Is (.string (x.ns[k]'hlt))) ent169 (hlc rfl) (fun g u1 W hk hgk h1 => by have h1 : u1 = _ := h1; subst u1; exact written_ok (x.ns[k]'hlt) W)) ?_
           refine .i (sp_not (hlc rfl)) ?_
           refine .done ⟨by kernel_rfl, fun a50 g W50 y50 zz50 hk hg hV hR hP => ?_⟩
           obtain ⟨e97, -, -, -⟩ := hV
           replace e89 := (hR 89 rfl).trans e89
           replace e90 := (hR 90 rfl).trans e90
           replace e91 := (hR 91 rfl).trans e91
           replace D_cn0 := D_cn0.ext hk
           have e97 : sl a50 97 = (.bool (!(wr (x.ns[k]'hlt)))) := e97
           replace kw := kw.x hk
           clear hR hk hg hP
           refine tail_nil (hK49 _ _ ?_)
           refine wp_cond_split e97 (fun hc => ?_) (fun hc => ?_)
           ·
            rw [List.all_eq_false.2 ⟨_, List.getElem_mem hlt, by simpa using hc⟩] at hp
            refine wp_seq_k fun K51 hK51 => ?_
            refine rg mixed y50 zz50 ?_
            refine .i (sp_assign Has.cst) ?_
            refine .done ⟨by kernel_rfl, fun a52 g W52 y52 zz52 hk hg hV hR hP => ?_⟩
            obtain ⟨e2, -⟩ := hV
            replace D_cn0 := D_cn0.ext hk
            have e2 : sl a52 2 = (.bool (false)) := e2
            replace kw := kw.x hk
            clear hR hk hg hP
            refine tail_nil (hK51 _ _ ?_)
            refine wp_ret ?_
            refine (show bodyPost Try.prog Try.f151 _ .ret _ _ from ret1 rfl zz52 e2 ⟨_, rfl, kw, ?_⟩)
            rw [hp]
           ·
            have hk1 : wr x.ns[k] = true := by simpa using hc
            refine wp_skip (hK46 _ _ ?_)
            refine rg mixed y50 zz50 ?_
            refine .i (sp_add (hbs rfl e91) Has.cst (i64_in (by omega))) ?_
            refine .i (sp_move (hlc rfl)) ?_
            refine .done ⟨by kernel_rfl, fun a53 g W53 y53 zz53 hk hg hV hR hP => ?_⟩
            obtain ⟨e91, -, -⟩ := hV
            replace e89 := (hR 89 rfl).trans e89
            replace e90 := (hR 90 rfl).trans e90
            replace D_cn0 := D_cn0.ext hk
            replace e91 := e91.q
            replace kw := kw.x hk
            clear hR hk hg hP
            exact tail_nil ⟨hlt, y53, zz53, kw, e89, e90, (e91.trans (congrArg (Value.int .i64) (by simp))), D_cn0, fun i h1 hi => by rcases Nat.lt_succ_iff_lt_or_eq.1 hi with h | h; exact hinv i h1 h; subst h; exact hk1⟩
          ·
           have hge0 : ¬ k < x.ns.length := by simpa using hc
           have hge : k = x.ns.length := by omega
           rw [List.all_eq_true.2 (fun q hq => by obtain ⟨i, h1, rfl⟩ := List.getElem_of_mem hq; exact hinv i h1 (by omega))] at hp
           refine wp_exit (hK39 _ _ ?_)
           refine wp_seq_k fun K54 hK54 => ?_
           refine rg mixed y44 zz44 ?_
           refine .i (sp_assign Has.cst) ?_
           refine .done ⟨by kernel_rfl, fun a55 g W55 y55 zz55 hk hg hV hR hP => ?_⟩
           obtain ⟨e2, -⟩ := hV
           replace D_cn0 := D_cn0.ext hk
           have e2 : sl a55 2 = (.bool (true)) := e2
           replace kw := kw.x hk
           clear hR hk hg hP
           refine tail_nil (hK54 _ _ ?_)
           refine wp_ret ?_
           refine (show bodyPost Try.prog Try.f151 _ .ret _ _ from ret1 rfl zz55 e2 ⟨_, rfl, kw, ?_⟩)
           rw [hp]
        ·
         rw [hc, cond_false] at hp
         refine wp_skip (hK13 _ _ ?_)
         refine wp_seq_k fun K56 hK56 => ?_
         refine rg mixed y33 zz33 ?_
         refine .i (sp_assign Has.cst) ?_
         refine .done ⟨by kernel_rfl, fun a57 g W57 y57 zz57 hk hg hV hR hP => ?_⟩
         obtain ⟨e2, -⟩ := hV
         replace D_cn0 := D_cn0.ext hk
         replace D_ci0 := D_ci0.ext hk
         have e2 : sl a57 2 = (.bool (false)) := e2
         replace own_b1_2 := own_b1_2.ext hk
         replace kw := kw.x hk
         clear hR hk hg hP
         refine tail_nil (hK56 _ _ ?_)
         refine wp_ret ?_
         refine (show bodyPost Try.prog Try.f151 _ .ret _ _ from ret1 rfl zz57 e2 ⟨_, rfl, kw, ?_⟩)
         rw [hp]

end Go.Proofs.Ytnobijngkpflcaa
