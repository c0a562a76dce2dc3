/-
  The law VoteOnce of package legatelaw30 returns true for every input, and leaves its arguments as they were. No condition beyond the row's own.
-/
import Derived.Test.YtnobijngkpflcaaVo4
namespace Go.Proofs.Ytnobijngkpflcaa
open Go.Eng
set_option maxRecDepth 100000 in
theorem SameP_ok (u : World) (x y : V) (hx : x.cnt ≤ 1073741824) (hy : y.cnt ≤ 1073741824) (w : World) (G S : BSet) (v v2 : Value) (hu : u.heap.size ≤ w.heap.size) (hG : ∀ b o, G b o → Cln o) (hP : Pin u S) (hav : AVv u v2) (hv : Rd w G x.d v) (hv2 : Rd w S y.d v2) : Calls Try.prog 121 #[v, v2] w (Ret w fun r _ => ∃ b, r = .bool b) := by
  have hcx := cnt_eq x
  have hcy := cnt_eq y
  obtain ⟨cn0a, cn0c, ci0a, ci0c, ev, ht0, D_cn0, D_ci0⟩ := rdV_out (rd_arg hv)
  subst ev
  obtain ⟨cn1a, cn1c, ci1a, ci1c, ev, ht1, D_cn1, D_ci1⟩ := rdV_out (rd_arg hv2)
  subst ev
  refine enter Try.func121 rfl Try.ntmps121 (lbr rfl) fun a0 y0 zz0 harg => ?_
  have e0 : sl a0 0 = (.agg #[(.int .u8 (x.k)), (.int .i64 (x.n)), (.string (x.t)), (.slice cn0a (x.ns.length) cn0c), (.slice ci0a (x.xs.length) ci0c)]) := harg 0 (lbr rfl)
  have e1 : sl a0 1 = (.agg #[(.int .u8 (y.k)), (.int .i64 (y.n)), (.string (y.t)), (.slice cn1a (y.ns.length) cn1c), (.slice ci1a (y.xs.length) ci1c)]) := harg 1 (lbr rfl)
  have kw := Keeps.refl All w
  clear harg
  refine wp_seq_k fun K1 hK1 => ?_
  refine rg mixed y0 zz0 ?_
  refine .boxOp (v := (.agg #[(.int .u8 (x.k)), (.int .i64 (x.n)), (.string (x.t)), (.slice cn0a (x.ns.length) cn0c), (.slice ci0a (x.xs.length) ci0c)])) (hbs rfl e0) ?_
  refine .boxOp (v := (.agg #[(.int .u8 (y.k)), (.int .i64 (y.n)), (.string (y.t)), (.slice cn1a (y.ns.length) cn1c), (.slice ci1a (y.xs.length) ci1c)])) (hbs rfl e1) ?_
  refine .i (sp_assign Has.cst) ?_
  refine .done ⟨by kernel_rfl, fun a2 g W2 y2 zz2 hk hg hV hR hP => ?_⟩
  obtain ⟨-, ⟨b3_2, e3, hb3, own_b3_2⟩, ⟨b2_2, e2, hb2, own_b2_2⟩, -⟩ := hV
  have lo_b3_2 : w.heap.size ≤ b3_2 := Nat.le_trans kw.size (hg.lo _ _ hb3)
  have own_b3_2 : Own W2 b3_2 [(.int .u8 (y.k)), (.int .i64 (y.n)), (.string (y.t)), (.slice cn1a (y.ns.length) cn1c), (.slice ci1a (y.xs.length) ci1c)] 33 := own_b3_2
  have lo_b2_2 : w.heap.size ≤ b2_2 := Nat.le_trans kw.size (hg.lo _ _ hb2)
  have own_b2_2 : Own W2 b2_2 [(.int .u8 (x.k)), (.int .i64 (x.n)), (.string (x.t)), (.slice cn0a (x.ns.length) cn0c), (.slice ci0a (x.xs.length) ci0c)] 33 := own_b2_2
  have ne_b3_2_b2_2 : b3_2 ≠ b2_2 := fun h => by have := hg.inj _ _ _ hb3 (h ▸ hb2); cases this
  replace D_cn0 := sa_more D_cn0 hk [b3_2, b2_2] (in_cons (hg.lo _ _ hb3) (in_cons (hg.lo _ _ hb2) in_nil))
  replace D_ci0 := sa_more D_ci0 hk [b3_2, b2_2] (in_cons (hg.lo _ _ hb3) (in_cons (hg.lo _ _ hb2) in_nil))
  replace D_cn1 := sa_more D_cn1 hk [b3_2, b2_2] (in_cons (hg.lo _ _ hb3) (in_cons (hg.lo _ _ hb2) in_nil))
  replace D_ci1 := sa_more D_ci1 hk [b3_2, b2_2] (in_cons (hg.lo _ _ hb3) (in_cons (hg.lo _ _ hb2) in_nil))
  replace kw := kw.x hk
  clear hR hk hg hP hb3 hb2
  refine tail_nil (hK1 _ _ ?_)
  refine wp_seq_k fun K3 hK3 => ?_
  refine rg mixed y2 zz2 ?_
  refine .i (fo 4 (hbs rfl e2) Try.underlying33 rfl sz31 rfl) ?_
  refine .i (lo1 (hlc rfl) own_b2_2 trivial agg31 sz31 rfl) ?_
  refine .i (v := (.bool (false))) (sp_call4 (φ1 := Is (.slice ci0a (x.xs.length) ci0c)) (φ2 := Is (.int .i64 (1))) (φ3 := Is (.pointer none)) (φ4 := Is (.bool (false))) ent137 (hlc rfl) Has.cst Has.cst Has.cst (fun g u1 u2 u3 u4 W hk hgk h1 h2 h3 h4 => by have h1 : u1 = _ := h1; subst u1; have h2 : u2 = _ := h2; subst u2; have h3 : u3 = _ := h3; subst u3; have h4 : u4 = _ := h4; subst u4; exact endless_all _ (x.xs) (Nat.lt_succ_self _) 1 (by omega) (by omega) false _ W _ _ (sa_cln hG) (D_ci0.ext hk) (Or.inl rfl))) ?_
  refine .i (sp_assign (hlc rfl)) ?_
  refine .done ⟨by kernel_rfl, fun a4 g W4 y4 zz4 hk hg hV hR hP => ?_⟩
  obtain ⟨e5, -, -, -, -⟩ := hV
  replace e3 := (hR 3 rfl).trans e3
  replace e2 := (hR 2 rfl).trans e2
  replace D_cn0 := D_cn0.ext hk
  replace D_ci0 := D_ci0.ext hk
  replace D_cn1 := D_cn1.ext hk
  replace D_ci1 := D_ci1.ext hk
  have e5 : sl a4 5 = (.bool (false)) := e5
  replace own_b3_2 := own_b3_2.ext hk
  replace own_b2_2 := own_b2_2.ext hk
  replace kw := kw.x hk
  clear hR hk hg hP
  refine tail_nil (hK3 _ _ ?_)
  refine wp_seq_k fun K5 hK5 => ?_
  refine wp_seq_k fun K6 hK6 => ?_
  have av_ci1 := hav _ _ _ _ _ rfl
  refine rg mixed y4 zz4 ?_
  refine .i (sp_move (hbs rfl e5)) ?_
  refine .i (fo 4 (hbs rfl e3) Try.underlying33 rfl sz31 rfl) ?_
  refine .i (lo1 (hlc rfl) own_b3_2 trivial agg31 sz31 rfl) ?_
  refine .op (φ := IsUB) st_ub (sp_call4 (φ1 := Is (.slice ci1a (y.xs.length) ci1c)) (φ2 := Is (.int .i64 (1))) (φ3 := Is (.pointer none)) (φ4 := Is (.bool (false))) ent137 (hlc rfl) Has.cst Has.cst Has.cst (fun g u1 u2 u3 u4 W hk hgk h1 h2 h3 h4 => by have h1 : u1 = _ := h1; subst u1; have h2 : u2 = _ := h2; subst u2; have h3 : u3 = _ := h3; subst u3; have h4 : u4 = _ := h4; subst u4; exact endlessP_all u _ (y.xs) (Nat.lt_succ_self _) 1 (by omega) (by omega) false _ W _ _ (Nat.le_trans hu (Nat.le_trans kw.size hk.size)) (pin_sa hP hu) av_ci1 (D_ci1.ext hk) (.inl rfl))) ?_
  refine .done ⟨by kernel_rfl, fun a7 g W7 y7 zz7 hk hg hV hR hP => ?_⟩
  obtain ⟨e13, -, -, e10, -⟩ := hV
  replace e3 := (hR 3 rfl).trans e3
  replace e2 := (hR 2 rfl).trans e2
  replace e5 := (hR 5 rfl).trans e5
  obtain ⟨r13_7, e13⟩ := e13
  replace D_cn0 := D_cn0.ext hk
  replace D_ci0 := D_ci0.ext hk
  replace D_cn1 := D_cn1.ext hk
  replace D_ci1 := D_ci1.ext hk
  have e10 : sl a7 10 = (.bool (false)) := e10
  have e13 : sl a7 13 = (.bool (r13_7)) := e13
  replace own_b3_2 := own_b3_2.ext hk
  replace own_b2_2 := own_b2_2.ext hk
  replace kw := kw.x hk
  clear hR hk hg hP
  refine tail_reg 1 All y7 zz7 st_tr trivial rfl ?_
  refine .i (sp_bNeq Try.underlying4 (hbs rfl e10) (hbs rfl e13)) ?_
  refine .done ⟨by kernel_rfl, fun a8 g W8 y8 zz8 hk hg hV hR hP => ?_⟩
  refine tail_nil ?_
  show runTail _ _ _ _ _ _
  obtain ⟨e14, -⟩ := hV
  replace e3 := (hR 3 rfl).trans e3
  replace e2 := (hR 2 rfl).trans e2
  replace e5 := (hR 5 rfl).trans e5
  replace D_cn0 := D_cn0.ext hk
  replace D_ci0 := D_ci0.ext hk
  replace D_cn1 := D_cn1.ext hk
  replace D_ci1 := D_ci1.ext hk
  have e14 : sl a8 14 = (.bool (!(false == r13_7))) := e14
  replace own_b3_2 := own_b3_2.ext hk
  replace own_b2_2 := own_b2_2.ext hk
  replace kw := kw.x hk
  clear hR hk hg hP
  refine tail_nil (hK6 _ _ ?_)
  refine wp_cond_split e14 (fun hc => ?_) (fun hc => ?_)
  ·
   refine wp_seq_k fun K9 hK9 => ?_
   refine rg mixed y8 zz8 ?_
   refine .i (sp_assign Has.cst) ?_
   refine .done ⟨by kernel_rfl, fun a10 g W10 y10 zz10 hk hg hV hR hP => ?_⟩
   obtain ⟨e4, -⟩ := hV
   replace D_cn0 := D_cn0.ext hk
   replace D_ci0 := D_ci0.ext hk
   replace D_cn1 := D_cn1.ext hk
   replace D_ci1 := D_ci1.ext hk
   have e4 : sl a10 4 = (.bool (false)) := e4
   replace own_b3_2 := own_b3_2.ext hk
   replace own_b2_2 := own_b2_2.ext hk
   replace kw := kw.x hk
   clear hR hk hg hP
   refine tail_nil (hK9 _ _ ?_)
   refine wp_ret ?_
   refine (show bodyPost Try.prog Try.f121 _ .ret _ _ from ret1 rfl zz10 e4 ⟨_, rfl, kw, ?_⟩)
   exact ⟨_, rfl⟩
  ·
   refine wp_skip (hK5 _ _ ?_)
   refine wp_seq_k fun K11 hK11 => ?_
   refine wp_seq_k fun K12 hK12 => ?_
   refine rg mixed y8 zz8 ?_
   refine .i (sp_move (hbs rfl e5)) ?_
   refine .done ⟨by kernel_rfl, fun a13 g W13 y13 zz13 hk hg hV hR hP => ?_⟩
   obtain ⟨e15, -⟩ := hV
   replace e3 := (hR 3 rfl).trans e3
   replace e2 := (hR 2 rfl).trans e2
   replace D_cn0 := D_cn0.ext hk
   replace D_ci0 := D_ci0.ext hk
   replace D_cn1 := D_cn1.ext hk
   replace D_ci1 := D_ci1.ext hk
   have e15 : sl a13 15 = (.bool (false)) := e15
   replace own_b3_2 := own_b3_2.ext hk
   replace own_b2_2 := own_b2_2.ext hk
   replace kw := kw.x hk
   clear hR hk hg hP
   refine tail_nil (hK12 _ _ ?_)
   refine wp_cond_false e15 ?_
   refine wp_skip (hK11 _ _ ?_)
   refine wp_seq_k fun K14 hK14 => ?_
   refine rg mixed y13 zz13 ?_
   refine .i (v := (.bool (V.beq (x) (y)))) (sp_call3 (φ1 := IsR (SA w G []) (V.d (x))) (φ2 := IsR (SA w S []) (V.d (y))) (φ3 := Is (.pointer none)) ent148 ((hbs rfl e2).refB own_b2_2 lo_b2_2 (rdV_in (x := x) ht0 D_cn0 D_ci0 : Rd W13 (SA w G [b3_2, b2_2]) (V.d (x)) _)) ((hbs rfl e3).refB own_b3_2 lo_b3_2 (rdV_in (x := y) ht1 D_cn1 D_ci1 : Rd W13 (SA w S [b3_2, b2_2]) (V.d (y)) _)) Has.cst (fun g u1 u2 u3 W hk hgk h1 h2 h3 => by have h3 : u3 = _ := h3; subst u3; exact same_all _ (x) (y) (Nat.le_refl _) (by omega) W _ _ _ (ref_orl h1) (ref_orr h2))) ?_
   refine .i (sp_assign (hlc rfl)) ?_
   refine .done ⟨by kernel_rfl, fun a15 g W15 y15 zz15 hk hg hV hR hP => ?_⟩
   obtain ⟨e4, -, -⟩ := hV
   replace D_cn0 := D_cn0.ext hk
   replace D_ci0 := D_ci0.ext hk
   replace D_cn1 := D_cn1.ext hk
   replace D_ci1 := D_ci1.ext hk
   have e4 : sl a15 4 = (.bool (V.beq (x) (y))) := e4
   replace own_b3_2 := own_b3_2.ext hk
   replace own_b2_2 := own_b2_2.ext hk
   replace kw := kw.x hk
   clear hR hk hg hP
   refine tail_nil (hK14 _ _ ?_)
   refine wp_ret ?_
   refine (show bodyPost Try.prog Try.f121 _ .ret _ _ from ret1 rfl zz15 e4 ⟨_, rfl, kw, ?_⟩)
   exact ⟨_, rfl⟩
set_option maxRecDepth 100000 in
theorem SameRP_ok (u : World) (p q : Rc) (hp : p.cu.wt ≤ 1073741824) (hq : q.cu.wt ≤ 1073741824) (w : World) (G S : BSet) (v v2 : Value) (hu : u.heap.size ≤ w.heap.size) (hG : ∀ b o, G b o → Cln o) (hP : Pin u S) (hav : AVr u v2) (hv : Rd w G p.d v) (hv2 : Rd w S q.d v2) : Calls Try.prog 59 #[v, v2] w (Ret w fun r _ => ∃ b, r = .bool b) := by
  have hcp := cnt_wt p.cu
  have hcq := cnt_wt q.cu
  obtain ⟨p0_1a, p0_1c, p0_5a, p0_5c, p0_6a, p0_6c, ev, hb_p0_4, D_p0_1, D_p0_5, D_p0_6⟩ := rdRc_out (rd_arg hv)
  subst ev
  obtain ⟨p1_1a, p1_1c, p1_5a, p1_5c, p1_6a, p1_6c, ev, hb_p1_4, D_p1_1, D_p1_5, D_p1_6⟩ := rdRc_out (rd_arg hv2)
  subst ev
  refine enter Try.func59 rfl Try.ntmps59 (lbr rfl) fun a0 y0 zz0 harg => ?_
  have e0 : sl a0 0 = (.agg #[(.int .i64 (p.ln)), (.slice p0_1a (p.hs.length) p0_1c), (.int .u8 (p.cu.k)), (.int .i64 (p.cu.n)), (.string (p.cu.t)), (.slice p0_5a (p.cu.ns.length) p0_5c), (.slice p0_6a (p.cu.xs.length) p0_6c)]) := harg 0 (lbr rfl)
  have e1 : sl a0 1 = (.agg #[(.int .i64 (q.ln)), (.slice p1_1a (q.hs.length) p1_1c), (.int .u8 (q.cu.k)), (.int .i64 (q.cu.n)), (.string (q.cu.t)), (.slice p1_5a (q.cu.ns.length) p1_5c), (.slice p1_6a (q.cu.xs.length) p1_6c)]) := harg 1 (lbr rfl)
  have kw := Keeps.refl All w
  clear harg
  refine wp_seq_k fun K1 hK1 => ?_
  refine rg mixed y0 zz0 ?_
  refine .boxOp (v := (.agg #[(.int .i64 (p.ln)), (.slice p0_1a (p.hs.length) p0_1c), (.int .u8 (p.cu.k)), (.int .i64 (p.cu.n)), (.string (p.cu.t)), (.slice p0_5a (p.cu.ns.length) p0_5c), (.slice p0_6a (p.cu.xs.length) p0_6c)])) (hbs rfl e0) ?_
  refine .boxOp (v := (.agg #[(.int .i64 (q.ln)), (.slice p1_1a (q.hs.length) p1_1c), (.int .u8 (q.cu.k)), (.int .i64 (q.cu.n)), (.string (q.cu.t)), (.slice p1_5a (q.cu.ns.length) p1_5c), (.slice p1_6a (q.cu.xs.length) p1_6c)])) (hbs rfl e1) ?_
  refine .i (sp_assign Has.cst) ?_
  refine .done ⟨by kernel_rfl, fun a2 g W2 y2 zz2 hk hg hV hR hP => ?_⟩
  obtain ⟨-, ⟨b3_2, e3, hb3, own_b3_2⟩, ⟨b2_2, e2, hb2, own_b2_2⟩, -⟩ := hV
  have lo_b3_2 : w.heap.size ≤ b3_2 := Nat.le_trans kw.size (hg.lo _ _ hb3)
  have own_b3_2 : Own W2 b3_2 [(.int .i64 (q.ln)), (.slice p1_1a (q.hs.length) p1_1c), (.int .u8 (q.cu.k)), (.int .i64 (q.cu.n)), (.string (q.cu.t)), (.slice p1_5a (q.cu.ns.length) p1_5c), (.slice p1_6a (q.cu.xs.length) p1_6c)] 87 := own_b3_2
  have lo_b2_2 : w.heap.size ≤ b2_2 := Nat.le_trans kw.size (hg.lo _ _ hb2)
  have own_b2_2 : Own W2 b2_2 [(.int .i64 (p.ln)), (.slice p0_1a (p.hs.length) p0_1c), (.int .u8 (p.cu.k)), (.int .i64 (p.cu.n)), (.string (p.cu.t)), (.slice p0_5a (p.cu.ns.length) p0_5c), (.slice p0_6a (p.cu.xs.length) p0_6c)] 87 := own_b2_2
  have ne_b3_2_b2_2 : b3_2 ≠ b2_2 := fun h => by have := hg.inj _ _ _ hb3 (h ▸ hb2); cases this
  replace D_p0_1 := sa_more D_p0_1 hk [b3_2, b2_2] (in_cons (hg.lo _ _ hb3) (in_cons (hg.lo _ _ hb2) in_nil))
  replace D_p0_5 := sa_more D_p0_5 hk [b3_2, b2_2] (in_cons (hg.lo _ _ hb3) (in_cons (hg.lo _ _ hb2) in_nil))
  replace D_p0_6 := sa_more D_p0_6 hk [b3_2, b2_2] (in_cons (hg.lo _ _ hb3) (in_cons (hg.lo _ _ hb2) in_nil))
  replace D_p1_1 := sa_more D_p1_1 hk [b3_2, b2_2] (in_cons (hg.lo _ _ hb3) (in_cons (hg.lo _ _ hb2) in_nil))
  replace D_p1_5 := sa_more D_p1_5 hk [b3_2, b2_2] (in_cons (hg.lo _ _ hb3) (in_cons (hg.lo _ _ hb2) in_nil))
  replace D_p1_6 := sa_more D_p1_6 hk [b3_2, b2_2] (in_cons (hg.lo _ _ hb3) (in_cons (hg.lo _ _ hb2) in_nil))
  replace kw := kw.x hk
  clear hR hk hg hP hb3 hb2
  refine tail_nil (hK1 _ _ ?_)
  refine wp_seq_k fun K3 hK3 => ?_
  refine rg mixed y2 zz2 ?_
  refine .i (fo 0 (hbs rfl e2) Try.underlying87 rfl sz2 rfl) ?_
  refine .i (lo1 (hlc rfl) own_b2_2 trivial agg2 sz2 rfl) ?_
  refine .i (fo 0 (hbs rfl e3) Try.underlying87 rfl sz2 rfl) ?_
  refine .i (lo1 (hlc rfl) own_b3_2 trivial agg2 sz2 rfl) ?_
  refine .i (sp_eql (hlc rfl) (hlc rfl)) ?_
  refine .i (sp_move (hlc rfl)) ?_
  refine .e (t := 10) rfl (hlc rfl) (fun hg => fo 1 (hbs rfl e2) Try.underlying87 rfl sz85 rfl) ?_
  refine .e (t := 10) rfl (hlc rfl) (fun hg => lo1 ((hlc rfl).undE hg) own_b2_2 trivial agg85 sz85 rfl) ?_
  refine .e (t := 10) rfl (hlc rfl) (fun hg => fo 1 (hbs rfl e3) Try.underlying87 rfl sz85 rfl) ?_
  refine .e (t := 10) rfl (hlc rfl) (fun hg => lo1 ((hlc rfl).undE hg) own_b3_2 trivial agg85 sz85 rfl) ?_
  refine .e (t := 10) (v := (.bool (sameH (p.hs) (q.hs)))) rfl (hlc rfl) (fun hg => sp_call2 (φ1 := IsD (SA w G [b3_2, b2_2]) (hssD (p.hs))) (φ2 := IsD (SA w S [b3_2, b2_2]) (hssD (q.hs))) ent120 (((hlc rfl).undE hg).dat D_p0_1 sub_all) (((hlc rfl).undE hg).dat D_p1_1 sub_all) (fun g u1 u2 W hk hgk h1 h2 => sameHs_ok (p.hs) (q.hs) W _ _ _ (rd_orl h1) (rd_orr h2))) ?_
  refine .i (sp_and (hlc rfl) ((hlc rfl).weak fun hq => hq)) ?_
  refine .i (sp_move (hlc rfl)) ?_
  refine .e (t := 17) rfl (hlc rfl) (fun hg => fo 2 (hbs rfl e2) Try.underlying87 rfl sz33 rfl) ?_
  refine .e (t := 17) (v := (.agg #[(.int .u8 (p.cu.k)), (.int .i64 (p.cu.n)), (.string (p.cu.t)), (.slice p0_5a (p.cu.ns.length) p0_5c), (.slice p0_6a (p.cu.xs.length) p0_6c)])) rfl (hlc rfl) (fun hg => loA ((hlc rfl).undE hg) own_b2_2 trivial agg33 sz33 rfl rfl) ?_
  refine .e (t := 17) rfl (hlc rfl) (fun hg => fo 2 (hbs rfl e3) Try.underlying87 rfl sz33 rfl) ?_
  refine .e (t := 17) (v := (.agg #[(.int .u8 (q.cu.k)), (.int .i64 (q.cu.n)), (.string (q.cu.t)), (.slice p1_5a (q.cu.ns.length) p1_5c), (.slice p1_6a (q.cu.xs.length) p1_6c)])) rfl (hlc rfl) (fun hg => loA ((hlc rfl).undE hg) own_b3_2 trivial agg33 sz33 rfl rfl) ?_
  refine .opE (t := 17) (φ := IsUB) rfl (hlc rfl) st_ub (fun hg => sp_call2 (φ1 := IsD (SA w G [b3_2, b2_2]) (V.d (p.cu))) (φ2 := Is (.agg #[(.int .u8 (q.cu.k)), (.int .i64 (q.cu.n)), (.string (q.cu.t)), (.slice p1_5a (q.cu.ns.length) p1_5c), (.slice p1_6a (q.cu.xs.length) p1_6c)])) ent121 (((hlc rfl).undE hg).dat (rdV_in (x := p.cu) hb_p0_4 D_p0_5 D_p0_6 : Rd W2 (SA w G [b3_2, b2_2]) (V.d (p.cu)) _) sub_all) ((hlc rfl).undE hg) (fun g u1 u2 W hk hgk h1 h2 => by have h2 : u2 = _ := h2; subst u2; exact SameP_ok u (p.cu) (q.cu) (by omega) (by omega) W _ _ _ _ (Nat.le_trans hu (Nat.le_trans kw.size hk.size)) (fun b o h => sa_cln hG b o h.1) (pin_sa hP hu) (avr_cu hav) h1 ((rdV_in (x := q.cu) hb_p1_4 D_p1_5 D_p1_6 : Rd W2 (SA w S [b3_2, b2_2]) (V.d (q.cu)) _).ext hk))) ?_
  refine .op (φ := IsUB) st_ub (sp_andUB (hlc rfl) ((hlc rfl).weak fun hq => hq)) ?_
  refine .op (φ := IsUB) st_ub (sp_assign (hlc rfl)) ?_
  refine .done ⟨by kernel_rfl, fun a4 g W4 y4 zz4 hk hg hV hR hP => ?_⟩
  obtain ⟨e4, -, -, -, -, -, -, -, -, -, -, -, -, -, -, -, -, -, -, -, -⟩ := hV
  obtain ⟨r4_4, e4⟩ := e4
  replace D_p0_1 := D_p0_1.ext hk
  replace D_p0_5 := D_p0_5.ext hk
  replace D_p0_6 := D_p0_6.ext hk
  replace D_p1_1 := D_p1_1.ext hk
  replace D_p1_5 := D_p1_5.ext hk
  replace D_p1_6 := D_p1_6.ext hk
  have e4 : sl a4 4 = (.bool (r4_4)) := e4
  replace own_b3_2 := own_b3_2.ext hk
  replace own_b2_2 := own_b2_2.ext hk
  replace kw := kw.x hk
  clear hR hk hg hP
  refine tail_nil (hK3 _ _ ?_)
  refine wp_ret ?_
  refine (show bodyPost Try.prog Try.f59 _ .ret _ _ from ret1 rfl zz4 e4 ⟨_, rfl, kw, ?_⟩)
  exact ⟨_, rfl⟩
set_option maxRecDepth 100000 in
theorem sameVoP_ok (u : World) (p : Vo) (q : Rc) (hp : p.r.cu.wt ≤ 1073741824) (hq : q.cu.wt ≤ 1073741824) (w : World) (G S : BSet) (v v2 : Value) (hu : u.heap.size ≤ w.heap.size) (hG : ∀ b o, G b o → Cln o) (hP : Pin u S) (hav : AVr u v2) (hv : Rd w G p.d v) (hv2 : Rd w S q.d v2) : Calls Try.prog 119 #[v, v2] w (Ret w fun r _ => ∃ b, r = .bool b) := by
  obtain ⟨p0_1a, p0_1c, p0_5a, p0_5c, p0_6a, p0_6c, ev, hb_p0_4, hb_p0_7, D_p0_1, D_p0_5, D_p0_6⟩ := rdVo_out (rd_arg hv)
  subst ev
  obtain ⟨p1_1a, p1_1c, p1_5a, p1_5c, p1_6a, p1_6c, ev, hb_p1_4, D_p1_1, D_p1_5, D_p1_6⟩ := rdRc_out (rd_arg hv2)
  subst ev
  refine enter Try.func119 rfl Try.ntmps119 (lbr rfl) fun a0 y0 zz0 harg => ?_
  have e0 : sl a0 0 = (.agg #[(.int .i64 (p.r.ln)), (.slice p0_1a (p.r.hs.length) p0_1c), (.int .u8 (p.r.cu.k)), (.int .i64 (p.r.cu.n)), (.string (p.r.cu.t)), (.slice p0_5a (p.r.cu.ns.length) p0_5c), (.slice p0_6a (p.r.cu.xs.length) p0_6c), (.string (p.repo))]) := harg 0 (lbr rfl)
  have e1 : sl a0 1 = (.agg #[(.int .i64 (q.ln)), (.slice p1_1a (q.hs.length) p1_1c), (.int .u8 (q.cu.k)), (.int .i64 (q.cu.n)), (.string (q.cu.t)), (.slice p1_5a (q.cu.ns.length) p1_5c), (.slice p1_6a (q.cu.xs.length) p1_6c)]) := harg 1 (lbr rfl)
  have kw := Keeps.refl All w
  clear harg
  refine wp_seq_k fun K1 hK1 => ?_
  refine rg mixed y0 zz0 ?_
  refine .boxOp (v := (.agg #[(.int .i64 (p.r.ln)), (.slice p0_1a (p.r.hs.length) p0_1c), (.int .u8 (p.r.cu.k)), (.int .i64 (p.r.cu.n)), (.string (p.r.cu.t)), (.slice p0_5a (p.r.cu.ns.length) p0_5c), (.slice p0_6a (p.r.cu.xs.length) p0_6c), (.string (p.repo))])) (hbs rfl e0) ?_
  refine .boxOp (v := (.agg #[(.int .i64 (q.ln)), (.slice p1_1a (q.hs.length) p1_1c), (.int .u8 (q.cu.k)), (.int .i64 (q.cu.n)), (.string (q.cu.t)), (.slice p1_5a (q.cu.ns.length) p1_5c), (.slice p1_6a (q.cu.xs.length) p1_6c)])) (hbs rfl e1) ?_
  refine .i (sp_assign Has.cst) ?_
  refine .done ⟨by kernel_rfl, fun a2 g W2 y2 zz2 hk hg hV hR hP => ?_⟩
  obtain ⟨-, ⟨b3_2, e3, hb3, own_b3_2⟩, ⟨b2_2, e2, hb2, own_b2_2⟩, -⟩ := hV
  have lo_b3_2 : w.heap.size ≤ b3_2 := Nat.le_trans kw.size (hg.lo _ _ hb3)
  have own_b3_2 : Own W2 b3_2 [(.int .i64 (q.ln)), (.slice p1_1a (q.hs.length) p1_1c), (.int .u8 (q.cu.k)), (.int .i64 (q.cu.n)), (.string (q.cu.t)), (.slice p1_5a (q.cu.ns.length) p1_5c), (.slice p1_6a (q.cu.xs.length) p1_6c)] 87 := own_b3_2
  have lo_b2_2 : w.heap.size ≤ b2_2 := Nat.le_trans kw.size (hg.lo _ _ hb2)
  have own_b2_2 : Own W2 b2_2 [(.int .i64 (p.r.ln)), (.slice p0_1a (p.r.hs.length) p0_1c), (.int .u8 (p.r.cu.k)), (.int .i64 (p.r.cu.n)), (.string (p.r.cu.t)), (.slice p0_5a (p.r.cu.ns.length) p0_5c), (.slice p0_6a (p.r.cu.xs.length) p0_6c), (.string (p.repo))] 156 := own_b2_2
  have ne_b3_2_b2_2 : b3_2 ≠ b2_2 := fun h => by have := hg.inj _ _ _ hb3 (h ▸ hb2); cases this
  replace D_p0_1 := sa_more D_p0_1 hk [b3_2, b2_2] (in_cons (hg.lo _ _ hb3) (in_cons (hg.lo _ _ hb2) in_nil))
  replace D_p0_5 := sa_more D_p0_5 hk [b3_2, b2_2] (in_cons (hg.lo _ _ hb3) (in_cons (hg.lo _ _ hb2) in_nil))
  replace D_p0_6 := sa_more D_p0_6 hk [b3_2, b2_2] (in_cons (hg.lo _ _ hb3) (in_cons (hg.lo _ _ hb2) in_nil))
  replace D_p1_1 := sa_more D_p1_1 hk [b3_2, b2_2] (in_cons (hg.lo _ _ hb3) (in_cons (hg.lo _ _ hb2) in_nil))
  replace D_p1_5 := sa_more D_p1_5 hk [b3_2, b2_2] (in_cons (hg.lo _ _ hb3) (in_cons (hg.lo _ _ hb2) in_nil))
  replace D_p1_6 := sa_more D_p1_6 hk [b3_2, b2_2] (in_cons (hg.lo _ _ hb3) (in_cons (hg.lo _ _ hb2) in_nil))
  replace kw := kw.x hk
  clear hR hk hg hP hb3 hb2
  refine tail_nil (hK1 _ _ ?_)
  refine wp_seq_k fun K3 hK3 => ?_
  refine rg mixed y2 zz2 ?_
  refine .i (fo 0 (hbs rfl e2) Try.underlying156 rfl sz87 rfl) ?_
  refine .i (fo 0 (hlc rfl) Try.underlying87 rfl sz2 rfl) ?_
  refine .i (lo1 (hlc rfl) own_b2_2 trivial agg2 sz2 rfl) ?_
  refine .i (fo 0 (hbs rfl e3) Try.underlying87 rfl sz2 rfl) ?_
  refine .i (lo1 (hlc rfl) own_b3_2 trivial agg2 sz2 rfl) ?_
  refine .i (sp_eql (hlc rfl) (hlc rfl)) ?_
  refine .i (sp_move (hlc rfl)) ?_
  refine .e (t := 11) rfl (hlc rfl) (fun hg => fo 0 (hbs rfl e2) Try.underlying156 rfl sz87 rfl) ?_
  refine .e (t := 11) (v := (.agg #[(.int .i64 (p.r.ln)), (.slice p0_1a (p.r.hs.length) p0_1c), (.int .u8 (p.r.cu.k)), (.int .i64 (p.r.cu.n)), (.string (p.r.cu.t)), (.slice p0_5a (p.r.cu.ns.length) p0_5c), (.slice p0_6a (p.r.cu.xs.length) p0_6c)])) rfl (hlc rfl) (fun hg => loA ((hlc rfl).undE hg) own_b2_2 trivial agg87 sz87 rfl rfl) ?_
  refine .e (t := 11) (v := (.agg #[(.int .i64 (q.ln)), (.slice p1_1a (q.hs.length) p1_1c), (.int .u8 (q.cu.k)), (.int .i64 (q.cu.n)), (.string (q.cu.t)), (.slice p1_5a (q.cu.ns.length) p1_5c), (.slice p1_6a (q.cu.xs.length) p1_6c)])) rfl (hlc rfl) (fun hg => loA (hbs rfl e3) own_b3_2 trivial agg87 sz87 rfl rfl) ?_
  refine .opE (t := 11) (φ := IsUB) rfl (hlc rfl) st_ub (fun hg => sp_call2 (φ1 := IsD (SA w G [b3_2, b2_2]) (Rc.d (p.r))) (φ2 := Is (.agg #[(.int .i64 (q.ln)), (.slice p1_1a (q.hs.length) p1_1c), (.int .u8 (q.cu.k)), (.int .i64 (q.cu.n)), (.string (q.cu.t)), (.slice p1_5a (q.cu.ns.length) p1_5c), (.slice p1_6a (q.cu.xs.length) p1_6c)])) ent59 (((hlc rfl).undE hg).dat (rdRc_mk D_p0_1 (rdV_in (x := p.r.cu) hb_p0_4 D_p0_5 D_p0_6 : Rd W2 (SA w G [b3_2, b2_2]) (V.d (p.r.cu)) _) : Rd W2 (SA w G [b3_2, b2_2]) (Rc.d (p.r)) _) sub_all) ((hlc rfl).undE hg) (fun g u1 u2 W hk hgk h1 h2 => by have h2 : u2 = _ := h2; subst u2; exact SameRP_ok u (p.r) (q) hp hq W _ _ _ _ (Nat.le_trans hu (Nat.le_trans kw.size hk.size)) (fun b o h => sa_cln hG b o h.1) (pin_sa hP hu) hav h1 ((rdRc_mk D_p1_1 (rdV_in (x := q.cu) hb_p1_4 D_p1_5 D_p1_6 : Rd W2 (SA w S [b3_2, b2_2]) (V.d (q.cu)) _) : Rd W2 (SA w S [b3_2, b2_2]) (Rc.d (q)) _).ext hk))) ?_
  refine .op (φ := IsUB) st_ub (sp_andUB (hlc rfl) ((hlc rfl).weak fun hq => hq)) ?_
  refine .op (φ := IsUB) st_ub (sp_assign (hlc rfl)) ?_
  refine .done ⟨by kernel_rfl, fun a4 g W4 y4 zz4 hk hg hV hR hP => ?_⟩
  obtain ⟨e4, -, -, -, -, -, -, -, -, -, -, -, -, -⟩ := hV
  obtain ⟨r4_4, e4⟩ := e4
  replace D_p0_1 := D_p0_1.ext hk
  replace D_p0_5 := D_p0_5.ext hk
  replace D_p0_6 := D_p0_6.ext hk
  replace D_p1_1 := D_p1_1.ext hk
  replace D_p1_5 := D_p1_5.ext hk
  replace D_p1_6 := D_p1_6.ext hk
  have e4 : sl a4 4 = (.bool (r4_4)) := e4
  replace own_b3_2 := own_b3_2.ext hk
  replace own_b2_2 := own_b2_2.ext hk
  replace kw := kw.x hk
  clear hR hk hg hP
  refine tail_nil (hK3 _ _ ?_)
  refine wp_ret ?_
  refine (show bodyPost Try.prog Try.f119 _ .ret _ _ from ret1 rfl zz4 e4 ⟨_, rfl, kw, ?_⟩)
  exact ⟨_, rfl⟩
set_option maxRecDepth 100000 in
theorem countP_ok (u : World) (l : List Vo) (r : Rc) (hl : ∀ x ∈ l, x.r.cu.wt ≤ 1073741824) (hr : r.cu.wt ≤ 1073741824) (w : World) (G S : BSet) (v v2 : Value) (hu : u.heap.size ≤ w.heap.size) (hG : ∀ b o, G b o → Cln o) (hP : Pin u S) (hav : AVr u v2) (hv : Rd w G (vosD l) v) (hv2 : Rd w S r.d v2) : Calls Try.prog 118 #[v, v2] w (Ret w fun q _ => ∃ n, q = .int .i64 n) := by
  have hmx : l.length ≤ maxLen := rdVos_len hv
  simp only [maxLen] at hmx
  obtain ⟨va, vc, ev, D_v⟩ := rdVos_out (rd_arg hv)
  subst ev
  obtain ⟨p1_1a, p1_1c, p1_5a, p1_5c, p1_6a, p1_6c, ev, hb_p1_4, D_p1_1, D_p1_5, D_p1_6⟩ := rdRc_out (rd_arg hv2)
  subst ev
  refine enter Try.func118 rfl Try.ntmps118 (lbr rfl) fun a0 y0 zz0 harg => ?_
  have e0 : sl a0 0 = (.slice va (l.length) vc) := harg 0 (lbr rfl)
  have e1 : sl a0 1 = (.agg #[(.int .i64 (r.ln)), (.slice p1_1a (r.hs.length) p1_1c), (.int .u8 (r.cu.k)), (.int .i64 (r.cu.n)), (.string (r.cu.t)), (.slice p1_5a (r.cu.ns.length) p1_5c), (.slice p1_6a (r.cu.xs.length) p1_6c)]) := harg 1 (lbr rfl)
  have kw := Keeps.refl All w
  clear harg
  refine wp_seq_k fun K1 hK1 => ?_
  refine rg mixed y0 zz0 ?_
  refine .boxOp (v := (.agg #[(.int .i64 (r.ln)), (.slice p1_1a (r.hs.length) p1_1c), (.int .u8 (r.cu.k)), (.int .i64 (r.cu.n)), (.string (r.cu.t)), (.slice p1_5a (r.cu.ns.length) p1_5c), (.slice p1_6a (r.cu.xs.length) p1_6c)])) (hbs rfl e1) ?_
  refine .i (sp_assign Has.cst) ?_
  refine .done ⟨by kernel_rfl, fun a2 g W2 y2 zz2 hk hg hV hR hP => ?_⟩
  obtain ⟨-, ⟨b3_2, e3, hb3, own_b3_2⟩, -⟩ := hV
  have lo_b3_2 : w.heap.size ≤ b3_2 := Nat.le_trans kw.size (hg.lo _ _ hb3)
  have own_b3_2 : Own W2 b3_2 [(.int .i64 (r.ln)), (.slice p1_1a (r.hs.length) p1_1c), (.int .u8 (r.cu.k)), (.int .i64 (r.cu.n)), (.string (r.cu.t)), (.slice p1_5a (r.cu.ns.length) p1_5c), (.slice p1_6a (r.cu.xs.length) p1_6c)] 87 := own_b3_2
  replace e0 := (hR 0 rfl).trans e0
  replace D_v := sa_more D_v hk [b3_2] (in_cons (hg.lo _ _ hb3) in_nil)
  replace D_p1_1 := sa_more D_p1_1 hk [b3_2] (in_cons (hg.lo _ _ hb3) in_nil)
  replace D_p1_5 := sa_more D_p1_5 hk [b3_2] (in_cons (hg.lo _ _ hb3) in_nil)
  replace D_p1_6 := sa_more D_p1_6 hk [b3_2] (in_cons (hg.lo _ _ hb3) in_nil)
  replace kw := kw.x hk
  clear hR hk hg hP hb3
  refine tail_nil (hK1 _ _ ?_)
  refine wp_seq_k fun K3 hK3 => ?_
  refine rg mixed y2 zz2 ?_
  refine .i (sp_assign Has.cst) ?_
  refine .done ⟨by kernel_rfl, fun a4 g W4 y4 zz4 hk hg hV hR hP => ?_⟩
  obtain ⟨e5, -⟩ := hV
  replace e0 := (hR 0 rfl).trans e0
  replace e3 := (hR 3 rfl).trans e3
  replace D_v := D_v.ext hk
  replace D_p1_1 := D_p1_1.ext hk
  replace D_p1_5 := D_p1_5.ext hk
  replace D_p1_6 := D_p1_6.ext hk
  have e5 : sl a4 5 = (.int .i64 (0)) := e5
  replace own_b3_2 := own_b3_2.ext hk
  replace kw := kw.x hk
  clear hR hk hg hP
  refine tail_nil (hK3 _ _ ?_)
  refine wp_seq_k fun K5 hK5 => ?_
  refine wp_seq_k fun K6 hK6 => ?_
  refine rg mixed y4 zz4 ?_
  refine .i (sp_move (hbs rfl e0)) ?_
  refine .i (sp_lenL Try.underlying102 ((hlc rfl).dat D_v sub_all)) ?_
  refine .i (sp_move Has.cst) ?_
  refine .done ⟨by kernel_rfl, fun a7 g W7 y7 zz7 hk hg hV hR hP => ?_⟩
  obtain ⟨e10, e9, e8, -⟩ := hV
  replace e3 := (hR 3 rfl).trans e3
  replace e5 := (hR 5 rfl).trans e5
  replace D_v := D_v.ext hk
  replace D_p1_1 := D_p1_1.ext hk
  replace D_p1_5 := D_p1_5.ext hk
  replace D_p1_6 := D_p1_6.ext hk
  have e8 : sl a7 8 = (.slice va (l.length) vc) := e8
  have e9 : sl a7 9 = (.int .i64 (l.length)) := e9
  have e10 : sl a7 10 = (.int .i64 (0)) := e10
  replace own_b3_2 := own_b3_2.ext hk
  replace kw := kw.x hk
  clear hR hk hg hP
  refine tail_nil (hK6 _ _ ?_)
  refine wp_block ?_
  refine wp_for (l.length) (fun k a W => ∃ (c : Int), a.tmps.size = 21 ∧ a.defers = [] ∧ Keeps All w W ∧ sl a 3 = (.pointer (some ⟨b3_2, 0, none⟩)) ∧ sl a 5 = (.int .i64 (c)) ∧ sl a 8 = (.slice va (l.length) vc) ∧ sl a 9 = (.int .i64 (l.length)) ∧ sl a 10 = (.int .i64 ((k : Nat))) ∧ Own W b3_2 [(.int .i64 (r.ln)), (.slice p1_1a (r.hs.length) p1_1c), (.int .u8 (r.cu.k)), (.int .i64 (r.cu.n)), (.string (r.cu.t)), (.slice p1_5a (r.cu.ns.length) p1_5c), (.slice p1_6a (r.cu.xs.length) p1_6c)] 87 ∧ Rd W (SA w G [b3_2]) (vosD (l)) (.slice va (l.length) vc) ∧ Rd W (SA w S [b3_2]) (hssD (r.hs)) (.slice p1_1a (r.hs.length) p1_1c) ∧ Rd W (SA w S [b3_2]) (strsD (r.cu.ns)) (.slice p1_5a (r.cu.ns.length) p1_5c) ∧ Rd W (SA w S [b3_2]) (valsD (r.cu.xs)) (.slice p1_6a (r.cu.xs.length) p1_6c) ∧ (0 ≤ c ∧ c ≤ (k : Int))) ⟨0, y7, zz7, kw, e3, (e5.trans (congrArg (Value.int .i64) (rfl))), e8, e9, (e10.trans (congrArg (Value.int .i64) (rfl))), own_b3_2, D_v, D_p1_1, D_p1_5, D_p1_6, by omega⟩ ?_
  clear kw e3 e5 e8 e9 e10 own_b3_2 D_v D_p1_1 D_p1_5 D_p1_6
  rintro k a8 W8 hkk ⟨c, y8, zz8, kw, e3, e5, e8, e9, e10, own_b3_2, D_v, D_p1_1, D_p1_5, D_p1_6, hcc⟩
  refine wp_seq_k fun K9 hK9 => ?_
  refine rg mixed y8 zz8 ?_
  refine .i (sp_lss (hbs rfl e10) (hbs rfl e9)) ?_
  refine .done ⟨by kernel_rfl, fun a10 g W10 y10 zz10 hk hg hV hR hP => ?_⟩
  obtain ⟨e11, -⟩ := hV
  replace e3 := (hR 3 rfl).trans e3
  replace e5 := (hR 5 rfl).trans e5
  replace e8 := (hR 8 rfl).trans e8
  replace e9 := (hR 9 rfl).trans e9
  replace e10 := (hR 10 rfl).trans e10
  replace D_v := D_v.ext hk
  replace D_p1_1 := D_p1_1.ext hk
  replace D_p1_5 := D_p1_5.ext hk
  replace D_p1_6 := D_p1_6.ext hk
  replace e11 := e11.q
  replace own_b3_2 := own_b3_2.ext hk
  replace kw := kw.x hk
  clear hR hk hg hP
  refine tail_nil (hK9 _ _ ?_)
  refine wp_seq_k fun K11 hK11 => ?_
  refine wp_cond_split e11 (fun hc => ?_) (fun hc => ?_)
  ·
   have hlt : k < l.length := by simpa using hc
   refine wp_skip (hK11 _ _ ?_)
   refine wp_seq_k fun K12 hK12 => ?_
   refine wp_block ?_
   refine wp_seq_k fun K13 hK13 => ?_
   refine rg mixed y10 zz10 ?_
   refine .rf (X := SA w G [b3_2]) (e := Vo.d (l[k]'hlt)) (sp_indexL (i := k) ((hbs rfl e8).dat D_v sub_all) (hbs rfl e10) Try.underlying102 sz156 rfl hlt) ?_
   refine .da (X := SA w G [b3_2]) (e := Vo.d (l[k]'hlt)) (sp_loadR (hlc rfl) agg156 sz156 (width_Vo _)) ?_
   refine .alloc z156 ?_
   refine .done ⟨by kernel_rfl, fun a14 g W14 y14 zz14 hk hg hV hR hP => ?_⟩
   obtain ⟨⟨b7_14, e7, hb7, own_b7_14⟩, e13, -, -⟩ := hV
   have lo_b7_14 : w.heap.size ≤ b7_14 := Nat.le_trans kw.size (hg.lo _ _ hb7)
   have ne_b3_2_b7_14 : b3_2 ≠ b7_14 := Nat.ne_of_lt (Nat.lt_of_lt_of_le own_b3_2.lt (hg.lo _ _ hb7))
   have own_b7_14 : Own W14 b7_14 [(.int .i64 (0)), (.slice none 0 0), (.int .u8 (0)), (.int .i64 (0)), (.string (⟨#[]⟩)), (.slice none 0 0), (.slice none 0 0), (.string (⟨#[]⟩))] 156 := own_b7_14
   replace e3 := (hR 3 rfl).trans e3
   replace e5 := (hR 5 rfl).trans e5
   replace e8 := (hR 8 rfl).trans e8
   replace e9 := (hR 9 rfl).trans e9
   replace e10 := (hR 10 rfl).trans e10
   replace D_v := sa_more D_v hk [b7_14] (in_cons (hg.lo _ _ hb7) in_nil)
   replace D_p1_1 := sa_more D_p1_1 hk [b7_14] (in_cons (hg.lo _ _ hb7) in_nil)
   replace D_p1_5 := sa_more D_p1_5 hk [b7_14] (in_cons (hg.lo _ _ hb7) in_nil)
   replace D_p1_6 := sa_more D_p1_6 hk [b7_14] (in_cons (hg.lo _ _ hb7) in_nil)
   obtain ⟨v13_14, ev⟩ : ∃ v, sl a14 13 = v := ⟨_, rfl⟩
   rw [ev] at e13
   have D_v13_14 : Rd W14 (SA w G [b7_14, b3_2]) (Vo.d (l[k]'hlt)) v13_14 := sa_end e13 hk [b7_14] (in_cons ⟨_, hb7⟩ in_nil)
   replace e13 := ev; clear ev
   obtain ⟨v13_14_1a, v13_14_1c, v13_14_5a, v13_14_5c, v13_14_6a, v13_14_6c, ev, hb_v13_14_4, hb_v13_14_7, D_v13_14_1, D_v13_14_5, D_v13_14_6⟩ := rdVo_out D_v13_14
   subst ev; clear D_v13_14
   replace own_b3_2 := own_b3_2.ext hk
   replace kw := kw.x hk
   clear hR hk hg hP hb7
   refine tail_store (b := b7_14) (o := 0) (v := (.agg #[(.int .i64 ((l[k]'hlt).r.ln)), (.slice v13_14_1a (((l[k]'hlt).r.hs).length) v13_14_1c), (.int .u8 ((l[k]'hlt).r.cu.k)), (.int .i64 ((l[k]'hlt).r.cu.n)), (.string ((l[k]'hlt).r.cu.t)), (.slice v13_14_5a (((l[k]'hlt).r.cu.ns).length) v13_14_5c), (.slice v13_14_6a (((l[k]'hlt).r.cu.xs).length) v13_14_6c), (.string ((l[k]'hlt).repo))])) e7 e13 sz156 rfl own_b7_14 (lbr rfl) (all_cons rfl (all_cons rfl (all_cons rfl (all_cons rfl (all_cons rfl (all_cons rfl (all_cons rfl (all_cons rfl all_nil)))))))) (fun W15 hs own_b7_14 => ?_)
   have own_b7_14 : Own W15 b7_14 [(.int .i64 ((l[k]'hlt).r.ln)), (.slice v13_14_1a (((l[k]'hlt).r.hs).length) v13_14_1c), (.int .u8 ((l[k]'hlt).r.cu.k)), (.int .i64 ((l[k]'hlt).r.cu.n)), (.string ((l[k]'hlt).r.cu.t)), (.slice v13_14_5a (((l[k]'hlt).r.cu.ns).length) v13_14_5c), (.slice v13_14_6a (((l[k]'hlt).r.cu.xs).length) v13_14_6c), (.string ((l[k]'hlt).repo))] 156 := own_b7_14
   replace own_b3_2 := own_store own_b3_2 hs ne_b3_2_b7_14
   replace D_v := sa_store D_v hs (by simp)
   replace D_p1_1 := sa_store D_p1_1 hs (by simp)
   replace D_p1_5 := sa_store D_p1_5 hs (by simp)
   replace D_p1_6 := sa_store D_p1_6 hs (by simp)
   replace D_v13_14_1 := sa_store D_v13_14_1 hs (by simp)
   replace D_v13_14_5 := sa_store D_v13_14_5 hs (by simp)
   replace D_v13_14_6 := sa_store D_v13_14_6 hs (by simp)
   replace kw := keeps_store kw hs lo_b7_14
   clear hs
   refine tail_nil (hK13 _ _ ?_)
   refine wp_seq_k fun K16 hK16 => ?_
   refine rg mixed y14 zz14 ?_
   refine .i (v := (.agg #[(.int .i64 ((l[k]'hlt).r.ln)), (.slice v13_14_1a (((l[k]'hlt).r.hs).length) v13_14_1c), (.int .u8 ((l[k]'hlt).r.cu.k)), (.int .i64 ((l[k]'hlt).r.cu.n)), (.string ((l[k]'hlt).r.cu.t)), (.slice v13_14_5a (((l[k]'hlt).r.cu.ns).length) v13_14_5c), (.slice v13_14_6a (((l[k]'hlt).r.cu.xs).length) v13_14_6c), (.string ((l[k]'hlt).repo))])) (loA (hbs rfl e7) own_b7_14 trivial agg156 sz156 rfl rfl) ?_
   refine .i (v := (.agg #[(.int .i64 (r.ln)), (.slice p1_1a (r.hs.length) p1_1c), (.int .u8 (r.cu.k)), (.int .i64 (r.cu.n)), (.string (r.cu.t)), (.slice p1_5a (r.cu.ns.length) p1_5c), (.slice p1_6a (r.cu.xs.length) p1_6c)])) (loA (hbs rfl e3) own_b3_2 trivial agg87 sz87 rfl rfl) ?_
   refine .op (φ := IsUB) st_ub (sp_call2 (φ1 := IsD (SA w G [b7_14, b3_2]) (Vo.d ((l[k]'hlt)))) (φ2 := Is (.agg #[(.int .i64 (r.ln)), (.slice p1_1a (r.hs.length) p1_1c), (.int .u8 (r.cu.k)), (.int .i64 (r.cu.n)), (.string (r.cu.t)), (.slice p1_5a (r.cu.ns.length) p1_5c), (.slice p1_6a (r.cu.xs.length) p1_6c)])) ent119 ((hlc rfl).dat (rdVo_mk (rdRc_mk D_v13_14_1 (rdV_in (x := (l[k]'hlt).r.cu) hb_v13_14_4 D_v13_14_5 D_v13_14_6 : Rd W15 (SA w G [b7_14, b3_2]) (V.d ((l[k]'hlt).r.cu)) _) : Rd W15 (SA w G [b7_14, b3_2]) (Rc.d ((l[k]'hlt).r)) _) hb_v13_14_7 : Rd W15 (SA w G [b7_14, b3_2]) (Vo.d ((l[k]'hlt))) _) sub_all) (hlc rfl) (fun g u1 u2 W hk hgk h1 h2 => by have h2 : u2 = _ := h2; subst u2; exact sameVoP_ok u ((l[k]'hlt)) (r) (hl _ (List.getElem_mem _)) hr W _ _ _ _ (Nat.le_trans hu (Nat.le_trans kw.size hk.size)) (fun b o h => sa_cln hG b o h.1) (pin_sa hP hu) hav h1 ((rdRc_mk D_p1_1 (rdV_in (x := r.cu) hb_p1_4 D_p1_5 D_p1_6 : Rd W15 (SA w S [b7_14, b3_2]) (V.d (r.cu)) _) : Rd W15 (SA w S [b7_14, b3_2]) (Rc.d (r)) _).ext hk))) ?_
   refine .done ⟨by kernel_rfl, fun a17 g W17 y17 zz17 hk hg hV hR hP => ?_⟩
   obtain ⟨e16, -, -, -⟩ := hV
   replace e3 := (hR 3 rfl).trans e3
   replace e5 := (hR 5 rfl).trans e5
   replace e8 := (hR 8 rfl).trans e8
   replace e9 := (hR 9 rfl).trans e9
   replace e10 := (hR 10 rfl).trans e10
   obtain ⟨r16_17, e16⟩ := e16
   replace D_v := D_v.ext hk
   replace D_p1_1 := D_p1_1.ext hk
   replace D_p1_5 := D_p1_5.ext hk
   replace D_p1_6 := D_p1_6.ext hk
   replace D_v13_14_1 := D_v13_14_1.ext hk
   replace D_v13_14_5 := D_v13_14_5.ext hk
   replace D_v13_14_6 := D_v13_14_6.ext hk
   have e16 : sl a17 16 = (.bool (r16_17)) := e16
   replace own_b3_2 := own_b3_2.ext hk
   replace own_b7_14 := own_b7_14.ext hk
   replace kw := kw.x hk
   clear hR hk hg hP
   refine tail_nil (hK16 _ _ ?_)
   refine wp_cond_split e16 (fun hc => ?_) (fun hc => ?_)
   ·
    refine rg mixed y17 zz17 ?_
    refine .i (sp_move (hbs rfl e5)) ?_
    refine .i (sp_add (hlc rfl) Has.cst (i64_in (by omega))) ?_
    refine .i (sp_assign (hlc rfl)) ?_
    refine .done ⟨by kernel_rfl, fun a18 g W18 y18 zz18 hk hg hV hR hP => ?_⟩
    obtain ⟨e5, -, -, -⟩ := hV
    replace e3 := (hR 3 rfl).trans e3
    replace e8 := (hR 8 rfl).trans e8
    replace e9 := (hR 9 rfl).trans e9
    replace e10 := (hR 10 rfl).trans e10
    replace D_v := D_v.ext hk
    replace D_p1_1 := D_p1_1.ext hk
    replace D_p1_5 := D_p1_5.ext hk
    replace D_p1_6 := D_p1_6.ext hk
    have e5 : sl a18 5 = (.int .i64 ((c : Int) + (1 : Int))) := e5
    replace own_b3_2 := own_b3_2.ext hk
    replace own_b7_14 := own_b7_14.ext hk
    replace kw := kw.x hk
    clear hR hk hg hP
    refine tail_nil (hK12 _ _ ?_)
    refine rg mixed y18 zz18 ?_
    refine .i (sp_add (hbs rfl e10) Has.cst (i64_in (by omega))) ?_
    refine .i (sp_move (hlc rfl)) ?_
    refine .done ⟨by kernel_rfl, fun a19 g W19 y19 zz19 hk hg hV hR hP => ?_⟩
    obtain ⟨e10, -, -⟩ := hV
    replace e3 := (hR 3 rfl).trans e3
    replace e5 := (hR 5 rfl).trans e5
    replace e8 := (hR 8 rfl).trans e8
    replace e9 := (hR 9 rfl).trans e9
    replace D_v := D_v.ext hk
    replace D_p1_1 := D_p1_1.ext hk
    replace D_p1_5 := D_p1_5.ext hk
    replace D_p1_6 := D_p1_6.ext hk
    replace e10 := e10.q
    replace own_b3_2 := own_b3_2.ext hk
    replace own_b7_14 := own_b7_14.ext hk
    replace kw := kw.x hk
    clear hR hk hg hP
    exact tail_nil ⟨hlt, (c : Int) + (1 : Int), y19, zz19, kw, e3, (e5.trans (congrArg (Value.int .i64) (rfl))), e8, e9, (e10.trans (congrArg (Value.int .i64) (by simp))), own_b3_2, (sa_less D_v (ls_skip (ls_keep ls_nil))), (sa_less D_p1_1 (ls_skip (ls_keep ls_nil))), (sa_less D_p1_5 (ls_skip (ls_keep ls_nil))), (sa_less D_p1_6 (ls_skip (ls_keep ls_nil))), (by omega)⟩
   ·
    refine wp_skip (hK12 _ _ ?_)
    refine rg mixed y17 zz17 ?_
    refine .i (sp_add (hbs rfl e10) Has.cst (i64_in (by omega))) ?_
    refine .i (sp_move (hlc rfl)) ?_
    refine .done ⟨by kernel_rfl, fun a20 g W20 y20 zz20 hk hg hV hR hP => ?_⟩
    obtain ⟨e10, -, -⟩ := hV
    replace e3 := (hR 3 rfl).trans e3
    replace e5 := (hR 5 rfl).trans e5
    replace e8 := (hR 8 rfl).trans e8
    replace e9 := (hR 9 rfl).trans e9
    replace D_v := D_v.ext hk
    replace D_p1_1 := D_p1_1.ext hk
    replace D_p1_5 := D_p1_5.ext hk
    replace D_p1_6 := D_p1_6.ext hk
    replace e10 := e10.q
    replace own_b3_2 := own_b3_2.ext hk
    replace own_b7_14 := own_b7_14.ext hk
    replace kw := kw.x hk
    clear hR hk hg hP
    exact tail_nil ⟨hlt, c, y20, zz20, kw, e3, (e5.trans (congrArg (Value.int .i64) (rfl))), e8, e9, (e10.trans (congrArg (Value.int .i64) (by simp))), own_b3_2, (sa_less D_v (ls_skip (ls_keep ls_nil))), (sa_less D_p1_1 (ls_skip (ls_keep ls_nil))), (sa_less D_p1_5 (ls_skip (ls_keep ls_nil))), (sa_less D_p1_6 (ls_skip (ls_keep ls_nil))), (by omega)⟩
  ·
   have hge0 : ¬ k < l.length := by simpa using hc
   have hge : k = l.length := by omega
   refine wp_exit (hK5 _ _ ?_)
   refine wp_seq_k fun K21 hK21 => ?_
   refine rg mixed y10 zz10 ?_
   refine .i (sp_move (hbs rfl e5)) ?_
   refine .i (sp_assign (hlc rfl)) ?_
   refine .done ⟨by kernel_rfl, fun a22 g W22 y22 zz22 hk hg hV hR hP => ?_⟩
   obtain ⟨e4, -, -⟩ := hV
   replace D_v := D_v.ext hk
   replace D_p1_1 := D_p1_1.ext hk
   replace D_p1_5 := D_p1_5.ext hk
   replace D_p1_6 := D_p1_6.ext hk
   have e4 : sl a22 4 = (.int .i64 (c)) := e4
   replace own_b3_2 := own_b3_2.ext hk
   replace kw := kw.x hk
   clear hR hk hg hP
   refine tail_nil (hK21 _ _ ?_)
   refine wp_ret ?_
   refine (show bodyPost Try.prog Try.f118 _ .ret _ _ from ret1 rfl zz22 e4 ⟨_, rfl, kw, ?_⟩)
   exact ⟨_, rfl⟩
end Go.Proofs.Ytnobijngkpflcaa
namespace Go.Proofs.Ytnobijngkpflcaa
open Go.Eng
set_option maxRecDepth 100000 in
theorem object21P_ok (u : World) (r : Rc) (hmh : mayH r.hs = true) (hcu : r.cu.wt ≤ 1000000000) (w : World) (S : BSet) (v : Value) (hu : u.heap.size ≤ w.heap.size) (hP : Pin u S) (hav : AVr u v) (hv : Rd w S r.d v) : Calls Try.prog 132 #[v] w (Ret w fun q W => ∃ y, Cp r.cu y ∧ Rd W (Fr w) (V.d (recO (r.withCu y))) q) := by
  have hx : r.cu.wt ≤ 1073741824 := Nat.le_trans hcu (by decide)
  obtain ⟨p0_1a, p0_1c, p0_5a, p0_5c, p0_6a, p0_6c, ev, hb_p0_4, D_p0_1, D_p0_5, D_p0_6⟩ := rdRc_out (rd_arg hv)
  subst ev
  refine enter Try.func132 rfl Try.ntmps132 (lbr rfl) fun a0 y0 zz0 harg => ?_
  have e0 : sl a0 0 = (.agg #[(.int .i64 (r.ln)), (.slice p0_1a (r.hs.length) p0_1c), (.int .u8 (r.cu.k)), (.int .i64 (r.cu.n)), (.string (r.cu.t)), (.slice p0_5a (r.cu.ns.length) p0_5c), (.slice p0_6a (r.cu.xs.length) p0_6c)]) := harg 0 (lbr rfl)
  have kw := Keeps.refl All w
  clear harg
  refine wp_seq_k fun K1 hK1 => ?_
  refine rg mixed y0 zz0 ?_
  refine .boxOp (v := (.agg #[(.int .i64 (r.ln)), (.slice p0_1a (r.hs.length) p0_1c), (.int .u8 (r.cu.k)), (.int .i64 (r.cu.n)), (.string (r.cu.t)), (.slice p0_5a (r.cu.ns.length) p0_5c), (.slice p0_6a (r.cu.xs.length) p0_6c)])) (hbs rfl e0) ?_
  refine .alloc z33 ?_
  refine .done ⟨by kernel_rfl, fun a2 g W2 y2 zz2 hk hg hV hR hP => ?_⟩
  obtain ⟨⟨b2_2, e2, hb2, own_b2_2⟩, ⟨b1_2, e1, hb1, own_b1_2⟩, -⟩ := hV
  have lo_b2_2 : w.heap.size ≤ b2_2 := Nat.le_trans kw.size (hg.lo _ _ hb2)
  have own_b2_2 : Own W2 b2_2 [(.int .u8 (0)), (.int .i64 (0)), (.string (⟨#[]⟩)), (.slice none 0 0), (.slice none 0 0)] 33 := own_b2_2
  have lo_b1_2 : w.heap.size ≤ b1_2 := Nat.le_trans kw.size (hg.lo _ _ hb1)
  have own_b1_2 : Own W2 b1_2 [(.int .i64 (r.ln)), (.slice p0_1a (r.hs.length) p0_1c), (.int .u8 (r.cu.k)), (.int .i64 (r.cu.n)), (.string (r.cu.t)), (.slice p0_5a (r.cu.ns.length) p0_5c), (.slice p0_6a (r.cu.xs.length) p0_6c)] 87 := own_b1_2
  have ne_b2_2_b1_2 : b2_2 ≠ b1_2 := fun h => by have := hg.inj _ _ _ hb2 (h ▸ hb1); cases this
  replace D_p0_1 := sa_more D_p0_1 hk [b2_2, b1_2] (in_cons (hg.lo _ _ hb2) (in_cons (hg.lo _ _ hb1) in_nil))
  replace D_p0_5 := sa_more D_p0_5 hk [b2_2, b1_2] (in_cons (hg.lo _ _ hb2) (in_cons (hg.lo _ _ hb1) in_nil))
  replace D_p0_6 := sa_more D_p0_6 hk [b2_2, b1_2] (in_cons (hg.lo _ _ hb2) (in_cons (hg.lo _ _ hb1) in_nil))
  replace kw := kw.x hk
  clear hR hk hg hP hb2 hb1
  refine tail_nil (hK1 _ _ ?_)
  refine wp_seq_k fun K3 hK3 => ?_
  refine rg mixed y2 zz2 ?_
  refine .i (fo 1 (hbs rfl e1) Try.underlying87 rfl sz85 rfl) ?_
  refine .i (lo1 (hlc rfl) own_b1_2 trivial agg85 sz85 rfl) ?_
  refine .da (X := Fr W2) (e := V.d (hshO r.hs)) (sp_call1 (φ1 := IsD (SA w S [b2_2, b1_2]) (hssD (r.hs))) ent150 ((hlc rfl).dat D_p0_1 sub_all) (fun g u1 W hk hgk h1 => (hashesObject_ok (r.hs) hmh W _ _ h1).mono (ret_fr hk hgk))) ?_
  refine .da (X := Fr W2) (e := Mb.d (Mb.mk (⟨#[104, 97, 115, 104, 101, 115]⟩) (hshO r.hs))) (sp_buildD (zd := [D.str ⟨#[]⟩, V.d V.zero]) (es := [(0, D.str (⟨#[104, 97, 115, 104, 101, 115]⟩)), (1, V.d (hshO r.hs))]) Try.underlying67 z67 (pl67 Try.underlying67) ⟨rfl, Has.cst.str (lbr rfl), ⟨rfl, (hlc rfl), trivial⟩⟩ zMb (by first | rfl | simp [plOf, width, width_V, hssD]) (by simp [fits, width, strsD, valsD, hssD, width_V]) rfl) ?_
  refine .i (fo 0 (hbs rfl e1) Try.underlying87 rfl sz2 rfl) ?_
  refine .i (lo1 (hlc rfl) own_b1_2 trivial agg2 sz2 rfl) ?_
  refine .i (v := (.agg #[(.int .u8 (2)), (.int .i64 (r.ln)), (.string (⟨#[]⟩)), (.slice none 0 0), (.slice none 0 0)])) (sp_call1 (φ1 := Is (.int .i64 (r.ln))) ent39 (hlc rfl) (fun g u1 W hk hgk h1 => by have h1 : u1 = _ := h1; subst u1; exact pkNum_ok (r.ln) W)) ?_
  refine .i (v := (.agg #[(.string (⟨#[108, 101, 110, 103, 116, 104]⟩)), (.int .u8 (2)), (.int .i64 (r.ln)), (.string (⟨#[]⟩)), (.slice none 0 0), (.slice none 0 0)])) (sp_build (vs := [(0, (.string (⟨#[108, 101, 110, 103, 116, 104]⟩))), (1, (.agg #[(.int .u8 (2)), (.int .i64 (r.ln)), (.string (⟨#[]⟩)), (.slice none 0 0), (.slice none 0 0)]))]) Try.underlying67 z67 (pl67 Try.underlying67) ⟨rfl, Has.cst, rfl, (hlc rfl), trivial⟩ (by kernel_rfl)) ?_
  refine .op (φ := IsArr W2 w.heap.size 67 6 (SF w [b2_2, b1_2]) (List.map Mb.d ([Mb.mk (⟨#[104, 97, 115, 104, 101, 115]⟩) (hshO r.hs), Mb.mk (⟨#[108, 101, 110, 103, 116, 104]⟩) (V.mk (2) (r.ln) (⟨#[]⟩) ([]) ([]))])) none) st_arr (sp_bslR (ds := [Mb.d (Mb.mk (⟨#[104, 97, 115, 104, 101, 115]⟩) (hshO r.hs)), Mb.d (Mb.mk (⟨#[108, 101, 110, 103, 116, 104]⟩) (V.mk (2) (r.ln) (⟨#[]⟩) ([]) ([])))]) Try.underlying82 sz67 z67 (lbr rfl) (lbr rfl) ⟨rfl, ((hlc rfl).sup (fr_sf kw (in_cons own_b2_2.lt (in_cons own_b1_2.lt in_nil)))), ⟨rfl, ((hlc rfl).dat (rdMb_mk (lbr rfl) (rdV_mk (by decide) (rd_nil _) (rd_nil _) : Rd W2 (SF w [b2_2, b1_2]) (V.d (V.mk (2) (r.ln) (⟨#[]⟩) ([]) ([]))) _) : Rd W2 (SF w [b2_2, b1_2]) (Mb.d (Mb.mk (⟨#[108, 101, 110, 103, 116, 104]⟩) (V.mk (2) (r.ln) (⟨#[]⟩) ([]) ([])))) _) sub_all), trivial⟩⟩ rfl (by intro e he; simp at he; rcases he with rfl | rfl <;> exact width_Mb _) kw.size) ?_
  refine .done ⟨by kernel_rfl, fun a4 g W4 y4 zz4 hk hg hV hR hP => ?_⟩
  obtain ⟨e14, -, -, -, -, -, -, -, -, -⟩ := hV
  replace e2 := (hR 2 rfl).trans e2
  replace e1 := (hR 1 rfl).trans e1
  obtain ⟨v14_4, ev⟩ : ∃ v, sl a4 14 = v := ⟨_, rfl⟩
  rw [ev] at e14
  obtain ⟨hd14_4, A_14_4, hf14_4⟩ := e14
  have e14 := ev; clear ev
  replace hf14_4 := row_new hf14_4
  obtain ⟨v14_4a, v14_4n, v14_4c, ev⟩ := arr_sl A_14_4; subst ev
  replace A_14_4 : Arr W4 w.heap.size 67 6 (SF w (blks hd14_4 ++ (b2_2 :: (b1_2 :: [])))) (List.map Mb.d ([Mb.mk (⟨#[104, 97, 115, 104, 101, 115]⟩) (hshO r.hs), Mb.mk (⟨#[108, 101, 110, 103, 116, 104]⟩) (V.mk (2) (r.ln) (⟨#[]⟩) ([]) ([]))])) (.slice v14_4a v14_4n v14_4c) hd14_4 := arrF_new A_14_4 (M' := (blks hd14_4 ++ (b2_2 :: (b1_2 :: [])))) (fun b hb => (List.mem_append.1 hb).symm)
  have nb_b2_2_4 : b2_2 ∉ blks hd14_4 := fun hm => absurd (hf14_4 _ hm) (Nat.not_le.2 own_b2_2.lt)
  have nb_b1_2_4 : b1_2 ∉ blks hd14_4 := fun hm => absurd (hf14_4 _ hm) (Nat.not_le.2 own_b1_2.lt)
  replace D_p0_1 : Rd W4 (SA w S (blks hd14_4 ++ (b2_2 :: (b1_2 :: [])))) (hssD (r.hs)) (.slice p0_1a (r.hs.length) p0_1c) := sa_more D_p0_1 hk (blks hd14_4) hf14_4
  replace D_p0_5 : Rd W4 (SA w S (blks hd14_4 ++ (b2_2 :: (b1_2 :: [])))) (strsD (r.cu.ns)) (.slice p0_5a (r.cu.ns.length) p0_5c) := sa_more D_p0_5 hk (blks hd14_4) hf14_4
  replace D_p0_6 : Rd W4 (SA w S (blks hd14_4 ++ (b2_2 :: (b1_2 :: [])))) (valsD (r.cu.xs)) (.slice p0_6a (r.cu.xs.length) p0_6c) := sa_more D_p0_6 hk (blks hd14_4) hf14_4
  replace own_b2_2 := own_b2_2.ext hk
  replace own_b1_2 := own_b1_2.ext hk
  replace kw := kw.x hk
  clear hR hk hg hP hf14_4
  refine tail_assign (v := (.slice v14_4a v14_4n v14_4c)) e14 (by rw [y4]; exact Nat.le_of_ble_eq_true rfl) (fun a5 y5 zz5 e3 hr => ?_)
  replace y5 := y5.trans y4; replace zz5 := zz5.trans zz4
  replace e2 := (hr 2 (by decide)).trans e2
  replace e1 := (hr 1 (by decide)).trans e1
  replace e14 := (hr 14 (by decide)).trans e14
  clear hr
  refine tail_nil (hK3 _ _ ?_)
  refine wp_seq_k fun K6 hK6 => ?_
  refine wp_seq_k fun K7 hK7 => ?_
  refine rg mixed y5 zz5 ?_
  refine .i (fo 2 (hbs rfl e1) Try.underlying87 rfl sz33 rfl) ?_
  refine .i (v := (.agg #[(.int .u8 (r.cu.k)), (.int .i64 (r.cu.n)), (.string (r.cu.t)), (.slice p0_5a (r.cu.ns.length) p0_5c), (.slice p0_6a (r.cu.xs.length) p0_6c)])) (loA (hlc rfl) own_b1_2 trivial agg33 sz33 rfl rfl) ?_
  refine .i (v := (.bool (noneB (r.cu)))) (sp_call1 (φ1 := IsD (SA w S (blks hd14_4 ++ (b2_2 :: (b1_2 :: [])))) (V.d (r.cu))) ent131 ((hlc rfl).dat (rdV_in (x := r.cu) hb_p0_4 D_p0_5 D_p0_6 : Rd W4 (SA w S (blks hd14_4 ++ (b2_2 :: (b1_2 :: [])))) (V.d (r.cu)) _) sub_all) (fun g u1 W hk hgk h1 => none_ok (r.cu) W _ _ h1)) ?_
  refine .i (sp_not (hlc rfl)) ?_
  refine .done ⟨by kernel_rfl, fun a8 g W8 y8 zz8 hk hg hV hR hP => ?_⟩
  obtain ⟨e18, -, -, -, -⟩ := hV
  replace e2 := (hR 2 rfl).trans e2
  replace e1 := (hR 1 rfl).trans e1
  replace e3 := (hR 3 rfl).trans e3
  replace A_14_4 := A_14_4.ext hk
  replace D_p0_1 := D_p0_1.ext hk
  replace D_p0_5 := D_p0_5.ext hk
  replace D_p0_6 := D_p0_6.ext hk
  have e18 : sl a8 18 = (.bool (!(noneB (r.cu)))) := e18
  replace own_b2_2 := own_b2_2.ext hk
  replace own_b1_2 := own_b1_2.ext hk
  replace kw := kw.x hk
  clear hR hk hg hP
  refine tail_nil (hK7 _ _ ?_)
  refine wp_cond_split e18 (fun hc => ?_) (fun hc => ?_)
  ·
   have hno : noneB r.cu = false := by simpa using hc
   refine rg mixed y8 zz8 ?_
   refine .i (sp_move (hbs rfl e3)) ?_
   refine .i (fo 2 (hbs rfl e1) Try.underlying87 rfl sz33 rfl) ?_
   refine .i (v := (.agg #[(.int .u8 (r.cu.k)), (.int .i64 (r.cu.n)), (.string (r.cu.t)), (.slice p0_5a (r.cu.ns.length) p0_5c), (.slice p0_6a (r.cu.xs.length) p0_6c)])) (loA (hlc rfl) own_b1_2 trivial agg33 sz33 rfl rfl) ?_
   refine .op (φ := IsEx (r.cu) (fun yy => IsD (Fr W8) (V.d (yy)))) (st_ex1 fun yy => (st_d sub_all)) (sp_call1 (φ1 := Is (.agg #[(.int .u8 (r.cu.k)), (.int .i64 (r.cu.n)), (.string (r.cu.t)), (.slice p0_5a (r.cu.ns.length) p0_5c), (.slice p0_6a (r.cu.xs.length) p0_6c)])) ent79 (hlc rfl) (fun g u1 W hk hgk h1 => by have h1 : u1 = _ := h1; subst u1; exact (CopyP_ok u (r.cu) (by first | omega | exact hx) W _ _ (Nat.le_trans hu (Nat.le_trans kw.size hk.size)) (pin_sa hP hu) (avr_cu hav) ((rdV_in (x := r.cu) hb_p0_4 D_p0_5 D_p0_6 : Rd W8 (SA w S (blks hd14_4 ++ (b2_2 :: (b1_2 :: [])))) (V.d (r.cu)) _).ext hk)).mono (fun _ _ ⟨v, h1, h2, y, h3, h4⟩ => ⟨v, h1, h2, y, h3, fresh_d hk hgk h4⟩))) ?_
   refine .done ⟨by kernel_rfl, fun a9 g W9 y9 zz9 hk hg hV hR hP => ?_⟩
   obtain ⟨e22, -, -, e19, -⟩ := hV
   replace e2 := (hR 2 rfl).trans e2
   replace e3 := (hR 3 rfl).trans e3
   obtain ⟨y22_9, hcp_y22_9, e22⟩ := e22
   have hMx : ∀ b ∈ (blks hd14_4 ++ (b2_2 :: (b1_2 :: []))), b < W8.heap.size := (in_app A_14_4.lt (in_cons own_b2_2.lt (in_cons own_b1_2.lt in_nil)))
   replace A_14_4 := A_14_4.ext hk
   replace D_p0_1 := D_p0_1.ext hk
   replace D_p0_5 := D_p0_5.ext hk
   replace D_p0_6 := D_p0_6.ext hk
   have e19 : sl a9 19 = (.slice v14_4a v14_4n v14_4c) := e19
   obtain ⟨v22_9, ev⟩ : ∃ v, sl a9 22 = v := ⟨_, rfl⟩
   rw [ev] at e22
   have D_v22_9 : Rd W9 (SF w (blks hd14_4 ++ (b2_2 :: (b1_2 :: [])))) (V.d (y22_9)) v22_9 := fr_end (M := (blks hd14_4 ++ (b2_2 :: (b1_2 :: [])))) e22 kw [] in_nil hMx
   replace e22 := ev; clear ev
   obtain ⟨cn22_9a, cn22_9c, ci22_9a, ci22_9c, ev, ht_v22_9, D_cn22_9, D_ci22_9⟩ := rdV_out D_v22_9
   subst ev; clear D_v22_9
   replace own_b2_2 := own_b2_2.ext hk
   replace own_b1_2 := own_b1_2.ext hk
   replace kw := kw.x hk
   clear hR hk hg hP
   refine tail_reg 3 (fun k => k ∉ blks hd14_4) (Ψ := fun W => Arr W w.heap.size 67 6 (SF w (blks hd14_4 ++ (b2_2 :: (b1_2 :: [])))) (List.map Mb.d ([Mb.mk (⟨#[104, 97, 115, 104, 101, 115]⟩) (hshO r.hs), Mb.mk (⟨#[108, 101, 110, 103, 116, 104]⟩) (V.mk (2) (r.ln) (⟨#[]⟩) ([]) ([]))])) (.slice v14_4a v14_4n v14_4c) hd14_4) y9 zz9 (fun W W' k h => h.ext k) A_14_4 rfl ?_
   refine .i (v := (.agg #[(.string (⟨#[99, 117, 115, 116, 111, 109]⟩)), (.int .u8 (y22_9.k)), (.int .i64 (y22_9.n)), (.string (y22_9.t)), (.slice cn22_9a (y22_9.ns.length) cn22_9c), (.slice ci22_9a (y22_9.xs.length) ci22_9c)])) (sp_build (vs := [(0, (.string (⟨#[99, 117, 115, 116, 111, 109]⟩))), (1, (.agg #[(.int .u8 (y22_9.k)), (.int .i64 (y22_9.n)), (.string (y22_9.t)), (.slice cn22_9a (y22_9.ns.length) cn22_9c), (.slice ci22_9a (y22_9.xs.length) ci22_9c)]))]) Try.underlying67 z67 (pl67 Try.underlying67) ⟨rfl, Has.cst, rfl, (hbs rfl e22), trivial⟩ (by kernel_rfl)) ?_
   refine .op (φ := IsD (SF w (blks hd14_4 ++ (b2_2 :: (b1_2 :: [])))) (mbsD ([Mb.mk (⟨#[99, 117, 115, 116, 111, 109]⟩) (y22_9)]))) (st_d (sub_nbF (fun b hb => List.mem_append_left _ hb))) (sp_bsl (ds := [Mb.d (Mb.mk (⟨#[99, 117, 115, 116, 111, 109]⟩) (y22_9))]) Try.underlying82 sz67 z67 (lbr rfl) (lbr rfl) ⟨rfl, ((hlc rfl).dat (rdMb_mk (lbr rfl) (rdV_in (x := y22_9) ht_v22_9 D_cn22_9 D_ci22_9 : Rd W9 (SF w (blks hd14_4 ++ (b2_2 :: (b1_2 :: [])))) (V.d (y22_9)) _) : Rd W9 (SF w (blks hd14_4 ++ (b2_2 :: (b1_2 :: [])))) (Mb.d (Mb.mk (⟨#[99, 117, 115, 116, 111, 109]⟩) (y22_9))) _) (sub_nbF (fun b hb => List.mem_append_left _ hb))), trivial⟩ rfl (by intro e he; simp at he; rcases he with rfl <;> exact width_Mb _) (fr_sf kw (in_app A_14_4.lt (in_cons own_b2_2.lt (in_cons own_b1_2.lt in_nil))))) ?_
   refine .appB (ds := List.map Mb.d ([Mb.mk (⟨#[104, 97, 115, 104, 101, 115]⟩) (hshO r.hs), Mb.mk (⟨#[108, 101, 110, 103, 116, 104]⟩) (V.mk (2) (r.ln) (⟨#[]⟩) ([]) ([]))])) (es := [Mb.d (Mb.mk (⟨#[99, 117, 115, 116, 111, 109]⟩) (y22_9))]) (X := SF w (blks hd14_4 ++ (b2_2 :: (b1_2 :: [])))) Try.underlying82 inf67 (lbr rfl) (hbs rfl e19) (hlc rfl) (sub_nbF (fun b hb => List.mem_append_left _ hb)) (by simp [maxLen]) (by simp) kw.size ?_
   refine .done ⟨by kernel_rfl, fun a10 g W10 y10 zz10 hk hg hV hR hP => ?_⟩
   refine tail_nil ?_
   show runTail _ _ _ _ _ _
   obtain ⟨e25, -, -, -⟩ := hV
   replace e2 := (hR 2 rfl).trans e2
   replace e3 := (hR 3 rfl).trans e3
   obtain ⟨v25_10, ev⟩ : ∃ v, sl a10 25 = v := ⟨_, rfl⟩
   rw [ev] at e25
   obtain ⟨hd25_10, A_25_10, hf25_10⟩ := e25
   have e25 := ev; clear ev
   obtain ⟨v25_10a, v25_10n, v25_10c, ev⟩ := arr_sl A_25_10; subst ev
   replace A_25_10 := arrF_new (M' := (blks hd25_10 ++ (b2_2 :: (b1_2 :: [])))) A_25_10 (rep_app (rep_q fun _ h => h) (rep_cons (rep_cons rep_nil)))
   replace A_25_10 : Arr W10 w.heap.size 67 6 (SF w (blks hd25_10 ++ (b2_2 :: (b1_2 :: [])))) (List.map Mb.d (([Mb.mk (⟨#[104, 97, 115, 104, 101, 115]⟩) (hshO r.hs), Mb.mk (⟨#[108, 101, 110, 103, 116, 104]⟩) (V.mk (2) (r.ln) (⟨#[]⟩) ([]) ([]))]) ++ [Mb.mk (⟨#[99, 117, 115, 116, 111, 109]⟩) (y22_9)])) (.slice v25_10a v25_10n v25_10c) hd25_10 := by first | exact A_25_10 | (rw [List.map_append]; exact A_25_10)
   have nb_b2_2_10 : b2_2 ∉ blks hd25_10 := nb_new nb_b2_2_4 own_b2_2.lt hf25_10
   have nb_b1_2_10 : b1_2 ∉ blks hd25_10 := nb_new nb_b1_2_4 own_b1_2.lt hf25_10
   replace D_cn22_9 := sf_app (M' := (blks hd25_10 ++ (b2_2 :: (b1_2 :: [])))) D_cn22_9 hk (fun b hb => List.mem_append_left _ hb) (rep_app hf25_10 (rep_cons (rep_cons rep_nil)))
   replace D_ci22_9 := sf_app (M' := (blks hd25_10 ++ (b2_2 :: (b1_2 :: [])))) D_ci22_9 hk (fun b hb => List.mem_append_left _ hb) (rep_app hf25_10 (rep_cons (rep_cons rep_nil)))
   replace own_b2_2 := own_app own_b2_2 hk nb_b2_2_4
   replace own_b1_2 := own_app own_b1_2 hk nb_b1_2_4
   replace kw := keeps_app kw hk A_14_4.ge
   clear hR hk hg hP hf25_10 A_14_4
   refine tail_assign (v := (.slice v25_10a v25_10n v25_10c)) e25 (by rw [y10]; exact Nat.le_of_ble_eq_true rfl) (fun a11 y11 zz11 e3 hr => ?_)
   replace y11 := y11.trans y10; replace zz11 := zz11.trans zz10
   replace e2 := (hr 2 (by decide)).trans e2
   replace e25 := (hr 25 (by decide)).trans e25
   clear hr
   have D_v25_10 : Rd W10 (SF w [b2_2, b1_2]) (mbsD (([Mb.mk (⟨#[104, 97, 115, 104, 101, 115]⟩) (hshO r.hs), Mb.mk (⟨#[108, 101, 110, 103, 116, 104]⟩) (V.mk (2) (r.ln) (⟨#[]⟩) ([]) ([]))]) ++ [Mb.mk (⟨#[99, 117, 115, 116, 111, 109]⟩) (y22_9)])) (.slice v25_10a v25_10n v25_10c) := arrF_rd A_25_10 (ls_skipA (ls_keep (ls_keep ls_nil))) (nin_cons nb_b2_2_10 (nin_cons nb_b1_2_10 nin_nil))
   obtain ⟨xa, xc, ev, D2⟩ := rdMbs_out D_v25_10
   injection ev with h1 h2 h3; subst h1 h2 h3; replace D_v25_10 := D2; clear D2
   refine tail_nil (hK6 _ _ ?_)
   refine wp_seq_k fun K12 hK12 => ?_
   have hrl : recL (r.withCu y22_9) = [Mb.mk sHashes (hshO r.hs), Mb.mk sLength (numVv r.ln), Mb.mk sCustom y22_9] := by rw [recL, if_neg (by rw [show (r.withCu y22_9).cu = y22_9 from rfl, noneB_cp hcp_y22_9]; simp [hno])]; rfl
   have hobk := recL_ok (r := r.withCu y22_9) hmh (Nat.le_trans (Cp.wt hcp_y22_9) (Nat.le_trans hcu (by decide)))
   refine rg mixed y11 zz11 ?_
   refine .i (sp_move (hbs rfl e3)) ?_
   refine .op (φ := IsT (IsD (Fr W10) (V.d (objM (([Mb.mk (⟨#[104, 97, 115, 104, 101, 115]⟩) (hshO r.hs), Mb.mk (⟨#[108, 101, 110, 103, 116, 104]⟩) (V.mk (2) (r.ln) (⟨#[]⟩) ([]) ([]))]) ++ [Mb.mk (⟨#[99, 117, 115, 116, 111, 109]⟩) (y22_9)])))) (Is (.int .i64 (objE (([Mb.mk (⟨#[104, 97, 115, 104, 101, 115]⟩) (hshO r.hs), Mb.mk (⟨#[108, 101, 110, 103, 116, 104]⟩) (V.mk (2) (r.ln) (⟨#[]⟩) ([]) ([]))]) ++ [Mb.mk (⟨#[99, 117, 115, 116, 111, 109]⟩) (y22_9)]))))) (st_t (st_d sub_all) (st_is _)) (sp_call1 (φ1 := IsD (SF w [b2_2, b1_2]) (mbsD (([Mb.mk (⟨#[104, 97, 115, 104, 101, 115]⟩) (hshO r.hs), Mb.mk (⟨#[108, 101, 110, 103, 116, 104]⟩) (V.mk (2) (r.ln) (⟨#[]⟩) ([]) ([]))]) ++ [Mb.mk (⟨#[99, 117, 115, 116, 111, 109]⟩) (y22_9)]))) ent38 ((hlc rfl).dat D_v25_10 sub_all) (fun g u1 W hk hgk h1 => (ObjectOf_ok (([Mb.mk (⟨#[104, 97, 115, 104, 101, 115]⟩) (hshO r.hs), Mb.mk (⟨#[108, 101, 110, 103, 116, 104]⟩) (V.mk (2) (r.ln) (⟨#[]⟩) ([]) ([]))]) ++ [Mb.mk (⟨#[99, 117, 115, 116, 111, 109]⟩) (y22_9)]) (by have h := hobk.1; rw [hrl] at h; exact h) (by have h := hobk.2.1; rw [hrl] at h; exact h) (by have h := hobk.2.2; rw [hrl] at h; exact h) W _ _ (fun b o h => h.1.2.1) h1).mono (fun _ _ ⟨v, h1, h2, r1, h3, h4⟩ => ⟨v, h1, h2, r1, _, h3, fresh_d hk hgk h4, rfl⟩))) ?_
   refine .op (φ := _) (st_t (st_d sub_all) (st_is _)) (sp_move (hlc rfl)) ?_
   refine .da (X := Fr W10) (e := V.d (objM (([Mb.mk (⟨#[104, 97, 115, 104, 101, 115]⟩) (hshO r.hs), Mb.mk (⟨#[108, 101, 110, 103, 116, 104]⟩) (V.mk (2) (r.ln) (⟨#[]⟩) ([]) ([]))]) ++ [Mb.mk (⟨#[99, 117, 115, 116, 111, 109]⟩) (y22_9)]))) (sp_ext2 (hlc rfl) rfl) ?_
   refine .i (v := (.int .i64 (objE (([Mb.mk (⟨#[104, 97, 115, 104, 101, 115]⟩) (hshO r.hs), Mb.mk (⟨#[108, 101, 110, 103, 116, 104]⟩) (V.mk (2) (r.ln) (⟨#[]⟩) ([]) ([]))]) ++ [Mb.mk (⟨#[99, 117, 115, 116, 111, 109]⟩) (y22_9)])))) (sp_ext2' (hlc rfl) rfl) ?_
   refine .alloc z33 ?_
   refine .done ⟨by kernel_rfl, fun a13 g W13 y13 zz13 hk hg hV hR hP => ?_⟩
   obtain ⟨⟨b4_13, e4, hb4, own_b4_13⟩, e30, e29, -, -, -, -⟩ := hV
   have lo_b4_13 : w.heap.size ≤ b4_13 := Nat.le_trans kw.size (hg.lo _ _ hb4)
   have ne_b2_2_b4_13 : b2_2 ≠ b4_13 := Nat.ne_of_lt (Nat.lt_of_lt_of_le own_b2_2.lt (hg.lo _ _ hb4))
   have ne_b1_2_b4_13 : b1_2 ≠ b4_13 := Nat.ne_of_lt (Nat.lt_of_lt_of_le own_b1_2.lt (hg.lo _ _ hb4))
   have own_b4_13 : Own W13 b4_13 [(.int .u8 (0)), (.int .i64 (0)), (.string (⟨#[]⟩)), (.slice none 0 0), (.slice none 0 0)] 33 := own_b4_13
   replace e2 := (hR 2 rfl).trans e2
   replace D_v25_10 := sf_more D_v25_10 hk [b4_13] (in_cons (hg.lo _ _ hb4) in_nil)
   obtain ⟨v29_13, ev⟩ : ∃ v, sl a13 29 = v := ⟨_, rfl⟩
   rw [ev] at e29
   have D_v29_13 : Rd W13 (SF w [b4_13, b2_2, b1_2]) (V.d (objM (([Mb.mk (⟨#[104, 97, 115, 104, 101, 115]⟩) (hshO r.hs), Mb.mk (⟨#[108, 101, 110, 103, 116, 104]⟩) (V.mk (2) (r.ln) (⟨#[]⟩) ([]) ([]))]) ++ [Mb.mk (⟨#[99, 117, 115, 116, 111, 109]⟩) (y22_9)]))) v29_13 := fr_end (M := [b2_2, b1_2]) e29 kw [b4_13] (in_cons ⟨_, hb4⟩ in_nil) (in_cons own_b2_2.lt (in_cons own_b1_2.lt in_nil))
   replace e29 := ev; clear ev
   obtain ⟨cn29_13a, cn29_13c, ci29_13a, ci29_13c, ev, ht_v29_13, D_cn29_13, D_ci29_13⟩ := rdV_out D_v29_13
   subst ev; clear D_v29_13
   replace e30 := e30.q
   replace own_b2_2 := own_b2_2.ext hk
   replace own_b1_2 := own_b1_2.ext hk
   replace kw := kw.x hk
   clear hR hk hg hP hb4
   refine tail_store (b := b4_13) (o := 0) (v := (.agg #[(.int .u8 ((objM (([Mb.mk (⟨#[104, 97, 115, 104, 101, 115]⟩) (hshO r.hs), Mb.mk (⟨#[108, 101, 110, 103, 116, 104]⟩) (V.mk (2) (r.ln) (⟨#[]⟩) ([]) ([]))]) ++ [Mb.mk (⟨#[99, 117, 115, 116, 111, 109]⟩) (y22_9)])).k)), (.int .i64 ((objM (([Mb.mk (⟨#[104, 97, 115, 104, 101, 115]⟩) (hshO r.hs), Mb.mk (⟨#[108, 101, 110, 103, 116, 104]⟩) (V.mk (2) (r.ln) (⟨#[]⟩) ([]) ([]))]) ++ [Mb.mk (⟨#[99, 117, 115, 116, 111, 109]⟩) (y22_9)])).n)), (.string ((objM (([Mb.mk (⟨#[104, 97, 115, 104, 101, 115]⟩) (hshO r.hs), Mb.mk (⟨#[108, 101, 110, 103, 116, 104]⟩) (V.mk (2) (r.ln) (⟨#[]⟩) ([]) ([]))]) ++ [Mb.mk (⟨#[99, 117, 115, 116, 111, 109]⟩) (y22_9)])).t)), (.slice cn29_13a (((objM (([Mb.mk (⟨#[104, 97, 115, 104, 101, 115]⟩) (hshO r.hs), Mb.mk (⟨#[108, 101, 110, 103, 116, 104]⟩) (V.mk (2) (r.ln) (⟨#[]⟩) ([]) ([]))]) ++ [Mb.mk (⟨#[99, 117, 115, 116, 111, 109]⟩) (y22_9)])).ns).length) cn29_13c), (.slice ci29_13a (((objM (([Mb.mk (⟨#[104, 97, 115, 104, 101, 115]⟩) (hshO r.hs), Mb.mk (⟨#[108, 101, 110, 103, 116, 104]⟩) (V.mk (2) (r.ln) (⟨#[]⟩) ([]) ([]))]) ++ [Mb.mk (⟨#[99, 117, 115, 116, 111, 109]⟩) (y22_9)])).xs).length) ci29_13c)])) e4 e29 sz33 rfl own_b4_13 (lbr rfl) (all_cons rfl (all_cons rfl (all_cons rfl (all_cons rfl (all_cons rfl all_nil))))) (fun W14 hs own_b4_13 => ?_)
   have own_b4_13 : Own W14 b4_13 [(.int .u8 ((objM (([Mb.mk (⟨#[104, 97, 115, 104, 101, 115]⟩) (hshO r.hs), Mb.mk (⟨#[108, 101, 110, 103, 116, 104]⟩) (V.mk (2) (r.ln) (⟨#[]⟩) ([]) ([]))]) ++ [Mb.mk (⟨#[99, 117, 115, 116, 111, 109]⟩) (y22_9)])).k)), (.int .i64 ((objM (([Mb.mk (⟨#[104, 97, 115, 104, 101, 115]⟩) (hshO r.hs), Mb.mk (⟨#[108, 101, 110, 103, 116, 104]⟩) (V.mk (2) (r.ln) (⟨#[]⟩) ([]) ([]))]) ++ [Mb.mk (⟨#[99, 117, 115, 116, 111, 109]⟩) (y22_9)])).n)), (.string ((objM (([Mb.mk (⟨#[104, 97, 115, 104, 101, 115]⟩) (hshO r.hs), Mb.mk (⟨#[108, 101, 110, 103, 116, 104]⟩) (V.mk (2) (r.ln) (⟨#[]⟩) ([]) ([]))]) ++ [Mb.mk (⟨#[99, 117, 115, 116, 111, 109]⟩) (y22_9)])).t)), (.slice cn29_13a (((objM (([Mb.mk (⟨#[104, 97, 115, 104, 101, 115]⟩) (hshO r.hs), Mb.mk (⟨#[108, 101, 110, 103, 116, 104]⟩) (V.mk (2) (r.ln) (⟨#[]⟩) ([]) ([]))]) ++ [Mb.mk (⟨#[99, 117, 115, 116, 111, 109]⟩) (y22_9)])).ns).length) cn29_13c), (.slice ci29_13a (((objM (([Mb.mk (⟨#[104, 97, 115, 104, 101, 115]⟩) (hshO r.hs), Mb.mk (⟨#[108, 101, 110, 103, 116, 104]⟩) (V.mk (2) (r.ln) (⟨#[]⟩) ([]) ([]))]) ++ [Mb.mk (⟨#[99, 117, 115, 116, 111, 109]⟩) (y22_9)])).xs).length) ci29_13c)] 33 := own_b4_13
   replace own_b2_2 := own_store own_b2_2 hs ne_b2_2_b4_13
   replace own_b1_2 := own_store own_b1_2 hs ne_b1_2_b4_13
   replace D_v25_10 := sf_store D_v25_10 hs (by simp)
   replace D_cn29_13 := sf_store D_cn29_13 hs (by simp)
   replace D_ci29_13 := sf_store D_ci29_13 hs (by simp)
   replace kw := keeps_store kw hs lo_b4_13
   clear hs
   refine tail_assign (v := (.int .i64 (objE (([Mb.mk (⟨#[104, 97, 115, 104, 101, 115]⟩) (hshO r.hs), Mb.mk (⟨#[108, 101, 110, 103, 116, 104]⟩) (V.mk (2) (r.ln) (⟨#[]⟩) ([]) ([]))]) ++ [Mb.mk (⟨#[99, 117, 115, 116, 111, 109]⟩) (y22_9)])))) e30 (by rw [y13]; exact Nat.le_of_ble_eq_true rfl) (fun a15 y15 zz15 e5 hr => ?_)
   replace y15 := y15.trans y13; replace zz15 := zz15.trans zz13
   replace e2 := (hr 2 (by decide)).trans e2
   replace e4 := (hr 4 (by decide)).trans e4
   replace e29 := (hr 29 (by decide)).trans e29
   replace e30 := (hr 30 (by decide)).trans e30
   clear hr
   refine tail_nil (hK12 _ _ ?_)
   refine wp_seq_k fun K16 hK16 => ?_
   refine rg mixed y15 zz15 ?_
   refine .i (v := (.agg #[(.int .u8 ((objM (([Mb.mk (⟨#[104, 97, 115, 104, 101, 115]⟩) (hshO r.hs), Mb.mk (⟨#[108, 101, 110, 103, 116, 104]⟩) (V.mk (2) (r.ln) (⟨#[]⟩) ([]) ([]))]) ++ [Mb.mk (⟨#[99, 117, 115, 116, 111, 109]⟩) (y22_9)])).k)), (.int .i64 ((objM (([Mb.mk (⟨#[104, 97, 115, 104, 101, 115]⟩) (hshO r.hs), Mb.mk (⟨#[108, 101, 110, 103, 116, 104]⟩) (V.mk (2) (r.ln) (⟨#[]⟩) ([]) ([]))]) ++ [Mb.mk (⟨#[99, 117, 115, 116, 111, 109]⟩) (y22_9)])).n)), (.string ((objM (([Mb.mk (⟨#[104, 97, 115, 104, 101, 115]⟩) (hshO r.hs), Mb.mk (⟨#[108, 101, 110, 103, 116, 104]⟩) (V.mk (2) (r.ln) (⟨#[]⟩) ([]) ([]))]) ++ [Mb.mk (⟨#[99, 117, 115, 116, 111, 109]⟩) (y22_9)])).t)), (.slice cn29_13a (((objM (([Mb.mk (⟨#[104, 97, 115, 104, 101, 115]⟩) (hshO r.hs), Mb.mk (⟨#[108, 101, 110, 103, 116, 104]⟩) (V.mk (2) (r.ln) (⟨#[]⟩) ([]) ([]))]) ++ [Mb.mk (⟨#[99, 117, 115, 116, 111, 109]⟩) (y22_9)])).ns).length) cn29_13c), (.slice ci29_13a (((objM (([Mb.mk (⟨#[104, 97, 115, 104, 101, 115]⟩) (hshO r.hs), Mb.mk (⟨#[108, 101, 110, 103, 116, 104]⟩) (V.mk (2) (r.ln) (⟨#[]⟩) ([]) ([]))]) ++ [Mb.mk (⟨#[99, 117, 115, 116, 111, 109]⟩) (y22_9)])).xs).length) ci29_13c)])) (loA (hbs rfl e4) own_b4_13 trivial agg33 sz33 rfl rfl) ?_
   refine .done ⟨by kernel_rfl, fun a17 g W17 y17 zz17 hk hg hV hR hP => ?_⟩
   obtain ⟨e31, -⟩ := hV
   replace e2 := (hR 2 rfl).trans e2
   replace D_cn29_13 := D_cn29_13.ext hk
   replace D_ci29_13 := D_ci29_13.ext hk
   replace e31 := e31.q
   replace own_b2_2 := own_b2_2.ext hk
   replace own_b1_2 := own_b1_2.ext hk
   replace own_b4_13 := own_b4_13.ext hk
   replace kw := kw.x hk
   clear hR hk hg hP
   refine tail_store (b := b2_2) (o := 0) (v := (.agg #[(.int .u8 ((objM (([Mb.mk (⟨#[104, 97, 115, 104, 101, 115]⟩) (hshO r.hs), Mb.mk (⟨#[108, 101, 110, 103, 116, 104]⟩) (V.mk (2) (r.ln) (⟨#[]⟩) ([]) ([]))]) ++ [Mb.mk (⟨#[99, 117, 115, 116, 111, 109]⟩) (y22_9)])).k)), (.int .i64 ((objM (([Mb.mk (⟨#[104, 97, 115, 104, 101, 115]⟩) (hshO r.hs), Mb.mk (⟨#[108, 101, 110, 103, 116, 104]⟩) (V.mk (2) (r.ln) (⟨#[]⟩) ([]) ([]))]) ++ [Mb.mk (⟨#[99, 117, 115, 116, 111, 109]⟩) (y22_9)])).n)), (.string ((objM (([Mb.mk (⟨#[104, 97, 115, 104, 101, 115]⟩) (hshO r.hs), Mb.mk (⟨#[108, 101, 110, 103, 116, 104]⟩) (V.mk (2) (r.ln) (⟨#[]⟩) ([]) ([]))]) ++ [Mb.mk (⟨#[99, 117, 115, 116, 111, 109]⟩) (y22_9)])).t)), (.slice cn29_13a (((objM (([Mb.mk (⟨#[104, 97, 115, 104, 101, 115]⟩) (hshO r.hs), Mb.mk (⟨#[108, 101, 110, 103, 116, 104]⟩) (V.mk (2) (r.ln) (⟨#[]⟩) ([]) ([]))]) ++ [Mb.mk (⟨#[99, 117, 115, 116, 111, 109]⟩) (y22_9)])).ns).length) cn29_13c), (.slice ci29_13a (((objM (([Mb.mk (⟨#[104, 97, 115, 104, 101, 115]⟩) (hshO r.hs), Mb.mk (⟨#[108, 101, 110, 103, 116, 104]⟩) (V.mk (2) (r.ln) (⟨#[]⟩) ([]) ([]))]) ++ [Mb.mk (⟨#[99, 117, 115, 116, 111, 109]⟩) (y22_9)])).xs).length) ci29_13c)])) e2 e31 sz33 rfl own_b2_2 (lbr rfl) (all_cons rfl (all_cons rfl (all_cons rfl (all_cons rfl (all_cons rfl all_nil))))) (fun W18 hs own_b2_2 => ?_)
   have own_b2_2 : Own W18 b2_2 [(.int .u8 ((objM (([Mb.mk (⟨#[104, 97, 115, 104, 101, 115]⟩) (hshO r.hs), Mb.mk (⟨#[108, 101, 110, 103, 116, 104]⟩) (V.mk (2) (r.ln) (⟨#[]⟩) ([]) ([]))]) ++ [Mb.mk (⟨#[99, 117, 115, 116, 111, 109]⟩) (y22_9)])).k)), (.int .i64 ((objM (([Mb.mk (⟨#[104, 97, 115, 104, 101, 115]⟩) (hshO r.hs), Mb.mk (⟨#[108, 101, 110, 103, 116, 104]⟩) (V.mk (2) (r.ln) (⟨#[]⟩) ([]) ([]))]) ++ [Mb.mk (⟨#[99, 117, 115, 116, 111, 109]⟩) (y22_9)])).n)), (.string ((objM (([Mb.mk (⟨#[104, 97, 115, 104, 101, 115]⟩) (hshO r.hs), Mb.mk (⟨#[108, 101, 110, 103, 116, 104]⟩) (V.mk (2) (r.ln) (⟨#[]⟩) ([]) ([]))]) ++ [Mb.mk (⟨#[99, 117, 115, 116, 111, 109]⟩) (y22_9)])).t)), (.slice cn29_13a (((objM (([Mb.mk (⟨#[104, 97, 115, 104, 101, 115]⟩) (hshO r.hs), Mb.mk (⟨#[108, 101, 110, 103, 116, 104]⟩) (V.mk (2) (r.ln) (⟨#[]⟩) ([]) ([]))]) ++ [Mb.mk (⟨#[99, 117, 115, 116, 111, 109]⟩) (y22_9)])).ns).length) cn29_13c), (.slice ci29_13a (((objM (([Mb.mk (⟨#[104, 97, 115, 104, 101, 115]⟩) (hshO r.hs), Mb.mk (⟨#[108, 101, 110, 103, 116, 104]⟩) (V.mk (2) (r.ln) (⟨#[]⟩) ([]) ([]))]) ++ [Mb.mk (⟨#[99, 117, 115, 116, 111, 109]⟩) (y22_9)])).xs).length) ci29_13c)] 33 := own_b2_2
   replace own_b1_2 := own_store own_b1_2 hs ne_b2_2_b1_2.symm
   replace own_b4_13 := own_store own_b4_13 hs ne_b2_2_b4_13.symm
   replace D_cn29_13 := sf_store D_cn29_13 hs (by simp)
   replace D_ci29_13 := sf_store D_ci29_13 hs (by simp)
   replace kw := keeps_store kw hs lo_b2_2
   clear hs
   refine tail_nil (hK16 _ _ ?_)
   refine wp_ret ?_
   refine (show bodyPost Try.prog Try.f132 _ .ret _ _ from retC (v := (.agg #[(.int .u8 ((objM (([Mb.mk (⟨#[104, 97, 115, 104, 101, 115]⟩) (hshO r.hs), Mb.mk (⟨#[108, 101, 110, 103, 116, 104]⟩) (V.mk (2) (r.ln) (⟨#[]⟩) ([]) ([]))]) ++ [Mb.mk (⟨#[99, 117, 115, 116, 111, 109]⟩) (y22_9)])).k)), (.int .i64 ((objM (([Mb.mk (⟨#[104, 97, 115, 104, 101, 115]⟩) (hshO r.hs), Mb.mk (⟨#[108, 101, 110, 103, 116, 104]⟩) (V.mk (2) (r.ln) (⟨#[]⟩) ([]) ([]))]) ++ [Mb.mk (⟨#[99, 117, 115, 116, 111, 109]⟩) (y22_9)])).n)), (.string ((objM (([Mb.mk (⟨#[104, 97, 115, 104, 101, 115]⟩) (hshO r.hs), Mb.mk (⟨#[108, 101, 110, 103, 116, 104]⟩) (V.mk (2) (r.ln) (⟨#[]⟩) ([]) ([]))]) ++ [Mb.mk (⟨#[99, 117, 115, 116, 111, 109]⟩) (y22_9)])).t)), (.slice cn29_13a (((objM (([Mb.mk (⟨#[104, 97, 115, 104, 101, 115]⟩) (hshO r.hs), Mb.mk (⟨#[108, 101, 110, 103, 116, 104]⟩) (V.mk (2) (r.ln) (⟨#[]⟩) ([]) ([]))]) ++ [Mb.mk (⟨#[99, 117, 115, 116, 111, 109]⟩) (y22_9)])).ns).length) cn29_13c), (.slice ci29_13a (((objM (([Mb.mk (⟨#[104, 97, 115, 104, 101, 115]⟩) (hshO r.hs), Mb.mk (⟨#[108, 101, 110, 103, 116, 104]⟩) (V.mk (2) (r.ln) (⟨#[]⟩) ([]) ([]))]) ++ [Mb.mk (⟨#[99, 117, 115, 116, 111, 109]⟩) (y22_9)])).xs).length) ci29_13c)])) rfl zz17 e2 own_b2_2 agg33 sz33 rfl (fun h => by cases h) rfl ⟨_, rfl, kw, ?_⟩)
   refine ⟨y22_9, hcp_y22_9, ?_⟩
   rw [show recO (r.withCu y22_9) = (objM (([Mb.mk (⟨#[104, 97, 115, 104, 101, 115]⟩) (hshO r.hs), Mb.mk (⟨#[108, 101, 110, 103, 116, 104]⟩) (V.mk (2) (r.ln) (⟨#[]⟩) ([]) ([]))]) ++ [Mb.mk (⟨#[99, 117, 115, 116, 111, 109]⟩) (y22_9)])) by rw [recO, hrl]; rfl]
   exact sf_fr (rdV_in (x := (objM (([Mb.mk (⟨#[104, 97, 115, 104, 101, 115]⟩) (hshO r.hs), Mb.mk (⟨#[108, 101, 110, 103, 116, 104]⟩) (V.mk (2) (r.ln) (⟨#[]⟩) ([]) ([]))]) ++ [Mb.mk (⟨#[99, 117, 115, 116, 111, 109]⟩) (y22_9)]))) ht_v29_13 D_cn29_13 D_ci29_13 : Rd W18 (SF w [b4_13, b2_2, b1_2]) (V.d ((objM (([Mb.mk (⟨#[104, 97, 115, 104, 101, 115]⟩) (hshO r.hs), Mb.mk (⟨#[108, 101, 110, 103, 116, 104]⟩) (V.mk (2) (r.ln) (⟨#[]⟩) ([]) ([]))]) ++ [Mb.mk (⟨#[99, 117, 115, 116, 111, 109]⟩) (y22_9)])))) _)
  ·
   have hno : noneB r.cu = true := by simpa using hc
   have D_v14_4 : Rd W8 (SF w [b2_2, b1_2]) (mbsD ([Mb.mk (⟨#[104, 97, 115, 104, 101, 115]⟩) (hshO r.hs), Mb.mk (⟨#[108, 101, 110, 103, 116, 104]⟩) (V.mk (2) (r.ln) (⟨#[]⟩) ([]) ([]))])) (.slice v14_4a v14_4n v14_4c) := arrF_rd A_14_4 (ls_skipA (ls_keep (ls_keep ls_nil))) (nin_cons nb_b2_2_4 (nin_cons nb_b1_2_4 nin_nil))
   obtain ⟨xa, xc, ev, D2⟩ := rdMbs_out D_v14_4
   injection ev with h1 h2 h3; subst h1 h2 h3; replace D_v14_4 := D2; clear D2
   replace D_p0_1 := sa_less (M' := [b2_2, b1_2]) D_p0_1 (ls_skipA (ls_keep (ls_keep ls_nil)))
   replace D_p0_5 := sa_less (M' := [b2_2, b1_2]) D_p0_5 (ls_skipA (ls_keep (ls_keep ls_nil)))
   replace D_p0_6 := sa_less (M' := [b2_2, b1_2]) D_p0_6 (ls_skipA (ls_keep (ls_keep ls_nil)))
   refine wp_skip (hK6 _ _ ?_)
   refine wp_seq_k fun K19 hK19 => ?_
   have hrl : recL (r.withCu r.cu) = [Mb.mk sHashes (hshO r.hs), Mb.mk sLength (numVv r.ln)] := by rw [recL, if_pos (show noneB (r.withCu r.cu).cu = true from hno)]; rfl
   have hobk := recL_ok (r := r.withCu r.cu) hmh (Nat.le_trans (Cp.wt (Cp.refl _)) (Nat.le_trans hcu (by decide)))
   refine rg mixed y8 zz8 ?_
   refine .i (sp_move (hbs rfl e3)) ?_
   refine .op (φ := IsT (IsD (Fr W8) (V.d (objM ([Mb.mk (⟨#[104, 97, 115, 104, 101, 115]⟩) (hshO r.hs), Mb.mk (⟨#[108, 101, 110, 103, 116, 104]⟩) (V.mk (2) (r.ln) (⟨#[]⟩) ([]) ([]))])))) (Is (.int .i64 (objE ([Mb.mk (⟨#[104, 97, 115, 104, 101, 115]⟩) (hshO r.hs), Mb.mk (⟨#[108, 101, 110, 103, 116, 104]⟩) (V.mk (2) (r.ln) (⟨#[]⟩) ([]) ([]))]))))) (st_t (st_d sub_all) (st_is _)) (sp_call1 (φ1 := IsD (SF w [b2_2, b1_2]) (mbsD ([Mb.mk (⟨#[104, 97, 115, 104, 101, 115]⟩) (hshO r.hs), Mb.mk (⟨#[108, 101, 110, 103, 116, 104]⟩) (V.mk (2) (r.ln) (⟨#[]⟩) ([]) ([]))]))) ent38 ((hlc rfl).dat D_v14_4 sub_all) (fun g u1 W hk hgk h1 => (ObjectOf_ok ([Mb.mk (⟨#[104, 97, 115, 104, 101, 115]⟩) (hshO r.hs), Mb.mk (⟨#[108, 101, 110, 103, 116, 104]⟩) (V.mk (2) (r.ln) (⟨#[]⟩) ([]) ([]))]) (by have h := hobk.1; rw [hrl] at h; exact h) (by have h := hobk.2.1; rw [hrl] at h; exact h) (by have h := hobk.2.2; rw [hrl] at h; exact h) W _ _ (fun b o h => h.1.2.1) h1).mono (fun _ _ ⟨v, h1, h2, r1, h3, h4⟩ => ⟨v, h1, h2, r1, _, h3, fresh_d hk hgk h4, rfl⟩))) ?_
   refine .op (φ := _) (st_t (st_d sub_all) (st_is _)) (sp_move (hlc rfl)) ?_
   refine .da (X := Fr W8) (e := V.d (objM ([Mb.mk (⟨#[104, 97, 115, 104, 101, 115]⟩) (hshO r.hs), Mb.mk (⟨#[108, 101, 110, 103, 116, 104]⟩) (V.mk (2) (r.ln) (⟨#[]⟩) ([]) ([]))]))) (sp_ext2 (hlc rfl) rfl) ?_
   refine .i (v := (.int .i64 (objE ([Mb.mk (⟨#[104, 97, 115, 104, 101, 115]⟩) (hshO r.hs), Mb.mk (⟨#[108, 101, 110, 103, 116, 104]⟩) (V.mk (2) (r.ln) (⟨#[]⟩) ([]) ([]))])))) (sp_ext2' (hlc rfl) rfl) ?_
   refine .alloc z33 ?_
   refine .done ⟨by kernel_rfl, fun a20 g W20 y20 zz20 hk hg hV hR hP => ?_⟩
   obtain ⟨⟨b4_20, e4, hb4, own_b4_20⟩, e30, e29, -, -, -, -⟩ := hV
   have lo_b4_20 : w.heap.size ≤ b4_20 := Nat.le_trans kw.size (hg.lo _ _ hb4)
   have ne_b2_2_b4_20 : b2_2 ≠ b4_20 := Nat.ne_of_lt (Nat.lt_of_lt_of_le own_b2_2.lt (hg.lo _ _ hb4))
   have ne_b1_2_b4_20 : b1_2 ≠ b4_20 := Nat.ne_of_lt (Nat.lt_of_lt_of_le own_b1_2.lt (hg.lo _ _ hb4))
   have own_b4_20 : Own W20 b4_20 [(.int .u8 (0)), (.int .i64 (0)), (.string (⟨#[]⟩)), (.slice none 0 0), (.slice none 0 0)] 33 := own_b4_20
   replace e2 := (hR 2 rfl).trans e2
   replace D_p0_1 := sa_more D_p0_1 hk [b4_20] (in_cons (hg.lo _ _ hb4) in_nil)
   replace D_p0_5 := sa_more D_p0_5 hk [b4_20] (in_cons (hg.lo _ _ hb4) in_nil)
   replace D_p0_6 := sa_more D_p0_6 hk [b4_20] (in_cons (hg.lo _ _ hb4) in_nil)
   replace D_v14_4 := sf_more D_v14_4 hk [b4_20] (in_cons (hg.lo _ _ hb4) in_nil)
   obtain ⟨v29_20, ev⟩ : ∃ v, sl a20 29 = v := ⟨_, rfl⟩
   rw [ev] at e29
   have D_v29_20 : Rd W20 (SF w [b4_20, b2_2, b1_2]) (V.d (objM ([Mb.mk (⟨#[104, 97, 115, 104, 101, 115]⟩) (hshO r.hs), Mb.mk (⟨#[108, 101, 110, 103, 116, 104]⟩) (V.mk (2) (r.ln) (⟨#[]⟩) ([]) ([]))]))) v29_20 := fr_end (M := [b2_2, b1_2]) e29 kw [b4_20] (in_cons ⟨_, hb4⟩ in_nil) (in_cons own_b2_2.lt (in_cons own_b1_2.lt in_nil))
   replace e29 := ev; clear ev
   obtain ⟨cn29_20a, cn29_20c, ci29_20a, ci29_20c, ev, ht_v29_20, D_cn29_20, D_ci29_20⟩ := rdV_out D_v29_20
   subst ev; clear D_v29_20
   replace e30 := e30.q
   replace own_b2_2 := own_b2_2.ext hk
   replace own_b1_2 := own_b1_2.ext hk
   replace kw := kw.x hk
   clear hR hk hg hP hb4
   refine tail_store (b := b4_20) (o := 0) (v := (.agg #[(.int .u8 ((objM ([Mb.mk (⟨#[104, 97, 115, 104, 101, 115]⟩) (hshO r.hs), Mb.mk (⟨#[108, 101, 110, 103, 116, 104]⟩) (V.mk (2) (r.ln) (⟨#[]⟩) ([]) ([]))])).k)), (.int .i64 ((objM ([Mb.mk (⟨#[104, 97, 115, 104, 101, 115]⟩) (hshO r.hs), Mb.mk (⟨#[108, 101, 110, 103, 116, 104]⟩) (V.mk (2) (r.ln) (⟨#[]⟩) ([]) ([]))])).n)), (.string ((objM ([Mb.mk (⟨#[104, 97, 115, 104, 101, 115]⟩) (hshO r.hs), Mb.mk (⟨#[108, 101, 110, 103, 116, 104]⟩) (V.mk (2) (r.ln) (⟨#[]⟩) ([]) ([]))])).t)), (.slice cn29_20a (((objM ([Mb.mk (⟨#[104, 97, 115, 104, 101, 115]⟩) (hshO r.hs), Mb.mk (⟨#[108, 101, 110, 103, 116, 104]⟩) (V.mk (2) (r.ln) (⟨#[]⟩) ([]) ([]))])).ns).length) cn29_20c), (.slice ci29_20a (((objM ([Mb.mk (⟨#[104, 97, 115, 104, 101, 115]⟩) (hshO r.hs), Mb.mk (⟨#[108, 101, 110, 103, 116, 104]⟩) (V.mk (2) (r.ln) (⟨#[]⟩) ([]) ([]))])).xs).length) ci29_20c)])) e4 e29 sz33 rfl own_b4_20 (lbr rfl) (all_cons rfl (all_cons rfl (all_cons rfl (all_cons rfl (all_cons rfl all_nil))))) (fun W21 hs own_b4_20 => ?_)
   have own_b4_20 : Own W21 b4_20 [(.int .u8 ((objM ([Mb.mk (⟨#[104, 97, 115, 104, 101, 115]⟩) (hshO r.hs), Mb.mk (⟨#[108, 101, 110, 103, 116, 104]⟩) (V.mk (2) (r.ln) (⟨#[]⟩) ([]) ([]))])).k)), (.int .i64 ((objM ([Mb.mk (⟨#[104, 97, 115, 104, 101, 115]⟩) (hshO r.hs), Mb.mk (⟨#[108, 101, 110, 103, 116, 104]⟩) (V.mk (2) (r.ln) (⟨#[]⟩) ([]) ([]))])).n)), (.string ((objM ([Mb.mk (⟨#[104, 97, 115, 104, 101, 115]⟩) (hshO r.hs), Mb.mk (⟨#[108, 101, 110, 103, 116, 104]⟩) (V.mk (2) (r.ln) (⟨#[]⟩) ([]) ([]))])).t)), (.slice cn29_20a (((objM ([Mb.mk (⟨#[104, 97, 115, 104, 101, 115]⟩) (hshO r.hs), Mb.mk (⟨#[108, 101, 110, 103, 116, 104]⟩) (V.mk (2) (r.ln) (⟨#[]⟩) ([]) ([]))])).ns).length) cn29_20c), (.slice ci29_20a (((objM ([Mb.mk (⟨#[104, 97, 115, 104, 101, 115]⟩) (hshO r.hs), Mb.mk (⟨#[108, 101, 110, 103, 116, 104]⟩) (V.mk (2) (r.ln) (⟨#[]⟩) ([]) ([]))])).xs).length) ci29_20c)] 33 := own_b4_20
   replace own_b2_2 := own_store own_b2_2 hs ne_b2_2_b4_20
   replace own_b1_2 := own_store own_b1_2 hs ne_b1_2_b4_20
   replace D_p0_1 := sa_store D_p0_1 hs (by simp)
   replace D_p0_5 := sa_store D_p0_5 hs (by simp)
   replace D_p0_6 := sa_store D_p0_6 hs (by simp)
   replace D_v14_4 := sf_store D_v14_4 hs (by simp)
   replace D_cn29_20 := sf_store D_cn29_20 hs (by simp)
   replace D_ci29_20 := sf_store D_ci29_20 hs (by simp)
   replace kw := keeps_store kw hs lo_b4_20
   clear hs
   refine tail_assign (v := (.int .i64 (objE ([Mb.mk (⟨#[104, 97, 115, 104, 101, 115]⟩) (hshO r.hs), Mb.mk (⟨#[108, 101, 110, 103, 116, 104]⟩) (V.mk (2) (r.ln) (⟨#[]⟩) ([]) ([]))])))) e30 (by rw [y20]; exact Nat.le_of_ble_eq_true rfl) (fun a22 y22 zz22 e5 hr => ?_)
   replace y22 := y22.trans y20; replace zz22 := zz22.trans zz20
   replace e2 := (hr 2 (by decide)).trans e2
   replace e4 := (hr 4 (by decide)).trans e4
   replace e29 := (hr 29 (by decide)).trans e29
   replace e30 := (hr 30 (by decide)).trans e30
   clear hr
   refine tail_nil (hK19 _ _ ?_)
   refine wp_seq_k fun K23 hK23 => ?_
   refine rg mixed y22 zz22 ?_
   refine .i (v := (.agg #[(.int .u8 ((objM ([Mb.mk (⟨#[104, 97, 115, 104, 101, 115]⟩) (hshO r.hs), Mb.mk (⟨#[108, 101, 110, 103, 116, 104]⟩) (V.mk (2) (r.ln) (⟨#[]⟩) ([]) ([]))])).k)), (.int .i64 ((objM ([Mb.mk (⟨#[104, 97, 115, 104, 101, 115]⟩) (hshO r.hs), Mb.mk (⟨#[108, 101, 110, 103, 116, 104]⟩) (V.mk (2) (r.ln) (⟨#[]⟩) ([]) ([]))])).n)), (.string ((objM ([Mb.mk (⟨#[104, 97, 115, 104, 101, 115]⟩) (hshO r.hs), Mb.mk (⟨#[108, 101, 110, 103, 116, 104]⟩) (V.mk (2) (r.ln) (⟨#[]⟩) ([]) ([]))])).t)), (.slice cn29_20a (((objM ([Mb.mk (⟨#[104, 97, 115, 104, 101, 115]⟩) (hshO r.hs), Mb.mk (⟨#[108, 101, 110, 103, 116, 104]⟩) (V.mk (2) (r.ln) (⟨#[]⟩) ([]) ([]))])).ns).length) cn29_20c), (.slice ci29_20a (((objM ([Mb.mk (⟨#[104, 97, 115, 104, 101, 115]⟩) (hshO r.hs), Mb.mk (⟨#[108, 101, 110, 103, 116, 104]⟩) (V.mk (2) (r.ln) (⟨#[]⟩) ([]) ([]))])).xs).length) ci29_20c)])) (loA (hbs rfl e4) own_b4_20 trivial agg33 sz33 rfl rfl) ?_
   refine .done ⟨by kernel_rfl, fun a24 g W24 y24 zz24 hk hg hV hR hP => ?_⟩
   obtain ⟨e31, -⟩ := hV
   replace e2 := (hR 2 rfl).trans e2
   replace D_cn29_20 := D_cn29_20.ext hk
   replace D_ci29_20 := D_ci29_20.ext hk
   replace e31 := e31.q
   replace own_b2_2 := own_b2_2.ext hk
   replace own_b1_2 := own_b1_2.ext hk
   replace own_b4_20 := own_b4_20.ext hk
   replace kw := kw.x hk
   clear hR hk hg hP
   refine tail_store (b := b2_2) (o := 0) (v := (.agg #[(.int .u8 ((objM ([Mb.mk (⟨#[104, 97, 115, 104, 101, 115]⟩) (hshO r.hs), Mb.mk (⟨#[108, 101, 110, 103, 116, 104]⟩) (V.mk (2) (r.ln) (⟨#[]⟩) ([]) ([]))])).k)), (.int .i64 ((objM ([Mb.mk (⟨#[104, 97, 115, 104, 101, 115]⟩) (hshO r.hs), Mb.mk (⟨#[108, 101, 110, 103, 116, 104]⟩) (V.mk (2) (r.ln) (⟨#[]⟩) ([]) ([]))])).n)), (.string ((objM ([Mb.mk (⟨#[104, 97, 115, 104, 101, 115]⟩) (hshO r.hs), Mb.mk (⟨#[108, 101, 110, 103, 116, 104]⟩) (V.mk (2) (r.ln) (⟨#[]⟩) ([]) ([]))])).t)), (.slice cn29_20a (((objM ([Mb.mk (⟨#[104, 97, 115, 104, 101, 115]⟩) (hshO r.hs), Mb.mk (⟨#[108, 101, 110, 103, 116, 104]⟩) (V.mk (2) (r.ln) (⟨#[]⟩) ([]) ([]))])).ns).length) cn29_20c), (.slice ci29_20a (((objM ([Mb.mk (⟨#[104, 97, 115, 104, 101, 115]⟩) (hshO r.hs), Mb.mk (⟨#[108, 101, 110, 103, 116, 104]⟩) (V.mk (2) (r.ln) (⟨#[]⟩) ([]) ([]))])).xs).length) ci29_20c)])) e2 e31 sz33 rfl own_b2_2 (lbr rfl) (all_cons rfl (all_cons rfl (all_cons rfl (all_cons rfl (all_cons rfl all_nil))))) (fun W25 hs own_b2_2 => ?_)
   have own_b2_2 : Own W25 b2_2 [(.int .u8 ((objM ([Mb.mk (⟨#[104, 97, 115, 104, 101, 115]⟩) (hshO r.hs), Mb.mk (⟨#[108, 101, 110, 103, 116, 104]⟩) (V.mk (2) (r.ln) (⟨#[]⟩) ([]) ([]))])).k)), (.int .i64 ((objM ([Mb.mk (⟨#[104, 97, 115, 104, 101, 115]⟩) (hshO r.hs), Mb.mk (⟨#[108, 101, 110, 103, 116, 104]⟩) (V.mk (2) (r.ln) (⟨#[]⟩) ([]) ([]))])).n)), (.string ((objM ([Mb.mk (⟨#[104, 97, 115, 104, 101, 115]⟩) (hshO r.hs), Mb.mk (⟨#[108, 101, 110, 103, 116, 104]⟩) (V.mk (2) (r.ln) (⟨#[]⟩) ([]) ([]))])).t)), (.slice cn29_20a (((objM ([Mb.mk (⟨#[104, 97, 115, 104, 101, 115]⟩) (hshO r.hs), Mb.mk (⟨#[108, 101, 110, 103, 116, 104]⟩) (V.mk (2) (r.ln) (⟨#[]⟩) ([]) ([]))])).ns).length) cn29_20c), (.slice ci29_20a (((objM ([Mb.mk (⟨#[104, 97, 115, 104, 101, 115]⟩) (hshO r.hs), Mb.mk (⟨#[108, 101, 110, 103, 116, 104]⟩) (V.mk (2) (r.ln) (⟨#[]⟩) ([]) ([]))])).xs).length) ci29_20c)] 33 := own_b2_2
   replace own_b1_2 := own_store own_b1_2 hs ne_b2_2_b1_2.symm
   replace own_b4_20 := own_store own_b4_20 hs ne_b2_2_b4_20.symm
   replace D_cn29_20 := sf_store D_cn29_20 hs (by simp)
   replace D_ci29_20 := sf_store D_ci29_20 hs (by simp)
   replace kw := keeps_store kw hs lo_b2_2
   clear hs
   refine tail_nil (hK23 _ _ ?_)
   refine wp_ret ?_
   refine (show bodyPost Try.prog Try.f132 _ .ret _ _ from retC (v := (.agg #[(.int .u8 ((objM ([Mb.mk (⟨#[104, 97, 115, 104, 101, 115]⟩) (hshO r.hs), Mb.mk (⟨#[108, 101, 110, 103, 116, 104]⟩) (V.mk (2) (r.ln) (⟨#[]⟩) ([]) ([]))])).k)), (.int .i64 ((objM ([Mb.mk (⟨#[104, 97, 115, 104, 101, 115]⟩) (hshO r.hs), Mb.mk (⟨#[108, 101, 110, 103, 116, 104]⟩) (V.mk (2) (r.ln) (⟨#[]⟩) ([]) ([]))])).n)), (.string ((objM ([Mb.mk (⟨#[104, 97, 115, 104, 101, 115]⟩) (hshO r.hs), Mb.mk (⟨#[108, 101, 110, 103, 116, 104]⟩) (V.mk (2) (r.ln) (⟨#[]⟩) ([]) ([]))])).t)), (.slice cn29_20a (((objM ([Mb.mk (⟨#[104, 97, 115, 104, 101, 115]⟩) (hshO r.hs), Mb.mk (⟨#[108, 101, 110, 103, 116, 104]⟩) (V.mk (2) (r.ln) (⟨#[]⟩) ([]) ([]))])).ns).length) cn29_20c), (.slice ci29_20a (((objM ([Mb.mk (⟨#[104, 97, 115, 104, 101, 115]⟩) (hshO r.hs), Mb.mk (⟨#[108, 101, 110, 103, 116, 104]⟩) (V.mk (2) (r.ln) (⟨#[]⟩) ([]) ([]))])).xs).length) ci29_20c)])) rfl zz24 e2 own_b2_2 agg33 sz33 rfl (fun h => by cases h) rfl ⟨_, rfl, kw, ?_⟩)
   refine ⟨r.cu, (Cp.refl _), ?_⟩
   rw [show recO (r.withCu r.cu) = (objM ([Mb.mk (⟨#[104, 97, 115, 104, 101, 115]⟩) (hshO r.hs), Mb.mk (⟨#[108, 101, 110, 103, 116, 104]⟩) (V.mk (2) (r.ln) (⟨#[]⟩) ([]) ([]))])) by rw [recO, hrl]; rfl]
   exact sf_fr (rdV_in (x := (objM ([Mb.mk (⟨#[104, 97, 115, 104, 101, 115]⟩) (hshO r.hs), Mb.mk (⟨#[108, 101, 110, 103, 116, 104]⟩) (V.mk (2) (r.ln) (⟨#[]⟩) ([]) ([]))]))) ht_v29_20 D_cn29_20 D_ci29_20 : Rd W25 (SF w [b4_20, b2_2, b1_2]) (V.d ((objM ([Mb.mk (⟨#[104, 97, 115, 104, 101, 115]⟩) (hshO r.hs), Mb.mk (⟨#[108, 101, 110, 103, 116, 104]⟩) (V.mk (2) (r.ln) (⟨#[]⟩) ([]) ([]))])))) _)
set_option maxRecDepth 100000 in
theorem MayRP_ok (u : World) (r : Rc) (hcu : r.cu.wt ≤ 1000000000) (w : World) (S : BSet) (v : Value) (hu : u.heap.size ≤ w.heap.size) (hP : Pin u S) (hav : AVr u v) (hv : Rd w S r.d v) : Calls Try.prog 70 #[v] w (Ret w fun q _ => ∃ b, q = .bool b) := by
  obtain ⟨p0_1a, p0_1c, p0_5a, p0_5c, p0_6a, p0_6c, ev, hb_p0_4, D_p0_1, D_p0_5, D_p0_6⟩ := rdRc_out (rd_arg hv)
  subst ev
  refine enter Try.func70 rfl Try.ntmps70 (lbr rfl) fun a0 y0 zz0 harg => ?_
  have e0 : sl a0 0 = (.agg #[(.int .i64 (r.ln)), (.slice p0_1a (r.hs.length) p0_1c), (.int .u8 (r.cu.k)), (.int .i64 (r.cu.n)), (.string (r.cu.t)), (.slice p0_5a (r.cu.ns.length) p0_5c), (.slice p0_6a (r.cu.xs.length) p0_6c)]) := harg 0 (lbr rfl)
  have kw := Keeps.refl All w
  clear harg
  refine wp_seq_k fun K1 hK1 => ?_
  refine rg mixed y0 zz0 ?_
  refine .boxOp (v := (.agg #[(.int .i64 (r.ln)), (.slice p0_1a (r.hs.length) p0_1c), (.int .u8 (r.cu.k)), (.int .i64 (r.cu.n)), (.string (r.cu.t)), (.slice p0_5a (r.cu.ns.length) p0_5c), (.slice p0_6a (r.cu.xs.length) p0_6c)])) (hbs rfl e0) ?_
  refine .i (sp_assign Has.cst) ?_
  refine .done ⟨by kernel_rfl, fun a2 g W2 y2 zz2 hk hg hV hR hP => ?_⟩
  obtain ⟨-, ⟨b1_2, e1, hb1, own_b1_2⟩, -⟩ := hV
  have lo_b1_2 : w.heap.size ≤ b1_2 := Nat.le_trans kw.size (hg.lo _ _ hb1)
  have own_b1_2 : Own W2 b1_2 [(.int .i64 (r.ln)), (.slice p0_1a (r.hs.length) p0_1c), (.int .u8 (r.cu.k)), (.int .i64 (r.cu.n)), (.string (r.cu.t)), (.slice p0_5a (r.cu.ns.length) p0_5c), (.slice p0_6a (r.cu.xs.length) p0_6c)] 87 := own_b1_2
  replace D_p0_1 := sa_more D_p0_1 hk [b1_2] (in_cons (hg.lo _ _ hb1) in_nil)
  replace D_p0_5 := sa_more D_p0_5 hk [b1_2] (in_cons (hg.lo _ _ hb1) in_nil)
  replace D_p0_6 := sa_more D_p0_6 hk [b1_2] (in_cons (hg.lo _ _ hb1) in_nil)
  replace kw := kw.x hk
  clear hR hk hg hP hb1
  refine tail_nil (hK1 _ _ ?_)
  refine wp_seq_k fun K3 hK3 => ?_
  refine wp_seq_k fun K4 hK4 => ?_
  refine rg mixed y2 zz2 ?_
  refine .i (fo 0 (hbs rfl e1) Try.underlying87 rfl sz2 rfl) ?_
  refine .i (lo1 (hlc rfl) own_b1_2 trivial agg2 sz2 rfl) ?_
  refine .i (sp_lss (hlc rfl) Has.cst) ?_
  refine .i (sp_move (hlc rfl)) ?_
  refine .e (t := 6) rfl (hlc rfl) (fun hg => fo 0 (hbs rfl e1) Try.underlying87 rfl sz2 rfl) ?_
  refine .e (t := 6) rfl (hlc rfl) (fun hg => lo1 ((hlc rfl).undE hg) own_b1_2 trivial agg2 sz2 rfl) ?_
  refine .e (t := 6) rfl (hlc rfl) (fun hg => sp_gtr ((hlc rfl).undE hg) Has.cst) ?_
  refine .i (sp_or (hlc rfl) ((hlc rfl).weak fun hq => hq)) ?_
  refine .i (sp_move (hlc rfl)) ?_
  refine .e (t := 11) rfl (hlc rfl) (fun hg => fo 1 (hbs rfl e1) Try.underlying87 rfl sz85 rfl) ?_
  refine .e (t := 11) rfl (hlc rfl) (fun hg => lo1 ((hlc rfl).undE hg) own_b1_2 trivial agg85 sz85 rfl) ?_
  refine .e (t := 11) (v := (.bool (mayH r.hs))) rfl (hlc rfl) (fun hg => sp_call1 (φ1 := IsD (SA w S [b1_2]) (hssD (r.hs))) ent69 (((hlc rfl).undE hg).dat D_p0_1 sub_all) (fun g u1 W hk hgk h1 => MayHashes_ok (r.hs) W _ _ h1)) ?_
  refine .e (t := 11) rfl (hlc rfl) (fun hg => sp_not ((hlc rfl).undE hg)) ?_
  refine .i (sp_or (hlc rfl) ((hlc rfl).weak fun hq => hq)) ?_
  refine .done ⟨by kernel_rfl, fun a5 g W5 y5 zz5 hk hg hV hR hP => ?_⟩
  obtain ⟨e16, -, -, -, -, -, -, -, -, -, -, -, -, -, -⟩ := hV
  replace e1 := (hR 1 rfl).trans e1
  replace D_p0_1 := D_p0_1.ext hk
  replace D_p0_5 := D_p0_5.ext hk
  replace D_p0_6 := D_p0_6.ext hk
  replace e16 := e16.q
  replace own_b1_2 := own_b1_2.ext hk
  replace kw := kw.x hk
  clear hR hk hg hP
  refine tail_nil (hK4 _ _ ?_)
  refine wp_cond_split e16 (fun hc => ?_) (fun hc => ?_)
  ·
   refine wp_seq_k fun K6 hK6 => ?_
   refine rg mixed y5 zz5 ?_
   refine .i (sp_assign Has.cst) ?_
   refine .done ⟨by kernel_rfl, fun a7 g W7 y7 zz7 hk hg hV hR hP => ?_⟩
   obtain ⟨e2, -⟩ := hV
   replace D_p0_1 := D_p0_1.ext hk
   replace D_p0_5 := D_p0_5.ext hk
   replace D_p0_6 := D_p0_6.ext hk
   have e2 : sl a7 2 = (.bool (false)) := e2
   replace own_b1_2 := own_b1_2.ext hk
   replace kw := kw.x hk
   clear hR hk hg hP
   refine tail_nil (hK6 _ _ ?_)
   refine wp_ret ?_
   refine (show bodyPost Try.prog Try.f70 _ .ret _ _ from ret1 rfl zz7 e2 ⟨_, rfl, kw, ?_⟩)
   exact ⟨_, rfl⟩
  ·
   have hmh : mayH r.hs = true := by simp at hc; exact hc.2
   refine wp_skip (hK3 _ _ ?_)
   refine wp_seq_k fun K8 hK8 => ?_
   refine wp_seq_k fun K9 hK9 => ?_
   refine rg mixed y5 zz5 ?_
   refine .i (fo 2 (hbs rfl e1) Try.underlying87 rfl sz33 rfl) ?_
   refine .i (v := (.agg #[(.int .u8 (r.cu.k)), (.int .i64 (r.cu.n)), (.string (r.cu.t)), (.slice p0_5a (r.cu.ns.length) p0_5c), (.slice p0_6a (r.cu.xs.length) p0_6c)])) (loA (hlc rfl) own_b1_2 trivial agg33 sz33 rfl rfl) ?_
   refine .i (v := (.bool (noneB (r.cu)))) (sp_call1 (φ1 := IsD (SA w S [b1_2]) (V.d (r.cu))) ent131 ((hlc rfl).dat (rdV_in (x := r.cu) hb_p0_4 D_p0_5 D_p0_6 : Rd W5 (SA w S [b1_2]) (V.d (r.cu)) _) sub_all) (fun g u1 W hk hgk h1 => none_ok (r.cu) W _ _ h1)) ?_
   refine .i (sp_not (hlc rfl)) ?_
   refine .i (sp_move (hlc rfl)) ?_
   refine .e (t := 21) rfl (hlc rfl) (fun hg => fo 2 (hbs rfl e1) Try.underlying87 rfl sz33 rfl) ?_
   refine .e (t := 21) (v := (.agg #[(.int .u8 (r.cu.k)), (.int .i64 (r.cu.n)), (.string (r.cu.t)), (.slice p0_5a (r.cu.ns.length) p0_5c), (.slice p0_6a (r.cu.xs.length) p0_6c)])) rfl (hlc rfl) (fun hg => loA ((hlc rfl).undE hg) own_b1_2 trivial agg33 sz33 rfl rfl) ?_
   refine .e (t := 21) (v := (.bool (mayB (r.cu)))) rfl (hlc rfl) (fun hg => sp_call1 (φ1 := IsD (SA w S [b1_2]) (V.d (r.cu))) ent76 (((hlc rfl).undE hg).dat (rdV_in (x := r.cu) hb_p0_4 D_p0_5 D_p0_6 : Rd W5 (SA w S [b1_2]) (V.d (r.cu)) _) sub_all) (fun g u1 W hk hgk h1 => May_ok (r.cu) (Nat.le_trans (cnt_wt _) (Nat.le_trans hcu (by decide))) W _ _ h1)) ?_
   refine .e (t := 21) rfl (hlc rfl) (fun hg => sp_not ((hlc rfl).undE hg)) ?_
   refine .i (sp_and (hlc rfl) ((hlc rfl).weak fun hq => hq)) ?_
   refine .done ⟨by kernel_rfl, fun a10 g W10 y10 zz10 hk hg hV hR hP => ?_⟩
   obtain ⟨e26, -, -, -, -, -, -, -, -, -, -⟩ := hV
   replace e1 := (hR 1 rfl).trans e1
   replace D_p0_1 := D_p0_1.ext hk
   replace D_p0_5 := D_p0_5.ext hk
   replace D_p0_6 := D_p0_6.ext hk
   replace e26 := e26.q
   replace own_b1_2 := own_b1_2.ext hk
   replace kw := kw.x hk
   clear hR hk hg hP
   refine tail_nil (hK9 _ _ ?_)
   refine wp_cond_split e26 (fun hc => ?_) (fun hc => ?_)
   ·
    refine wp_seq_k fun K11 hK11 => ?_
    refine rg mixed y10 zz10 ?_
    refine .i (sp_assign Has.cst) ?_
    refine .done ⟨by kernel_rfl, fun a12 g W12 y12 zz12 hk hg hV hR hP => ?_⟩
    obtain ⟨e2, -⟩ := hV
    replace D_p0_1 := D_p0_1.ext hk
    replace D_p0_5 := D_p0_5.ext hk
    replace D_p0_6 := D_p0_6.ext hk
    have e2 : sl a12 2 = (.bool (false)) := e2
    replace own_b1_2 := own_b1_2.ext hk
    replace kw := kw.x hk
    clear hR hk hg hP
    refine tail_nil (hK11 _ _ ?_)
    refine wp_ret ?_
    refine (show bodyPost Try.prog Try.f70 _ .ret _ _ from ret1 rfl zz12 e2 ⟨_, rfl, kw, ?_⟩)
    exact ⟨_, rfl⟩
   ·
    refine wp_skip (hK8 _ _ ?_)
    refine wp_seq_k fun K13 hK13 => ?_
    refine rg mixed y10 zz10 ?_
    refine .i (v := (.agg #[(.int .i64 (r.ln)), (.slice p0_1a (r.hs.length) p0_1c), (.int .u8 (r.cu.k)), (.int .i64 (r.cu.n)), (.string (r.cu.t)), (.slice p0_5a (r.cu.ns.length) p0_5c), (.slice p0_6a (r.cu.xs.length) p0_6c)])) (loA (hbs rfl e1) own_b1_2 trivial agg87 sz87 rfl rfl) ?_
    refine .op (φ := IsEx (r.cu) (fun yy => IsD (Fr W10) (V.d (recO (r.withCu yy))))) (st_ex1 fun yy => (st_d sub_all)) (sp_call1 (φ1 := Is (.agg #[(.int .i64 (r.ln)), (.slice p0_1a (r.hs.length) p0_1c), (.int .u8 (r.cu.k)), (.int .i64 (r.cu.n)), (.string (r.cu.t)), (.slice p0_5a (r.cu.ns.length) p0_5c), (.slice p0_6a (r.cu.xs.length) p0_6c)])) ent132 (hlc rfl) (fun g u1 W hk hgk h1 => by have h1 : u1 = _ := h1; subst u1; exact (object21P_ok u (r) hmh hcu W _ _ (Nat.le_trans hu (Nat.le_trans kw.size hk.size)) (pin_sa hP hu) hav ((rdRc_mk D_p0_1 (rdV_in (x := r.cu) hb_p0_4 D_p0_5 D_p0_6 : Rd W10 (SA w S [b1_2]) (V.d (r.cu)) _) : Rd W10 (SA w S [b1_2]) (Rc.d (r)) _).ext hk)).mono (fun _ _ ⟨v, h1, h2, y, h3, h4⟩ => ⟨v, h1, h2, y, h3, fresh_d hk hgk h4⟩))) ?_
    refine .done ⟨by kernel_rfl, fun a14 g W14 y14 zz14 hk hg hV hR hP => ?_⟩
    obtain ⟨e28, -, -⟩ := hV
    obtain ⟨y28_14, hcp_y28_14, e28⟩ := e28
    replace D_p0_1 := D_p0_1.ext hk
    replace D_p0_5 := D_p0_5.ext hk
    replace D_p0_6 := D_p0_6.ext hk
    obtain ⟨v28_14, ev⟩ : ∃ v, sl a14 28 = v := ⟨_, rfl⟩
    rw [ev] at e28
    have D_v28_14 : Rd W14 (SF w [b1_2]) (V.d (recO (r.withCu y28_14))) v28_14 := fr_end (M := [b1_2]) e28 kw [] in_nil (in_cons own_b1_2.lt in_nil)
    replace e28 := ev; clear ev
    obtain ⟨cn28_14a, cn28_14c, ci28_14a, ci28_14c, ev, ht_v28_14, D_cn28_14, D_ci28_14⟩ := rdV_out D_v28_14
    subst ev; clear D_v28_14
    replace own_b1_2 := own_b1_2.ext hk
    replace kw := kw.x hk
    clear hR hk hg hP
    refine tail_reg 2 All y14 zz14 st_tr trivial rfl ?_
    refine .i (v := (.bool (mayB ((recO (r.withCu y28_14)))))) (sp_call1 (φ1 := IsD (SF w [b1_2]) (V.d ((recO (r.withCu y28_14))))) ent76 ((hbs rfl e28).dat (rdV_in (x := (recO (r.withCu y28_14))) ht_v28_14 D_cn28_14 D_ci28_14 : Rd W14 (SF w [b1_2]) (V.d ((recO (r.withCu y28_14)))) _) sub_all) (fun g u1 W hk hgk h1 => May_ok ((recO (r.withCu y28_14))) (Nat.le_trans (cnt_wt _) (recO_wt (r := r.withCu y28_14) hmh (Nat.le_trans (Cp.wt hcp_y28_14) hcu))) W _ _ h1)) ?_
    refine .i (sp_assign (hlc rfl)) ?_
    refine .done ⟨by kernel_rfl, fun a15 g W15 y15 zz15 hk hg hV hR hP => ?_⟩
    refine tail_nil ?_
    show runTail _ _ _ _ _ _
    obtain ⟨e2, -, -⟩ := hV
    replace D_cn28_14 := D_cn28_14.ext hk
    replace D_ci28_14 := D_ci28_14.ext hk
    replace e2 := e2.q
    replace own_b1_2 := own_b1_2.ext hk
    replace kw := kw.x hk
    clear hR hk hg hP
    refine tail_nil (hK13 _ _ ?_)
    refine wp_ret ?_
    refine (show bodyPost Try.prog Try.f70 _ .ret _ _ from ret1 rfl zz15 e2 ⟨_, rfl, kw, ?_⟩)
    exact ⟨_, rfl⟩
set_option maxRecDepth 100000 in
theorem CopyRP_ok (u : World) (r : Rc) (hcu : r.cu.wt ≤ 1073741824) (hn : r.hs.length ≤ 1073741824) (w : World) (S : BSet) (v : Value) (hu : u.heap.size ≤ w.heap.size) (hP : Pin u S) (hav : AVr u v) (hv : Rd w S r.d v) : Calls Try.prog 117 #[v] w (Ret w fun q W => ∃ y, Cp r.cu y ∧ Rd W (Fr w) (Rc.d (r.withCu y)) q) := by
  have hx := hcu
  obtain ⟨p0_1a, p0_1c, p0_5a, p0_5c, p0_6a, p0_6c, ev, hb_p0_4, D_p0_1, D_p0_5, D_p0_6⟩ := rdRc_out (rd_arg hv)
  subst ev
  refine enter Try.func117 rfl Try.ntmps117 (lbr rfl) fun a0 y0 zz0 harg => ?_
  have e0 : sl a0 0 = (.agg #[(.int .i64 (r.ln)), (.slice p0_1a (r.hs.length) p0_1c), (.int .u8 (r.cu.k)), (.int .i64 (r.cu.n)), (.string (r.cu.t)), (.slice p0_5a (r.cu.ns.length) p0_5c), (.slice p0_6a (r.cu.xs.length) p0_6c)]) := harg 0 (lbr rfl)
  have kw := Keeps.refl All w
  clear harg
  refine wp_seq_k fun K1 hK1 => ?_
  refine rg mixed y0 zz0 ?_
  refine .boxOp (v := (.agg #[(.int .i64 (r.ln)), (.slice p0_1a (r.hs.length) p0_1c), (.int .u8 (r.cu.k)), (.int .i64 (r.cu.n)), (.string (r.cu.t)), (.slice p0_5a (r.cu.ns.length) p0_5c), (.slice p0_6a (r.cu.xs.length) p0_6c)])) (hbs rfl e0) ?_
  refine .alloc z87 ?_
  refine .done ⟨by kernel_rfl, fun a2 g W2 y2 zz2 hk hg hV hR hP => ?_⟩
  obtain ⟨⟨b2_2, e2, hb2, own_b2_2⟩, ⟨b1_2, e1, hb1, own_b1_2⟩, -⟩ := hV
  have lo_b2_2 : w.heap.size ≤ b2_2 := Nat.le_trans kw.size (hg.lo _ _ hb2)
  have own_b2_2 : Own W2 b2_2 [(.int .i64 (0)), (.slice none 0 0), (.int .u8 (0)), (.int .i64 (0)), (.string (⟨#[]⟩)), (.slice none 0 0), (.slice none 0 0)] 87 := own_b2_2
  have lo_b1_2 : w.heap.size ≤ b1_2 := Nat.le_trans kw.size (hg.lo _ _ hb1)
  have own_b1_2 : Own W2 b1_2 [(.int .i64 (r.ln)), (.slice p0_1a (r.hs.length) p0_1c), (.int .u8 (r.cu.k)), (.int .i64 (r.cu.n)), (.string (r.cu.t)), (.slice p0_5a (r.cu.ns.length) p0_5c), (.slice p0_6a (r.cu.xs.length) p0_6c)] 87 := own_b1_2
  have ne_b2_2_b1_2 : b2_2 ≠ b1_2 := fun h => by have := hg.inj _ _ _ hb2 (h ▸ hb1); cases this
  replace D_p0_1 := sa_more D_p0_1 hk [b2_2, b1_2] (in_cons (hg.lo _ _ hb2) (in_cons (hg.lo _ _ hb1) in_nil))
  replace D_p0_5 := sa_more D_p0_5 hk [b2_2, b1_2] (in_cons (hg.lo _ _ hb2) (in_cons (hg.lo _ _ hb1) in_nil))
  replace D_p0_6 := sa_more D_p0_6 hk [b2_2, b1_2] (in_cons (hg.lo _ _ hb2) (in_cons (hg.lo _ _ hb1) in_nil))
  replace kw := kw.x hk
  clear hR hk hg hP hb2 hb1
  refine tail_nil (hK1 _ _ ?_)
  refine wp_seq_k fun K3 hK3 => ?_
  refine rg mixed y2 zz2 ?_
  refine .i (fo 0 (hbs rfl e1) Try.underlying87 rfl sz2 rfl) ?_
  refine .i (lo1 (hlc rfl) own_b1_2 trivial agg2 sz2 rfl) ?_
  refine .i (fo 1 (hbs rfl e1) Try.underlying87 rfl sz85 rfl) ?_
  refine .i (lo1 (hlc rfl) own_b1_2 trivial agg85 sz85 rfl) ?_
  refine .da (X := Fr W2) (e := hssD (r.hs)) (sp_call1 (φ1 := IsD (SA w S [b2_2, b1_2]) (hssD (r.hs))) ent147 ((hlc rfl).dat D_p0_1 sub_all) (fun g u1 W hk hgk h1 => (cloneH_ok (r.hs) hn W _ _ h1).mono (ret_fr hk hgk))) ?_
  refine .i (fo 2 (hbs rfl e1) Try.underlying87 rfl sz33 rfl) ?_
  refine .i (v := (.agg #[(.int .u8 (r.cu.k)), (.int .i64 (r.cu.n)), (.string (r.cu.t)), (.slice p0_5a (r.cu.ns.length) p0_5c), (.slice p0_6a (r.cu.xs.length) p0_6c)])) (loA (hlc rfl) own_b1_2 trivial agg33 sz33 rfl rfl) ?_
  refine .op (φ := IsEx (r.cu) (fun yy => IsD (Fr W2) (V.d (yy)))) (st_ex1 fun yy => (st_d sub_all)) (sp_call1 (φ1 := Is (.agg #[(.int .u8 (r.cu.k)), (.int .i64 (r.cu.n)), (.string (r.cu.t)), (.slice p0_5a (r.cu.ns.length) p0_5c), (.slice p0_6a (r.cu.xs.length) p0_6c)])) ent79 (hlc rfl) (fun g u1 W hk hgk h1 => by have h1 : u1 = _ := h1; subst u1; exact (CopyP_ok u (r.cu) (by first | omega | exact hx) W _ _ (Nat.le_trans hu (Nat.le_trans kw.size hk.size)) (pin_sa hP hu) (avr_cu hav) ((rdV_in (x := r.cu) hb_p0_4 D_p0_5 D_p0_6 : Rd W2 (SA w S [b2_2, b1_2]) (V.d (r.cu)) _).ext hk)).mono (fun _ _ ⟨v, h1, h2, y, h3, h4⟩ => ⟨v, h1, h2, y, h3, fresh_d hk hgk h4⟩))) ?_
  refine .op (φ := IsEx (r.cu) (fun yy => IsD (Fr W2) (Rc.d (Rc.mk (r.ln) (r.hs) (yy))))) (st_ex1 fun yy => (st_d sub_all)) (spec_ex (t := 10) (φ := fun yy => IsD (Fr W2) (V.d (yy))) (ψ := fun yy => IsD (Fr W2) (Rc.d (Rc.mk (r.ln) (r.hs) (yy)))) rfl (look_in (by simp [Op.operands])) (fun yy hyy => sp_buildD (zd := [D.int .i64 0, hssD [], V.d V.zero]) (es := [(0, D.int .i64 (r.ln)), (1, hssD (r.hs)), (2, V.d (yy))]) Try.underlying87 z87 (pl87 Try.underlying87) ⟨rfl, (hlc rfl).int, ⟨rfl, (hlc rfl), ⟨rfl, (hlc rfl), trivial⟩⟩⟩ zRc (by first | rfl | simp [plOf, width, width_V, hssD]) (by simp [fits, width, strsD, valsD, hssD, width_V]) rfl)) ?_
  refine .done ⟨by kernel_rfl, fun a4 g W4 y4 zz4 hk hg hV hR hP => ?_⟩
  obtain ⟨e11, -, -, -, -, -, -, -, -, -⟩ := hV
  replace e2 := (hR 2 rfl).trans e2
  obtain ⟨y11_4, hcp_y11_4, e11⟩ := e11
  replace D_p0_1 := D_p0_1.ext hk
  replace D_p0_5 := D_p0_5.ext hk
  replace D_p0_6 := D_p0_6.ext hk
  obtain ⟨v11_4, ev⟩ : ∃ v, sl a4 11 = v := ⟨_, rfl⟩
  rw [ev] at e11
  have D_v11_4 : Rd W4 (SF w [b2_2, b1_2]) (Rc.d (Rc.mk (r.ln) (r.hs) (y11_4))) v11_4 := fr_end (M := [b2_2, b1_2]) e11 kw [] in_nil (in_cons own_b2_2.lt (in_cons own_b1_2.lt in_nil))
  replace e11 := ev; clear ev
  obtain ⟨v11_4_1a, v11_4_1c, v11_4_5a, v11_4_5c, v11_4_6a, v11_4_6c, ev, hb_v11_4_4, D_v11_4_1, D_v11_4_5, D_v11_4_6⟩ := rdRc_out D_v11_4
  subst ev; clear D_v11_4
  replace own_b2_2 := own_b2_2.ext hk
  replace own_b1_2 := own_b1_2.ext hk
  replace kw := kw.x hk
  clear hR hk hg hP
  refine tail_store (b := b2_2) (o := 0) (v := (.agg #[(.int .i64 ((Rc.mk (r.ln) (r.hs) (y11_4)).ln)), (.slice v11_4_1a (((Rc.mk (r.ln) (r.hs) (y11_4)).hs).length) v11_4_1c), (.int .u8 ((Rc.mk (r.ln) (r.hs) (y11_4)).cu.k)), (.int .i64 ((Rc.mk (r.ln) (r.hs) (y11_4)).cu.n)), (.string ((Rc.mk (r.ln) (r.hs) (y11_4)).cu.t)), (.slice v11_4_5a (((Rc.mk (r.ln) (r.hs) (y11_4)).cu.ns).length) v11_4_5c), (.slice v11_4_6a (((Rc.mk (r.ln) (r.hs) (y11_4)).cu.xs).length) v11_4_6c)])) e2 e11 sz87 rfl own_b2_2 (lbr rfl) (all_cons rfl (all_cons rfl (all_cons rfl (all_cons rfl (all_cons rfl (all_cons rfl (all_cons rfl all_nil))))))) (fun W5 hs own_b2_2 => ?_)
  have own_b2_2 : Own W5 b2_2 [(.int .i64 ((Rc.mk (r.ln) (r.hs) (y11_4)).ln)), (.slice v11_4_1a (((Rc.mk (r.ln) (r.hs) (y11_4)).hs).length) v11_4_1c), (.int .u8 ((Rc.mk (r.ln) (r.hs) (y11_4)).cu.k)), (.int .i64 ((Rc.mk (r.ln) (r.hs) (y11_4)).cu.n)), (.string ((Rc.mk (r.ln) (r.hs) (y11_4)).cu.t)), (.slice v11_4_5a (((Rc.mk (r.ln) (r.hs) (y11_4)).cu.ns).length) v11_4_5c), (.slice v11_4_6a (((Rc.mk (r.ln) (r.hs) (y11_4)).cu.xs).length) v11_4_6c)] 87 := own_b2_2
  replace own_b1_2 := own_store own_b1_2 hs ne_b2_2_b1_2.symm
  replace D_p0_1 := sa_store D_p0_1 hs (by simp)
  replace D_p0_5 := sa_store D_p0_5 hs (by simp)
  replace D_p0_6 := sa_store D_p0_6 hs (by simp)
  replace D_v11_4_1 := sf_store D_v11_4_1 hs (by simp)
  replace D_v11_4_5 := sf_store D_v11_4_5 hs (by simp)
  replace D_v11_4_6 := sf_store D_v11_4_6 hs (by simp)
  replace kw := keeps_store kw hs lo_b2_2
  clear hs
  refine tail_nil (hK3 _ _ ?_)
  refine wp_ret ?_
  refine (show bodyPost Try.prog Try.f117 _ .ret _ _ from retC (v := (.agg #[(.int .i64 ((Rc.mk (r.ln) (r.hs) (y11_4)).ln)), (.slice v11_4_1a (((Rc.mk (r.ln) (r.hs) (y11_4)).hs).length) v11_4_1c), (.int .u8 ((Rc.mk (r.ln) (r.hs) (y11_4)).cu.k)), (.int .i64 ((Rc.mk (r.ln) (r.hs) (y11_4)).cu.n)), (.string ((Rc.mk (r.ln) (r.hs) (y11_4)).cu.t)), (.slice v11_4_5a (((Rc.mk (r.ln) (r.hs) (y11_4)).cu.ns).length) v11_4_5c), (.slice v11_4_6a (((Rc.mk (r.ln) (r.hs) (y11_4)).cu.xs).length) v11_4_6c)])) rfl zz4 e2 own_b2_2 agg87 sz87 rfl (fun h => by cases h) rfl ⟨_, rfl, kw, ?_⟩)
  exact ⟨y11_4, hcp_y11_4, sf_fr (show Rd _ _ (Rc.d (r.withCu y11_4)) _ from (rdRc_mk D_v11_4_1 (rdV_in (x := (Rc.mk (r.ln) (r.hs) (y11_4)).cu) hb_v11_4_4 D_v11_4_5 D_v11_4_6 : Rd W5 (SF w [b2_2, b1_2]) (V.d ((Rc.mk (r.ln) (r.hs) (y11_4)).cu)) _) : Rd W5 (SF w [b2_2, b1_2]) (Rc.d ((Rc.mk (r.ln) (r.hs) (y11_4)))) _))⟩
end Go.Proofs.Ytnobijngkpflcaa
namespace Go.Proofs.Ytnobijngkpflcaa
open Go.Eng
set_option maxRecDepth 100000 in
set_option maxHeartbeats 1000000 in
theorem AddP_ok (u : World) (want : Int) (L : List Vo) (w : World) (S G : BSet) (lo : Nat) (vv : Value) (hd : Option Nat) (bb : Nat) (own_bb : Own w bb [.int .i64 want, vv] 104) (A_ar : Arr w lo 156 8 (SA w G (bb :: (blks hd ++ []))) (L.map Vo.d) vv hd) (nb : bb ∉ blks hd) (hlo : lo ≤ w.heap.size) (hG : ∀ b o, G b o → Cln o) (hw : 0 < want) (hL : ∀ x ∈ L, x.r.cu.wt ≤ 1073741824) (repo : ByteArray) (hrp : repo.size ≤ maxLen) (r : Rc) (hcu : r.cu.wt ≤ 1000000000) (hn : r.hs.length ≤ 1073741824) (hu : u.heap.size ≤ w.heap.size) (hP : Pin u S) (hM : ∀ b ∈ bb :: (blks hd ++ []), ∀ o, ¬ S b o) (v : Value) (hav : AVr u v) (hr : Rd w S r.d v) : Calls Try.prog 55 #[.pointer (some ⟨bb, 0, none⟩), .string repo, v] w (RetL w (bb :: (blks hd ++ [])) fun q W => ∃ n e L2, q = .tuple #[.int .i64 n, .int .i64 e] ∧ AddO L repo r e L2 ∧ BoxV 104 156 W lo (SA w G) bb want L2 hd w.heap.size) := by
  have hmx : L.length ≤ maxLen := rdVos_len (arr_rdC A_ar (sa_cln hG))
  simp only [maxLen] at hmx
  obtain ⟨p2_1a, p2_1c, p2_5a, p2_5c, p2_6a, p2_6c, ev, hb_p2_4, D_p2_1, D_p2_5, D_p2_6⟩ := rdRc_out (rd_argM (M := (bb :: (blks hd ++ []))) hr hM)
  subst ev
  obtain ⟨vva, vvc, ev, D_vv⟩ := rdVos_out (rd_cw (arr_rdC A_ar (sa_cln hG)))
  subst ev
  refine enter Try.func55 rfl Try.ntmps55 (lbr rfl) fun a0 y0 zz0 harg => ?_
  have e0 : sl a0 0 = (.pointer (some ⟨bb, 0, none⟩)) := harg 0 (lbr rfl)
  have e1 : sl a0 1 = (.string (repo)) := harg 1 (lbr rfl)
  have e2 : sl a0 2 = (.agg #[(.int .i64 (r.ln)), (.slice p2_1a (r.hs.length) p2_1c), (.int .u8 (r.cu.k)), (.int .i64 (r.cu.n)), (.string (r.cu.t)), (.slice p2_5a (r.cu.ns.length) p2_5c), (.slice p2_6a (r.cu.xs.length) p2_6c)]) := harg 2 (lbr rfl)
  have kw := Keeps.refl (fun k => k ∉ (bb :: (blks hd ++ []))) w
  clear harg
  refine wp_seq_k fun K1 hK1 => ?_
  refine rg mixed y0 zz0 ?_
  refine .boxOp (v := (.agg #[(.int .i64 (r.ln)), (.slice p2_1a (r.hs.length) p2_1c), (.int .u8 (r.cu.k)), (.int .i64 (r.cu.n)), (.string (r.cu.t)), (.slice p2_5a (r.cu.ns.length) p2_5c), (.slice p2_6a (r.cu.xs.length) p2_6c)])) (hbs rfl e2) ?_
  refine .i (sp_assign Has.cst) ?_
  refine .i (sp_assign Has.cst) ?_
  refine .done ⟨by kernel_rfl, fun a2 g W2 y2 zz2 hk hg hV hR hP => ?_⟩
  obtain ⟨-, -, ⟨b5_2, e5, hb5, own_b5_2⟩, -⟩ := hV
  have lo_b5_2 : w.heap.size ≤ b5_2 := Nat.le_trans kw.size (hg.lo _ _ hb5)
  have ne_bb_b5_2 : bb ≠ b5_2 := Nat.ne_of_lt (Nat.lt_of_lt_of_le own_bb.lt (hg.lo _ _ hb5))
  have own_b5_2 : Own W2 b5_2 [(.int .i64 (r.ln)), (.slice p2_1a (r.hs.length) p2_1c), (.int .u8 (r.cu.k)), (.int .i64 (r.cu.n)), (.string (r.cu.t)), (.slice p2_5a (r.cu.ns.length) p2_5c), (.slice p2_6a (r.cu.xs.length) p2_6c)] 87 := own_b5_2
  replace e0 := (hR 0 rfl).trans e0
  replace e1 := (hR 1 rfl).trans e1
  have nb_b5_2_ar : b5_2 ∉ blks hd := nb_lt A_ar.lt (hg.lo _ _ hb5)
  replace A_ar : Arr W2 lo 156 8 (SA w G (b5_2 :: (bb :: (blks hd ++ [])))) (List.map Vo.d (L)) (.slice vva L.length vvc) hd := arrA_more A_ar hk [b5_2] (in_cons (hg.lo _ _ hb5) in_nil)
  replace D_p2_1 : Rd W2 (SA w S (b5_2 :: (bb :: (blks hd ++ [])))) (hssD (r.hs)) (.slice p2_1a (r.hs.length) p2_1c) := sa_more D_p2_1 hk [b5_2] (in_cons (hg.lo _ _ hb5) in_nil)
  replace D_p2_5 : Rd W2 (SA w S (b5_2 :: (bb :: (blks hd ++ [])))) (strsD (r.cu.ns)) (.slice p2_5a (r.cu.ns.length) p2_5c) := sa_more D_p2_5 hk [b5_2] (in_cons (hg.lo _ _ hb5) in_nil)
  replace D_p2_6 : Rd W2 (SA w S (b5_2 :: (bb :: (blks hd ++ [])))) (valsD (r.cu.xs)) (.slice p2_6a (r.cu.xs.length) p2_6c) := sa_more D_p2_6 hk [b5_2] (in_cons (hg.lo _ _ hb5) in_nil)
  replace D_vv : Rd W2 (CW w.heap.size) (vosD (L)) (.slice vva (L.length) vvc) := sc_more D_vv hk [b5_2] (in_cons (hg.lo _ _ hb5) in_nil)
  replace own_bb := own_bb.ext hk
  replace kw := kw.x hk
  clear hR hk hg hP hb5
  refine tail_nil (hK1 _ _ ?_)
  refine wp_seq_k fun K3 hK3 => ?_
  refine wp_seq_k fun K4 hK4 => ?_
  refine rg mixed y2 zz2 ?_
  refine .i (sp_move (hbs rfl e0)) ?_
  refine .i (v := (.bool (decide (0 < want)))) (sp_call1 (φ1 := Is (.pointer (some ⟨bb, 0, none⟩))) ent115 (hlc rfl) (fun g u1 W hk hgk h1 => by have h1 : u1 = _ := h1; subst u1; exact made_ok (want) W _ _ (own_bb.ext hk))) ?_
  refine .i (sp_not (hlc rfl)) ?_
  refine .done ⟨by kernel_rfl, fun a5 g W5 y5 zz5 hk hg hV hR hP => ?_⟩
  obtain ⟨e12, -, -, -⟩ := hV
  replace e0 := (hR 0 rfl).trans e0
  replace e1 := (hR 1 rfl).trans e1
  replace e5 := (hR 5 rfl).trans e5
  replace A_ar := A_ar.ext hk
  replace D_p2_1 := D_p2_1.ext hk
  replace D_p2_5 := D_p2_5.ext hk
  replace D_p2_6 := D_p2_6.ext hk
  replace D_vv := D_vv.ext hk
  have e12 : sl a5 12 = (.bool (!(decide (0 < want)))) := e12
  replace own_bb := own_bb.ext hk
  replace own_b5_2 := own_b5_2.ext hk
  replace kw := kw.x hk
  clear hR hk hg hP
  refine tail_nil (hK4 _ _ ?_)
  refine wp_cond_split e12 (fun hc => ?_) (fun hc => ?_)
  ·
   exfalso
   simp [hw] at hc
  ·
   refine wp_skip (hK3 _ _ ?_)
   refine wp_seq_k fun K6 hK6 => ?_
   refine wp_seq_k fun K7 hK7 => ?_
   refine rg mixed y5 zz5 ?_
   refine .i (sp_move (hbs rfl e1)) ?_
   refine .i (v := (.bool (roleB repo))) (sp_call1 (φ1 := Is (.string (repo))) ent116 (hlc rfl) (fun g u1 W hk hgk h1 => by have h1 : u1 = _ := h1; subst u1; exact Role_ok (repo) hrp W)) ?_
   refine .i (sp_not (hlc rfl)) ?_
   refine .i (sp_move (hlc rfl)) ?_
   refine .e (t := 16) (v := (.agg #[(.int .i64 (r.ln)), (.slice p2_1a (r.hs.length) p2_1c), (.int .u8 (r.cu.k)), (.int .i64 (r.cu.n)), (.string (r.cu.t)), (.slice p2_5a (r.cu.ns.length) p2_5c), (.slice p2_6a (r.cu.xs.length) p2_6c)])) rfl (hlc rfl) (fun hg => loA (hbs rfl e5) own_b5_2 trivial agg87 sz87 rfl rfl) ?_
   refine .opE (t := 16) (φ := IsUB) rfl (hlc rfl) st_ub (fun hg => sp_call1 (φ1 := Is (.agg #[(.int .i64 (r.ln)), (.slice p2_1a (r.hs.length) p2_1c), (.int .u8 (r.cu.k)), (.int .i64 (r.cu.n)), (.string (r.cu.t)), (.slice p2_5a (r.cu.ns.length) p2_5c), (.slice p2_6a (r.cu.xs.length) p2_6c)])) ent70 ((hlc rfl).undE hg) (fun g u1 W hk hgk h1 => by have h1 : u1 = _ := h1; subst u1; exact MayRP_ok u (r) hcu W _ _ (Nat.le_trans hu (Nat.le_trans kw.size hk.size)) (pin_sa hP hu) hav ((rdRc_mk D_p2_1 (rdV_in (x := r.cu) hb_p2_4 D_p2_5 D_p2_6 : Rd W5 (SA w S (b5_2 :: (bb :: (blks hd ++ [])))) (V.d (r.cu)) _) : Rd W5 (SA w S (b5_2 :: (bb :: (blks hd ++ [])))) (Rc.d (r)) _).ext hk))) ?_
   refine .opE (t := 16) (φ := IsUB) rfl (hlc rfl) st_ub (fun hg => sp_notUB ((hlc rfl).undE hg)) ?_
   refine .op (φ := IsUB) st_ub (sp_orUB (hlc rfl) ((hlc rfl).weak fun hq => hq)) ?_
   refine .done ⟨by kernel_rfl, fun a8 g W8 y8 zz8 hk hg hV hR hP => ?_⟩
   obtain ⟨e20, -, -, -, -, -, -, -, -⟩ := hV
   replace e0 := (hR 0 rfl).trans e0
   replace e1 := (hR 1 rfl).trans e1
   replace e5 := (hR 5 rfl).trans e5
   obtain ⟨r20_8, e20⟩ := e20
   replace A_ar := A_ar.ext hk
   replace D_p2_1 := D_p2_1.ext hk
   replace D_p2_5 := D_p2_5.ext hk
   replace D_p2_6 := D_p2_6.ext hk
   replace D_vv := D_vv.ext hk
   have e20 : sl a8 20 = (.bool (r20_8)) := e20
   replace own_bb := own_bb.ext hk
   replace own_b5_2 := own_b5_2.ext hk
   replace kw := kw.x hk
   clear hR hk hg hP
   refine tail_nil (hK7 _ _ ?_)
   refine wp_cond_split e20 (fun hc => ?_) (fun hc => ?_)
   ·
    refine wp_seq_k fun K9 hK9 => ?_
    refine rg mixed y8 zz8 ?_
    refine .i (sp_assign Has.cst) ?_
    refine .i (sp_assign Has.cst) ?_
    refine .done ⟨by kernel_rfl, fun a10 g W10 y10 zz10 hk hg hV hR hP => ?_⟩
    obtain ⟨e7, e6, -⟩ := hV
    replace A_ar := A_ar.ext hk
    replace D_p2_1 := D_p2_1.ext hk
    replace D_p2_5 := D_p2_5.ext hk
    replace D_p2_6 := D_p2_6.ext hk
    replace D_vv := D_vv.ext hk
    have e6 : sl a10 6 = (.int .i64 (0)) := e6
    have e7 : sl a10 7 = (.int .i64 (3)) := e7
    replace own_bb := own_bb.ext hk
    replace own_b5_2 := own_b5_2.ext hk
    replace kw := kw.x hk
    clear hR hk hg hP
    refine tail_nil (hK9 _ _ ?_)
    refine wp_ret ?_
    refine (show bodyPost Try.prog Try.f55 _ .ret _ _ from ret2 rfl zz10 e6 e7 ⟨_, rfl, kw, ?_⟩)
    exact ⟨_, _, _, rfl, .inl ⟨by decide, rfl⟩, _, _, own_bb, (arrA_less A_ar (ls_skip (ls_keep (ls_keepA ls_nil)))), nb, fun b hb => .inl hb⟩
   ·
    refine wp_skip (hK6 _ _ ?_)
    refine wp_seq_k fun K11 hK11 => ?_
    refine wp_seq_k fun K12 hK12 => ?_
    refine rg mixed y8 zz8 ?_
    refine .i (sp_move (hbs rfl e0)) ?_
    refine .i (sp_nilP (hlc rfl)) ?_
    refine .i (fo 1 (hlc rfl) Try.underlying104 rfl sz102 rfl) ?_
    refine .i (lo1 (hlc rfl) own_bb trivial agg102 sz102 rfl) ?_
    refine .i (sp_lenL Try.underlying102 ((hlc rfl).dat D_vv sub_all)) ?_
    refine .i (sp_move Has.cst) ?_
    refine .done ⟨by kernel_rfl, fun a13 g W13 y13 zz13 hk hg hV hR hP => ?_⟩
    obtain ⟨e26, e25, e24, -, -, -, -⟩ := hV
    replace e0 := (hR 0 rfl).trans e0
    replace e1 := (hR 1 rfl).trans e1
    replace e5 := (hR 5 rfl).trans e5
    replace A_ar := A_ar.ext hk
    replace D_p2_1 := D_p2_1.ext hk
    replace D_p2_5 := D_p2_5.ext hk
    replace D_p2_6 := D_p2_6.ext hk
    replace D_vv := D_vv.ext hk
    have e24 : sl a13 24 = (.slice vva (L.length) vvc) := e24
    have e25 : sl a13 25 = (.int .i64 (L.length)) := e25
    have e26 : sl a13 26 = (.int .i64 (0)) := e26
    replace own_bb := own_bb.ext hk
    replace own_b5_2 := own_b5_2.ext hk
    replace kw := kw.x hk
    clear hR hk hg hP
    refine tail_nil (hK12 _ _ ?_)
    refine wp_block ?_
    refine wp_for (L.length) (fun k a W => a.tmps.size = 60 ∧ a.defers = [] ∧ Keeps (fun k => k ∉ (bb :: (blks hd ++ []))) w W ∧ sl a 0 = (.pointer (some ⟨bb, 0, none⟩)) ∧ sl a 1 = (.string (repo)) ∧ sl a 5 = (.pointer (some ⟨b5_2, 0, none⟩)) ∧ sl a 24 = (.slice vva (L.length) vvc) ∧ sl a 25 = (.int .i64 (L.length)) ∧ sl a 26 = (.int .i64 ((k : Nat))) ∧ Own W bb [(.int .i64 (want)), (.slice vva (L.length) vvc)] 104 ∧ Own W b5_2 [(.int .i64 (r.ln)), (.slice p2_1a (r.hs.length) p2_1c), (.int .u8 (r.cu.k)), (.int .i64 (r.cu.n)), (.string (r.cu.t)), (.slice p2_5a (r.cu.ns.length) p2_5c), (.slice p2_6a (r.cu.xs.length) p2_6c)] 87 ∧ Rd W (SA w S (b5_2 :: (bb :: (blks hd ++ [])))) (hssD (r.hs)) (.slice p2_1a (r.hs.length) p2_1c) ∧ Rd W (SA w S (b5_2 :: (bb :: (blks hd ++ [])))) (strsD (r.cu.ns)) (.slice p2_5a (r.cu.ns.length) p2_5c) ∧ Rd W (SA w S (b5_2 :: (bb :: (blks hd ++ [])))) (valsD (r.cu.xs)) (.slice p2_6a (r.cu.xs.length) p2_6c) ∧ Rd W (CW w.heap.size) (vosD (L)) (.slice vva (L.length) vvc) ∧ Arr W lo 156 8 (SA w G (b5_2 :: (bb :: (blks hd ++ [])))) (List.map Vo.d (L)) (.slice vva L.length vvc) hd ∧ bb ∉ blks hd ∧ b5_2 ∉ blks hd ∧ (∀ i (h : i < L.length), i < k → ¬ (L[i]).repo = repo)) ⟨y13, zz13, kw, e0, e1, e5, e24, e25, (e26.trans (congrArg (Value.int .i64) (rfl))), own_bb, own_b5_2, D_p2_1, D_p2_5, D_p2_6, D_vv, A_ar, nb, nb_b5_2_ar, fun i h hi => absurd hi (by omega)⟩ ?_
    clear kw e0 e1 e5 e24 e25 e26 own_bb own_b5_2 D_p2_1 D_p2_5 D_p2_6 D_vv A_ar
    rintro k a14 W14 hkk ⟨y14, zz14, kw, e0, e1, e5, e24, e25, e26, own_bb, own_b5_2, D_p2_1, D_p2_5, D_p2_6, D_vv, Af_ar_14, nb_bb_ar_14, nb_b5_2_ar_14, hall⟩
    refine wp_seq_k fun K15 hK15 => ?_
    refine rg mixed y14 zz14 ?_
    refine .i (sp_lss (hbs rfl e26) (hbs rfl e25)) ?_
    refine .done ⟨by kernel_rfl, fun a16 g W16 y16 zz16 hk hg hV hR hP => ?_⟩
    obtain ⟨e27, -⟩ := hV
    replace e0 := (hR 0 rfl).trans e0
    replace e1 := (hR 1 rfl).trans e1
    replace e5 := (hR 5 rfl).trans e5
    replace e24 := (hR 24 rfl).trans e24
    replace e25 := (hR 25 rfl).trans e25
    replace e26 := (hR 26 rfl).trans e26
    replace Af_ar_14 := Af_ar_14.ext hk
    replace D_p2_1 := D_p2_1.ext hk
    replace D_p2_5 := D_p2_5.ext hk
    replace D_p2_6 := D_p2_6.ext hk
    replace D_vv := D_vv.ext hk
    replace e27 := e27.q
    replace own_bb := own_bb.ext hk
    replace own_b5_2 := own_b5_2.ext hk
    replace kw := kw.x hk
    clear hR hk hg hP
    refine tail_nil (hK15 _ _ ?_)
    refine wp_seq_k fun K17 hK17 => ?_
    refine wp_cond_split e27 (fun hc => ?_) (fun hc => ?_)
    ·
     have hlt : k < L.length := by simpa using hc
     refine wp_skip (hK17 _ _ ?_)
     refine wp_seq_k fun K18 hK18 => ?_
     refine wp_block ?_
     refine wp_seq_k fun K19 hK19 => ?_
     refine rg mixed y16 zz16 ?_
     refine .rf (X := CW w.heap.size) (e := Vo.d (L[k]'hlt)) (sp_indexL (i := k) ((hbs rfl e24).dat D_vv sub_all) (hbs rfl e26) Try.underlying102 sz156 rfl hlt) ?_
     refine .da (X := CW w.heap.size) (e := Vo.d (L[k]'hlt)) (sp_loadR (hlc rfl) agg156 sz156 (width_Vo _)) ?_
     refine .alloc z156 ?_
     refine .done ⟨by kernel_rfl, fun a20 g W20 y20 zz20 hk hg hV hR hP => ?_⟩
     obtain ⟨⟨b9_20, e9, hb9, own_b9_20⟩, e29, -, -⟩ := hV
     have lo_b9_20 : w.heap.size ≤ b9_20 := Nat.le_trans kw.size (hg.lo _ _ hb9)
     have ne_bb_b9_20 : bb ≠ b9_20 := Nat.ne_of_lt (Nat.lt_of_lt_of_le own_bb.lt (hg.lo _ _ hb9))
     have ne_b5_2_b9_20 : b5_2 ≠ b9_20 := Nat.ne_of_lt (Nat.lt_of_lt_of_le own_b5_2.lt (hg.lo _ _ hb9))
     have own_b9_20 : Own W20 b9_20 [(.int .i64 (0)), (.slice none 0 0), (.int .u8 (0)), (.int .i64 (0)), (.string (⟨#[]⟩)), (.slice none 0 0), (.slice none 0 0), (.string (⟨#[]⟩))] 156 := own_b9_20
     replace e0 := (hR 0 rfl).trans e0
     replace e1 := (hR 1 rfl).trans e1
     replace e5 := (hR 5 rfl).trans e5
     replace e24 := (hR 24 rfl).trans e24
     replace e25 := (hR 25 rfl).trans e25
     replace e26 := (hR 26 rfl).trans e26
     have hMx : ∀ b ∈ (b5_2 :: (bb :: (blks hd ++ []))), b < W16.heap.size := (in_cons own_b5_2.lt (in_cons own_bb.lt (in_app Af_ar_14.lt in_nil)))
     have nb_b9_20_ar : b9_20 ∉ blks hd := nb_lt Af_ar_14.lt (hg.lo _ _ hb9)
     replace Af_ar_14 : Arr W20 lo 156 8 (SA w G (b9_20 :: (b5_2 :: (bb :: (blks hd ++ []))))) (List.map Vo.d (L)) (.slice vva L.length vvc) hd := arrA_more Af_ar_14 hk [b9_20] (in_cons (hg.lo _ _ hb9) in_nil)
     replace D_p2_1 : Rd W20 (SA w S (b9_20 :: (b5_2 :: (bb :: (blks hd ++ []))))) (hssD (r.hs)) (.slice p2_1a (r.hs.length) p2_1c) := sa_more D_p2_1 hk [b9_20] (in_cons (hg.lo _ _ hb9) in_nil)
     replace D_p2_5 : Rd W20 (SA w S (b9_20 :: (b5_2 :: (bb :: (blks hd ++ []))))) (strsD (r.cu.ns)) (.slice p2_5a (r.cu.ns.length) p2_5c) := sa_more D_p2_5 hk [b9_20] (in_cons (hg.lo _ _ hb9) in_nil)
     replace D_p2_6 : Rd W20 (SA w S (b9_20 :: (b5_2 :: (bb :: (blks hd ++ []))))) (valsD (r.cu.xs)) (.slice p2_6a (r.cu.xs.length) p2_6c) := sa_more D_p2_6 hk [b9_20] (in_cons (hg.lo _ _ hb9) in_nil)
     replace D_vv : Rd W20 (CW w.heap.size) (vosD (L)) (.slice vva (L.length) vvc) := sc_more D_vv hk [b9_20] (in_cons (hg.lo _ _ hb9) in_nil)
     obtain ⟨v29_20, ev⟩ : ∃ v, sl a20 29 = v := ⟨_, rfl⟩
     rw [ev] at e29
     have D_v29_20 : Rd W20 (CW w.heap.size) (Vo.d (L[k]'hlt)) v29_20 := sc_end e29 hk [b9_20] (in_cons ⟨_, hb9⟩ in_nil)
     replace e29 := ev; clear ev
     obtain ⟨v29_20_1a, v29_20_1c, v29_20_5a, v29_20_5c, v29_20_6a, v29_20_6c, ev, hb_v29_20_4, hb_v29_20_7, D_v29_20_1, D_v29_20_5, D_v29_20_6⟩ := rdVo_out D_v29_20
     subst ev; clear D_v29_20
     replace own_bb := own_bb.ext hk
     replace own_b5_2 := own_b5_2.ext hk
     replace kw := kw.x hk
     clear hR hk hg hP hb9
     refine tail_store (b := b9_20) (o := 0) (v := (.agg #[(.int .i64 ((L[k]'hlt).r.ln)), (.slice v29_20_1a (((L[k]'hlt).r.hs).length) v29_20_1c), (.int .u8 ((L[k]'hlt).r.cu.k)), (.int .i64 ((L[k]'hlt).r.cu.n)), (.string ((L[k]'hlt).r.cu.t)), (.slice v29_20_5a (((L[k]'hlt).r.cu.ns).length) v29_20_5c), (.slice v29_20_6a (((L[k]'hlt).r.cu.xs).length) v29_20_6c), (.string ((L[k]'hlt).repo))])) e9 e29 sz156 rfl own_b9_20 (lbr rfl) (all_cons rfl (all_cons rfl (all_cons rfl (all_cons rfl (all_cons rfl (all_cons rfl (all_cons rfl (all_cons rfl all_nil)))))))) (fun W21 hs own_b9_20 => ?_)
     have own_b9_20 : Own W21 b9_20 [(.int .i64 ((L[k]'hlt).r.ln)), (.slice v29_20_1a (((L[k]'hlt).r.hs).length) v29_20_1c), (.int .u8 ((L[k]'hlt).r.cu.k)), (.int .i64 ((L[k]'hlt).r.cu.n)), (.string ((L[k]'hlt).r.cu.t)), (.slice v29_20_5a (((L[k]'hlt).r.cu.ns).length) v29_20_5c), (.slice v29_20_6a (((L[k]'hlt).r.cu.xs).length) v29_20_6c), (.string ((L[k]'hlt).repo))] 156 := own_b9_20
     replace own_bb := own_store own_bb hs ne_bb_b9_20
     replace own_b5_2 := own_store own_b5_2 hs ne_b5_2_b9_20
     replace D_p2_1 := sa_store D_p2_1 hs (by simp)
     replace D_p2_5 := sa_store D_p2_5 hs (by simp)
     replace D_p2_6 := sa_store D_p2_6 hs (by simp)
     replace D_vv := sc_store D_vv hs lo_b9_20
     replace D_v29_20_1 := sc_store D_v29_20_1 hs lo_b9_20
     replace D_v29_20_5 := sc_store D_v29_20_5 hs lo_b9_20
     replace D_v29_20_6 := sc_store D_v29_20_6 hs lo_b9_20
     replace Af_ar_14 := arrA_store Af_ar_14 hs (by simp) nb_b9_20_ar
     replace kw := keeps_store kw hs lo_b9_20
     clear hs
     refine tail_nil (hK19 _ _ ?_)
     refine wp_seq_k fun K22 hK22 => ?_
     refine rg mixed y20 zz20 ?_
     refine .i (fo 7 (hbs rfl e9) Try.underlying156 rfl sz9 rfl) ?_
     refine .i (lo1 (hlc rfl) own_b9_20 trivial agg9 sz9 rfl) ?_
     refine .i (sp_move (hbs rfl e1)) ?_
     refine .i (sp_sEql (hlc rfl) (hlc rfl)) ?_
     refine .done ⟨by kernel_rfl, fun a23 g W23 y23 zz23 hk hg hV hR hP => ?_⟩
     obtain ⟨e33, -, -, -, -⟩ := hV
     replace e0 := (hR 0 rfl).trans e0
     replace e1 := (hR 1 rfl).trans e1
     replace e5 := (hR 5 rfl).trans e5
     replace e24 := (hR 24 rfl).trans e24
     replace e25 := (hR 25 rfl).trans e25
     replace e26 := (hR 26 rfl).trans e26
     replace Af_ar_14 := Af_ar_14.ext hk
     replace D_p2_1 := D_p2_1.ext hk
     replace D_p2_5 := D_p2_5.ext hk
     replace D_p2_6 := D_p2_6.ext hk
     replace D_vv := D_vv.ext hk
     replace D_v29_20_1 := D_v29_20_1.ext hk
     replace D_v29_20_5 := D_v29_20_5.ext hk
     replace D_v29_20_6 := D_v29_20_6.ext hk
     replace e33 := e33.q
     replace own_bb := own_bb.ext hk
     replace own_b5_2 := own_b5_2.ext hk
     replace own_b9_20 := own_b9_20.ext hk
     replace kw := kw.x hk
     clear hR hk hg hP
     refine tail_nil (hK22 _ _ ?_)
     refine wp_cond_split e33 (fun hc => ?_) (fun hc => ?_)
     ·
      refine wp_seq_k fun K24 hK24 => ?_
      refine rg mixed y23 zz23 ?_
      refine .i (sp_assign Has.cst) ?_
      refine .i (sp_assign Has.cst) ?_
      refine .done ⟨by kernel_rfl, fun a25 g W25 y25 zz25 hk hg hV hR hP => ?_⟩
      obtain ⟨e7, e6, -⟩ := hV
      replace Af_ar_14 := Af_ar_14.ext hk
      replace D_p2_1 := D_p2_1.ext hk
      replace D_p2_5 := D_p2_5.ext hk
      replace D_p2_6 := D_p2_6.ext hk
      replace D_vv := D_vv.ext hk
      have e6 : sl a25 6 = (.int .i64 (0)) := e6
      have e7 : sl a25 7 = (.int .i64 (7)) := e7
      replace own_bb := own_bb.ext hk
      replace own_b5_2 := own_b5_2.ext hk
      replace own_b9_20 := own_b9_20.ext hk
      replace kw := kw.x hk
      clear hR hk hg hP
      refine tail_nil (hK24 _ _ ?_)
      refine wp_ret ?_
      refine (show bodyPost Try.prog Try.f55 _ .ret _ _ from ret2 rfl zz25 e6 e7 ⟨_, rfl, kw, ?_⟩)
      exact ⟨_, _, _, rfl, .inl ⟨by decide, rfl⟩, _, _, own_bb, (arrA_less Af_ar_14 (ls_skip (ls_skip (ls_keep (ls_keepA ls_nil))))), nb_bb_ar_14, fun b hb => .inl hb⟩
     ·
      have hne : ¬ (L[k]'hlt).repo = repo := by simpa using hc
      refine wp_skip (hK18 _ _ ?_)
      refine rg mixed y23 zz23 ?_
      refine .i (sp_add (hbs rfl e26) Has.cst (i64_in (by omega))) ?_
      refine .i (sp_move (hlc rfl)) ?_
      refine .done ⟨by kernel_rfl, fun a26 g W26 y26 zz26 hk hg hV hR hP => ?_⟩
      obtain ⟨e26, -, -⟩ := hV
      replace e0 := (hR 0 rfl).trans e0
      replace e1 := (hR 1 rfl).trans e1
      replace e5 := (hR 5 rfl).trans e5
      replace e24 := (hR 24 rfl).trans e24
      replace e25 := (hR 25 rfl).trans e25
      replace Af_ar_14 := Af_ar_14.ext hk
      replace D_p2_1 := D_p2_1.ext hk
      replace D_p2_5 := D_p2_5.ext hk
      replace D_p2_6 := D_p2_6.ext hk
      replace D_vv := D_vv.ext hk
      replace e26 := e26.q
      replace own_bb := own_bb.ext hk
      replace own_b5_2 := own_b5_2.ext hk
      replace own_b9_20 := own_b9_20.ext hk
      replace kw := kw.x hk
      clear hR hk hg hP
      exact tail_nil ⟨hlt, y26, zz26, kw, e0, e1, e5, e24, e25, (e26.trans (congrArg (Value.int .i64) (by simp))), own_bb, own_b5_2, (sa_less D_p2_1 (ls_skip (ls_keep (ls_keep (ls_keepA ls_nil))))), (sa_less D_p2_5 (ls_skip (ls_keep (ls_keep (ls_keepA ls_nil))))), (sa_less D_p2_6 (ls_skip (ls_keep (ls_keep (ls_keepA ls_nil))))), D_vv, (arrA_less Af_ar_14 (ls_skip (ls_keep (ls_keep (ls_keepA ls_nil))))), nb_bb_ar_14, nb_b5_2_ar_14, fun i h hi => by rcases Nat.lt_succ_iff_lt_or_eq.1 hi with h1 | h1; exact hall i h h1; subst h1; exact hne⟩
    ·
     have hge0 : ¬ k < L.length := by simpa using hc
     have hge : k = L.length := by omega
     have hnr : ∀ x ∈ L, x.repo ≠ repo := fun x hx => by obtain ⟨i, hi, rfl⟩ := List.getElem_of_mem hx; exact hall i hi (by omega)
     refine wp_exit (hK11 _ _ ?_)
     refine wp_seq_k fun K27 hK27 => ?_
     refine wp_seq_k fun K28 hK28 => ?_
     refine rg mixed y16 zz16 ?_
     refine .i (sp_move (hbs rfl e0)) ?_
     refine .i (sp_nilP (hlc rfl)) ?_
     refine .i (fo 1 (hlc rfl) Try.underlying104 rfl sz102 rfl) ?_
     refine .i (lo1 (hlc rfl) own_bb trivial agg102 sz102 rfl) ?_
     refine .i (sp_lenL Try.underlying102 ((hlc rfl).dat D_vv sub_all)) ?_
     refine .i (sp_geq (hlc rfl) Has.cst) ?_
     refine .done ⟨by kernel_rfl, fun a29 g W29 y29 zz29 hk hg hV hR hP => ?_⟩
     obtain ⟨e40, -, -, -, -, -, -⟩ := hV
     replace e0 := (hR 0 rfl).trans e0
     replace e1 := (hR 1 rfl).trans e1
     replace e5 := (hR 5 rfl).trans e5
     replace Af_ar_14 := Af_ar_14.ext hk
     replace D_p2_1 := D_p2_1.ext hk
     replace D_p2_5 := D_p2_5.ext hk
     replace D_p2_6 := D_p2_6.ext hk
     replace D_vv := D_vv.ext hk
     replace e40 := e40.q
     replace own_bb := own_bb.ext hk
     replace own_b5_2 := own_b5_2.ext hk
     replace kw := kw.x hk
     clear hR hk hg hP
     refine tail_nil (hK28 _ _ ?_)
     refine wp_cond_split e40 (fun hc => ?_) (fun hc => ?_)
     ·
      refine wp_seq_k fun K30 hK30 => ?_
      refine rg mixed y29 zz29 ?_
      refine .i (sp_assign Has.cst) ?_
      refine .i (sp_assign Has.cst) ?_
      refine .done ⟨by kernel_rfl, fun a31 g W31 y31 zz31 hk hg hV hR hP => ?_⟩
      obtain ⟨e7, e6, -⟩ := hV
      replace Af_ar_14 := Af_ar_14.ext hk
      replace D_p2_1 := D_p2_1.ext hk
      replace D_p2_5 := D_p2_5.ext hk
      replace D_p2_6 := D_p2_6.ext hk
      replace D_vv := D_vv.ext hk
      have e6 : sl a31 6 = (.int .i64 (0)) := e6
      have e7 : sl a31 7 = (.int .i64 (5)) := e7
      replace own_bb := own_bb.ext hk
      replace own_b5_2 := own_b5_2.ext hk
      replace kw := kw.x hk
      clear hR hk hg hP
      refine tail_nil (hK30 _ _ ?_)
      refine wp_ret ?_
      refine (show bodyPost Try.prog Try.f55 _ .ret _ _ from ret2 rfl zz31 e6 e7 ⟨_, rfl, kw, ?_⟩)
      exact ⟨_, _, _, rfl, .inl ⟨by decide, rfl⟩, _, _, own_bb, (arrA_less Af_ar_14 (ls_skip (ls_keep (ls_keepA ls_nil)))), nb_bb_ar_14, fun b hb => .inl hb⟩
     ·
      have hlen : L.length < 8 := by have := of_decide_eq_false hc; omega
      refine wp_skip (hK27 _ _ ?_)
      refine wp_seq_k fun K32 hK32 => ?_
      have hws : w.heap.size ≤ W29.heap.size := kw.size
      refine wp_reg (fun k => k ∉ blks hd) (Ψ := fun W => Arr W lo 156 8 (SA w G (b5_2 :: (bb :: (blks hd ++ [])))) (List.map Vo.d (L)) (.slice vva L.length vvc) hd) mixed y29 zz29 (fun W W' k h => h.ext k) Af_ar_14 ?_
      refine .i (sp_move (hbs rfl e0)) ?_
      refine .i (sp_move (hbs rfl e0)) ?_
      refine .i (sp_nilP (hlc rfl)) ?_
      refine .i (fo 1 (hlc rfl) Try.underlying104 rfl sz102 rfl) ?_
      refine .i (lo1 (hlc rfl) own_bb nb_bb_ar_14 agg102 sz102 rfl) ?_
      refine .i (v := (.agg #[(.int .i64 (r.ln)), (.slice p2_1a (r.hs.length) p2_1c), (.int .u8 (r.cu.k)), (.int .i64 (r.cu.n)), (.string (r.cu.t)), (.slice p2_5a (r.cu.ns.length) p2_5c), (.slice p2_6a (r.cu.xs.length) p2_6c)])) (loA (hbs rfl e5) own_b5_2 nb_b5_2_ar_14 agg87 sz87 rfl rfl) ?_
      refine .op (φ := IsEx (r.cu) (fun yy => IsD (Fr W29) (Rc.d (r.withCu yy)))) (st_ex1 fun yy => (st_d (sub_frnb (fun b hb => Af_ar_14.lt b hb)))) (sp_call1 (φ1 := Is (.agg #[(.int .i64 (r.ln)), (.slice p2_1a (r.hs.length) p2_1c), (.int .u8 (r.cu.k)), (.int .i64 (r.cu.n)), (.string (r.cu.t)), (.slice p2_5a (r.cu.ns.length) p2_5c), (.slice p2_6a (r.cu.xs.length) p2_6c)])) ent117 (hlc rfl) (fun g u1 W hk hgk h1 => by have h1 : u1 = _ := h1; subst u1; exact (CopyRP_ok u (r) (Nat.le_trans hcu (by decide)) hn W _ _ (Nat.le_trans hu (Nat.le_trans kw.size hk.size)) (pin_sa hP hu) hav ((rdRc_mk D_p2_1 (rdV_in (x := r.cu) hb_p2_4 D_p2_5 D_p2_6 : Rd W29 (SA w S (b5_2 :: (bb :: (blks hd ++ [])))) (V.d (r.cu)) _) : Rd W29 (SA w S (b5_2 :: (bb :: (blks hd ++ [])))) (Rc.d (r)) _).keeps hk (sub_nb (fun b hb => List.mem_cons_of_mem _ (List.mem_cons_of_mem _ (List.mem_append_left _ hb)))))).mono (fun _ _ ⟨v, h1, h2, y, h3, h4⟩ => ⟨v, h1, h2, y, h3, fresh_d hk hgk h4⟩))) ?_
      refine .i (sp_move (hbs rfl e1)) ?_
      refine .op (φ := IsEx (r.cu) (fun yy => IsD (Fr W29) (Vo.d (Vo.mk (r.withCu yy) (repo))))) (st_ex1 fun yy => (st_d (sub_frnb (fun b hb => Af_ar_14.lt b hb)))) (spec_ex (t := 47) (φ := fun yy => IsD (Fr W29) (Rc.d (r.withCu yy))) (ψ := fun yy => IsD (Fr W29) (Vo.d (Vo.mk (r.withCu yy) (repo)))) rfl (look_in (by simp [Op.operands])) (fun yy hyy => sp_buildD (zd := [Rc.d Rc.zero, D.str ⟨#[]⟩]) (es := [(0, Rc.d (r.withCu yy)), (1, D.str (repo))]) Try.underlying156 z156 (pl156 Try.underlying156) ⟨rfl, (hlc rfl), ⟨rfl, (hlc rfl).str hrp, trivial⟩⟩ zVo (by first | rfl | simp [plOf, width, width_V, hssD]) (by simp [fits, width, strsD, valsD, hssD, width_V, width_Rc]) rfl)) ?_
      refine .op (φ := IsEx (r.cu) (fun yy => IsD (SA w G (b5_2 :: (bb :: (blks hd ++ [])))) (vosD ([Vo.mk (r.withCu yy) (repo)])))) (st_ex1 fun yy => (st_d (sub_nb (fun b hb => List.mem_cons_of_mem _ (List.mem_cons_of_mem _ (List.mem_append_left _ hb)))))) (spec_ex (t := 49) (φ := fun yy => IsD (Fr W29) (Vo.d (Vo.mk (r.withCu yy) (repo)))) (ψ := fun yy => IsD (SA w G (b5_2 :: (bb :: (blks hd ++ [])))) (vosD ([Vo.mk (r.withCu yy) (repo)]))) rfl (look_in (by simp [Op.operands])) (fun yy hyy => sp_bsl (ds := [Vo.d (Vo.mk (r.withCu yy) (repo))]) Try.underlying102 sz156 z156 (lbr rfl) (lbr rfl) ⟨rfl, ((hlc rfl).sup (fr_sa kw (in_cons own_b5_2.lt (in_cons own_bb.lt (in_app Af_ar_14.lt in_nil))))), trivial⟩ rfl (by intro e he; simp at he; rcases he with rfl <;> exact width_Vo _) (fr_sa kw (in_cons own_b5_2.lt (in_cons own_bb.lt (in_app Af_ar_14.lt in_nil)))))) ?_
      refine .appBX (n := 1) (ds := List.map Vo.d (L)) (es := fun yy => [Vo.d (Vo.mk (r.withCu yy) (repo))]) (X := SA w G (b5_2 :: (bb :: (blks hd ++ [])))) Try.underlying102 inf156 (lbr rfl) (hlc rfl) (hlc rfl) (sub_nb (fun b hb => List.mem_cons_of_mem _ (List.mem_cons_of_mem _ (List.mem_append_left _ hb)))) (fun _ => rfl) (by simp [maxLen]; omega) (by simp; omega) (Nat.le_trans hlo kw.size) ?_
      refine .i (sp_nilP (hlc rfl)) ?_
      refine .i (fo 1 (hlc rfl) Try.underlying104 rfl sz102 rfl) ?_
      refine .done ⟨by kernel_rfl, fun a33 g W33 y33 zz33 hk hg hV hR hP => ?_⟩
      obtain ⟨e53, -, e51, -, -, -, -, -, -, -, -, -, -, -⟩ := hV
      replace e0 := (hR 0 rfl).trans e0
      replace e5 := (hR 5 rfl).trans e5
      obtain ⟨y51_33, hcp_y51_33, e51⟩ := e51
      clear D_vv
      obtain ⟨v51_33, ev⟩ : ∃ v, sl a33 51 = v := ⟨_, rfl⟩
      rw [ev] at e51
      obtain ⟨hd51_33, A_51_33, hf51_33⟩ := e51
      have e51 := ev; clear ev
      obtain ⟨v51_33a, v51_33n, v51_33c, ev⟩ := arr_sl A_51_33; subst ev
      replace A_51_33 := arrA_new (M' := (b5_2 :: (bb :: (blks hd51_33 ++ [])))) A_51_33 (rep_cons (rep_cons (rep_app (rep_q fun _ h => h) rep_nil)))
      replace A_51_33 : Arr W33 lo 156 8 (SA w G (b5_2 :: (bb :: (blks hd51_33 ++ [])))) (List.map Vo.d (L ++ [Vo.mk (r.withCu y51_33) (repo)])) (.slice v51_33a v51_33n v51_33c) hd51_33 := by first | exact A_51_33 | (rw [List.map_append]; exact A_51_33)
      have nb_bb_33 : bb ∉ blks hd51_33 := nb_new nb_bb_ar_14 own_bb.lt hf51_33
      have nb_b5_2_33 : b5_2 ∉ blks hd51_33 := nb_new nb_b5_2_ar_14 own_b5_2.lt hf51_33
      replace D_p2_1 := sa_app (M' := (b5_2 :: (bb :: (blks hd51_33 ++ [])))) D_p2_1 hk (fun b hb => List.mem_cons_of_mem _ (List.mem_cons_of_mem _ (List.mem_append_left _ hb))) (rep_cons (rep_cons (rep_app hf51_33 rep_nil)))
      replace D_p2_5 := sa_app (M' := (b5_2 :: (bb :: (blks hd51_33 ++ [])))) D_p2_5 hk (fun b hb => List.mem_cons_of_mem _ (List.mem_cons_of_mem _ (List.mem_append_left _ hb))) (rep_cons (rep_cons (rep_app hf51_33 rep_nil)))
      replace D_p2_6 := sa_app (M' := (b5_2 :: (bb :: (blks hd51_33 ++ [])))) D_p2_6 hk (fun b hb => List.mem_cons_of_mem _ (List.mem_cons_of_mem _ (List.mem_append_left _ hb))) (rep_cons (rep_cons (rep_app hf51_33 rep_nil)))
      replace own_bb := own_app own_bb hk nb_bb_ar_14
      replace own_b5_2 := own_app own_b5_2 hk nb_b5_2_ar_14
      replace kw := keeps_appN kw hk (fun b hb hn => hn (by simp [hb]))
      have e53 : sl a33 53 = (.pointer (some ⟨bb, 1, none⟩)) := e53
      clear hR hk hg hP  Af_ar_14
      refine tail_store (b := bb) (o := 1) (v := (.slice v51_33a v51_33n v51_33c)) e53 e51 sz102 rfl own_bb (lbr rfl) (all_cons rfl all_nil) (fun W34 hs own_bb => ?_)
      have own_bb : Own W34 bb [(.int .i64 (want)), (.slice v51_33a v51_33n v51_33c)] 104 := own_bb
      replace own_b5_2 := own_store own_b5_2 hs ne_bb_b5_2.symm
      replace D_p2_1 := sa_store D_p2_1 hs (by simp)
      replace D_p2_5 := sa_store D_p2_5 hs (by simp)
      replace D_p2_6 := sa_store D_p2_6 hs (by simp)
      replace A_51_33 := arrA_store A_51_33 hs (by simp) nb_bb_33
      replace kw := keeps_storeN kw hs (by simp)
      clear hs
      have D_v51_33 := rd_cw (arr_rdC A_51_33 (sa_cln hG))
      obtain ⟨xa, xc, ev, D2⟩ := rdVos_out D_v51_33
      injection ev with h1 h2 h3; subst h1 h2 h3; replace D_v51_33 := D2; clear D2
      have hlL : (L ++ [Vo.mk (r.withCu y51_33) (repo)]).length ≤ maxLen := rdVos_len D_v51_33
      have hcuL : ∀ x ∈ L ++ [Vo.mk (r.withCu y51_33) (repo)], x.r.cu.wt ≤ 1073741824 := fun x hx => (List.mem_append.1 hx).elim (hL x) (fun h => by simp at h; subst h; exact Nat.le_trans (Cp.wt hcp_y51_33) (Nat.le_trans hcu (by decide)))
      refine tail_nil (hK32 _ _ ?_)
      refine wp_seq_k fun K35 hK35 => ?_
      refine rg mixed y33 zz33 ?_
      refine .i (sp_move (hbs rfl e0)) ?_
      refine .i (sp_nilP (hlc rfl)) ?_
      refine .i (fo 1 (hlc rfl) Try.underlying104 rfl sz102 rfl) ?_
      refine .i (lo1 (hlc rfl) own_bb trivial agg102 sz102 rfl) ?_
      refine .i (v := (.agg #[(.int .i64 (r.ln)), (.slice p2_1a (r.hs.length) p2_1c), (.int .u8 (r.cu.k)), (.int .i64 (r.cu.n)), (.string (r.cu.t)), (.slice p2_5a (r.cu.ns.length) p2_5c), (.slice p2_6a (r.cu.xs.length) p2_6c)])) (loA (hbs rfl e5) own_b5_2 trivial agg87 sz87 rfl rfl) ?_
      refine .op (φ := IsUI) st_ui (sp_call2 (φ1 := IsD (CW W34.heap.size) (vosD (L ++ [Vo.mk (r.withCu y51_33) (repo)]))) (φ2 := Is (.agg #[(.int .i64 (r.ln)), (.slice p2_1a (r.hs.length) p2_1c), (.int .u8 (r.cu.k)), (.int .i64 (r.cu.n)), (.string (r.cu.t)), (.slice p2_5a (r.cu.ns.length) p2_5c), (.slice p2_6a (r.cu.xs.length) p2_6c)])) ent118 ((hlc rfl).dat D_v51_33 sub_all) (hlc rfl) (fun g u1 u2 W hk hgk h1 h2 => by have h2 : u2 = _ := h2; subst u2; exact countP_ok u (L ++ [Vo.mk (r.withCu y51_33) (repo)]) (r) hcuL (Nat.le_trans hcu (by decide)) W _ _ _ _ (Nat.le_trans hu (Nat.le_trans kw.size hk.size)) (fun b o h => h.1.2) (pin_sa hP hu) hav h1 ((rdRc_mk D_p2_1 (rdV_in (x := r.cu) hb_p2_4 D_p2_5 D_p2_6 : Rd W34 (SA w S (b5_2 :: (bb :: (blks hd51_33 ++ [])))) (V.d (r.cu)) _) : Rd W34 (SA w S (b5_2 :: (bb :: (blks hd51_33 ++ [])))) (Rc.d (r)) _).ext hk))) ?_
      refine .op (φ := IsUI) st_ui (sp_assign (hlc rfl)) ?_
      refine .i (sp_assign Has.cst) ?_
      refine .done ⟨by kernel_rfl, fun a36 g W36 y36 zz36 hk hg hV hR hP => ?_⟩
      obtain ⟨e7, e6, -, -, -, -, -, -, -⟩ := hV
      obtain ⟨n6_36, e6⟩ := e6
      replace A_51_33 := A_51_33.ext hk
      replace D_p2_1 := D_p2_1.ext hk
      replace D_p2_5 := D_p2_5.ext hk
      replace D_p2_6 := D_p2_6.ext hk
      replace D_v51_33 := D_v51_33.ext hk
      have e6 : sl a36 6 = (.int .i64 (n6_36)) := e6
      have e7 : sl a36 7 = (.int .i64 (0)) := e7
      replace own_bb := own_bb.ext hk
      replace own_b5_2 := own_b5_2.ext hk
      replace kw := kw.x hk
      clear hR hk hg hP
      refine tail_nil (hK35 _ _ ?_)
      refine wp_ret ?_
      refine (show bodyPost Try.prog Try.f55 _ .ret _ _ from ret2 rfl zz36 e6 e7 ⟨_, rfl, kw, ?_⟩)
      exact ⟨_, _, _, rfl, .inr ⟨rfl, hnr, hlen, y51_33, hcp_y51_33, rfl⟩, _, _, own_bb, (arrA_less A_51_33 (ls_skip (ls_keep (ls_keepA ls_nil)))), nb_bb_33, fun b hb => (hf51_33 b hb).imp id (Nat.le_trans hws)⟩
end Go.Proofs.Ytnobijngkpflcaa
namespace Go.Eng
def AVts (u : World) (v : Value) : Prop := ∀ a len cap, v = .slice (some a) len cap → ∀ i < len, a.block < u.heap.size ∧ ∀ c, u.cell? ⟨a.block, a.off + i * 8 + 7, none⟩ = some c → AV u c
theorem el_told {u w : World} {S : BSet} {l : List To} {va : Option Addr} {vc k : Nat} (hP : Pin u S) (hav : AVts u (.slice va l.length vc)) (h : Rd w S (tosD l) (.slice va l.length vc)) (hk : k < l.length) :
    ∃ b o ha hc na nc ua uc, va = some ⟨b, o, none⟩ ∧ b < w.heap.size ∧
      CellsAt w b (o + k * 8) [.string (l[k]).repo, .int .i64 (l[k]).r.ln, .slice ha (l[k]).r.hs.length hc, .int .u8 (l[k]).r.cu.k, .int .i64 (l[k]).r.cu.n, .string (l[k]).r.cu.t, .slice na (l[k]).r.cu.ns.length nc, .slice ua (l[k]).r.cu.xs.length uc] ∧
      (l[k]).repo.size ≤ maxLen ∧ (l[k]).r.cu.t.size ≤ maxLen ∧ Rd w S (hssD (l[k]).r.hs) (.slice ha (l[k]).r.hs.length hc) ∧ Rd w S (strsD (l[k]).r.cu.ns) (.slice na (l[k]).r.cu.ns.length nc) ∧ Rd w S (valsD (l[k]).r.cu.xs) (.slice ua (l[k]).r.cu.xs.length uc) ∧ AV u (.slice ua (l[k]).r.cu.xs.length uc) := by
  obtain ⟨cs, h1, h2⟩ := h
  simp only [tosD, RdC] at h1
  obtain ⟨a, cap, rfl, _, _, h4⟩ := h1
  simp only [asm] at h2
  injection h2 with e1 e2 e3
  subst e1; subst e3
  rcases h4 with h4 | ⟨b, o, rfl, h5, h6, h7⟩
  · simp at h4; subst h4; simp at hk
  · obtain ⟨c, hl, hc, hr⟩ := h7.get k (by simpa using hk)
    rw [List.getElem_map] at hr
    obtain ⟨a0, c0, a1, c1, a2, c2, e, hb0, hb1, h8, h9, h10⟩ := rdTo_out (⟨c, hr, rfl⟩ : Rd w S (l[k]).d (asm (l[k]).d c))
    have ec := cells_asm hr
    rw [e] at ec
    have ec' : c = [.string (l[k]).repo, .int .i64 (l[k]).r.ln, .slice a0 (l[k]).r.hs.length c0, .int .u8 (l[k]).r.cu.k, .int .i64 (l[k]).r.cu.n, .string (l[k]).r.cu.t, .slice a1 (l[k]).r.cu.ns.length c1, .slice a2 (l[k]).r.cu.xs.length c2] := by
      have := congrArg Array.toList ec
      simpa [Value.cells] using this.symm
    subst ec'
    have hq := hav ⟨b, o, none⟩ _ _ rfl k hk
    have hc7 : w.cell? ⟨b, o + k * 8 + 7, none⟩ = some (.slice a2 (l[k]).r.cu.xs.length c2) := hc 7 (by simp)
    exact ⟨b, o, a0, c0, a1, c1, a2, c2, rfl, h6, hc, hb0, hb1, h8, h9, h10, hq.2 _ ((cell_pin hP h5 hq.1).symm.trans hc7)⟩
section
variable {P : Program} {ops : Array Oper} {S : Nat → Prop} {w w0 : World} {a0 : Act} {Γ : Ctx}
variable {d : Option Tmp} {ty : TypeId} {pos : String} {af : Array Edge} {gd : Option (Nat × Bool)}
theorem sp_indexQ8 {x y : Operand} {T E : TypeId} {va : Option Addr} {b o n cap i : Nat} (hva : va = some ⟨b, o, none⟩) (hx : Has S w0 a0 Γ x (Is (.slice va n cap))) (hy : Has S w0 a0 Γ y (Is (.int .i64 i))) (hT : P.underlying T = some (.slice E)) (hz : szOf P E = some 8)
    (hi : i < n) : Spec P ops S w0 a0 Γ ⟨d, .indexAddr T x y, ty, pos, af, gd⟩ (Is (.pointer (some ⟨b, o + i * 8, none⟩))) := by
  subst hva
  exact sp_val fun a g W hk hg he => by
    have e1 : a.eval x = .slice (some ⟨b, o, none⟩) n cap := hx.of_env hk hg he (by simp [Op.operands])
    have e2 : a.eval y = .int .i64 i := hy.of_env hk hg he (by simp [Op.operands])
    simp [execOp, e1, e2, Instr.indexAt, asIntOf, run_und hT, hi, run_szOf hz, add_none]
theorem sp_loadQA {x : Operand} {T : TypeId} {b o n : Nat} {cs : List Value} {v : Value} (kw : Keeps All w w0) (hSb : S b) (hx : Has S w0 a0 Γ x (Is (.pointer (some ⟨b, o, none⟩)))) (hT : aggB P T = some true) (hz : szOf P T = some n) (hn : cs.length = n) (hv : Value.agg cs.toArray = v) (hc : CellsAt w b o cs) (hb : b < w.heap.size) (h1 : n ≠ 1 ∨ True) :
    Spec P ops S w0 a0 Γ ⟨d, .load T x, ty, pos, af, gd⟩ (Is v) := fun a g W hk hg he => by
  have e1 : a.eval x = .pointer (some ⟨b, o, none⟩) := hx.of_env hk hg he (by simp [Op.operands])
  have hW : W.heap[b]? = w.heap[b]? := (hk.block b (Nat.lt_of_lt_of_le hb kw.size) hSb).trans (kw.block b hb trivial)
  have hcW : CellsAt W b o cs := fun i hi => by
    have := hc i hi
    unfold World.cell? at this ⊢
    simp only [hW]; exact this
  have hr := run_loadVar (P := P) hcW hT hz hn (fun h => by cases h)
  unfold OpRuns
  have : (execOp a.eval ⟨d, .load T x, ty, pos, af, gd⟩).run P W = .ok (.value v) W := by
    simp only [execOp, e1, Instr.loadAt, Instr.sureAddr, Sem.run_bind, Sem.run_pure, Result.andThen_ok, hr]
    subst hv; rfl
  rw [this]
  exact ⟨.refl _ _, rfl⟩
theorem sp_loadQS {x : Operand} {T : TypeId} {b o : Nat} {u : Value} (kw : Keeps All w w0) (hSb : S b) (hx : Has S w0 a0 Γ x (Is (.pointer (some ⟨b, o, none⟩)))) (hT : aggB P T = some false) (hz : szOf P T = some 1) (hc : w.cell? ⟨b, o, none⟩ = some u) (hb : b < w.heap.size) :
    Spec P ops S w0 a0 Γ ⟨d, .load T x, ty, pos, af, gd⟩ (Is u) := fun a g W hk hg he => by
  have e1 : a.eval x = .pointer (some ⟨b, o, none⟩) := hx.of_env hk hg he (by simp [Op.operands])
  have hW : W.heap[b]? = w.heap[b]? := (hk.block b (Nat.lt_of_lt_of_le hb kw.size) hSb).trans (kw.block b hb trivial)
  have hcW : CellsAt W b o [u] := fun i hi => by
    have : i = 0 := by simpa using hi
    subst this
    show W.cell? ⟨b, o, none⟩ = some u
    rw [← hc]; unfold World.cell?; simp only [hW]
  have hr := run_loadVar (P := P) hcW hT hz rfl (fun _ => rfl)
  unfold OpRuns
  have : (execOp a.eval ⟨d, .load T x, ty, pos, af, gd⟩).run P W = .ok (.value u) W := by
    simp only [execOp, e1, Instr.loadAt, Instr.sureAddr, Sem.run_bind, Sem.run_pure, Result.andThen_ok, hr]
    rfl
  rw [this]
  exact ⟨.refl _ _, rfl⟩
end
theorem cellsAt_drop {W : World} {b o n : Nat} {cs : List Value} (h : CellsAt W b o cs) : CellsAt W b (o + n) (cs.drop n) := fun i hi => by
  have := h (n + i) (by simp at hi; omega)
  simpa [Nat.add_assoc] using this
def longN (ns : List ByteArray) : Bool := ns.any fun s => decide (500 < s.size)
theorem longN_step {ns : List ByteArray} {k : Nat} (h : k < ns.length) : longN (ns.drop k) = (decide (500 < ns[k].size) || longN (ns.drop (k + 1))) := by
  rw [List.drop_eq_getElem_cons h]; rfl
mutual
def sz30 : V → Nat → Int
  | .mk _ _ t ns xs, deep => if 12 < deep ∨ 500 < t.size ∨ 60 < xs.length ∨ 60 < ns.length then 1000 else if longN ns = true then 1000 else szL30 xs (deep + 1) 1
def szL30 : List V → Nat → Int → Int
  | [], _, c => c
  | x :: xs, deep, c => if 200 < c + sz30 x deep then 1000 else szL30 xs deep (c + sz30 x deep)
end
theorem sz30_eq (x : V) (deep : Nat) : sz30 x deep = if 12 < deep ∨ 500 < x.t.size ∨ 60 < x.xs.length ∨ 60 < x.ns.length then 1000 else if longN x.ns = true then 1000 else szL30 x.xs (deep + 1) 1 := by cases x; rfl
theorem szL30_step {xs : List V} {k deep : Nat} {c : Int} (h : k < xs.length) : szL30 (xs.drop k) deep c = if 200 < c + sz30 xs[k] deep then 1000 else szL30 (xs.drop (k + 1)) deep (c + sz30 xs[k] deep) := by
  rw [List.drop_eq_getElem_cons h]; rfl
theorem longN_wt : ∀ (ns : List ByteArray), longN ns = false → wtN ns ≤ 501 * ns.length
  | [], _ => by simp [wtN]
  | s :: ns, h => by
    simp only [longN, List.any_cons, Bool.or_eq_false_iff, decide_eq_false_iff_not] at h
    have := longN_wt ns h.2
    simp only [wtN, List.length_cons]; omega
mutual
theorem sz30_wt : ∀ (x : V) (deep : Nat), 1 ≤ sz30 x deep ∧ sz30 x deep ≤ 1000 ∧ (sz30 x deep ≤ 200 → (x.wt : Int) ≤ 40000 * sz30 x deep)
  | .mk k n t ns xs, deep => by
    have hL := szL30_wt xs (deep + 1) 1 (by omega) (by omega)
    rw [sz30]
    split
    · exact ⟨by omega, by omega, fun h => absurd h (by omega)⟩
    · rename_i h1
      split
      · exact ⟨by omega, by omega, fun h => absurd h (by omega)⟩
      · rename_i h2
        refine ⟨hL.1, hL.2.1, fun h => ?_⟩
        have h3 := hL.2.2 h
        have h4 := longN_wt ns (by simpa using h2)
        have h5 : (V.mk k n t ns xs).wt = 1 + t.size + wtN ns + V.wts xs := rfl
        rw [h5]; push_cast; omega
theorem szL30_wt : ∀ (xs : List V) (deep : Nat) (c : Int), 1 ≤ c → c ≤ 200 → 1 ≤ szL30 xs deep c ∧ szL30 xs deep c ≤ 1000 ∧ (szL30 xs deep c ≤ 200 → (V.wts xs : Int) ≤ 40000 * (szL30 xs deep c - c))
  | [], deep, c, h1, h2 => by simp only [szL30, V.wts]; omega
  | x :: xs, deep, c, h1, h2 => by
    have hx := sz30_wt x deep
    rw [szL30]
    split
    · exact ⟨by omega, by omega, fun h => absurd h (by omega)⟩
    · rename_i h3
      have h4 := szL30_wt xs deep (c + sz30 x deep) (by omega) (by omega)
      refine ⟨h4.1, h4.2.1, fun h => ?_⟩
      have h5 := h4.2.2 h
      have h6 := hx.2.2 (by omega)
      have h7 : V.wts (x :: xs) = x.wt + V.wts xs := rfl
      rw [h7]; push_cast; omega
end
def hsLong (h : Hs) : Bool := decide (300 < h.al.size) || decide (300 < h.hx.size)
def toLong (x : To) : Bool := ((decide (300 < x.repo.size) || decide (10 < x.r.hs.length)) || decide (200 < sz30 x.r.cu 0)) || x.r.hs.any hsLong
def fewB (l : List To) : Bool := decide (l.length ≤ 14) && !l.any toLong
theorem few_el {l : List To} (h : fewB l = true) : ∀ x ∈ l, x.repo.size ≤ 300 ∧ x.r.hs.length ≤ 10 ∧ x.r.cu.wt ≤ 8000000 := fun x hx => by
  simp only [fewB, Bool.and_eq_true, decide_eq_true_eq, Bool.not_eq_true', List.any_eq_false] at h
  have h1 := h.2 x hx
  simp only [toLong, Bool.or_eq_true, decide_eq_true_eq, not_or] at h1
  have h2 := (sz30_wt x.r.cu 0).2.2 (by omega)
  omega
theorem few_len {l : List To} (h : fewB l = true) : l.length ≤ 14 := by
  simp only [fewB, Bool.and_eq_true, decide_eq_true_eq] at h
  exact h.1
theorem any_step {α : Type} {p : α → Bool} {l : List α} {k : Nat} (h : k < l.length) : (l.drop k).any p = (p l[k] || (l.drop (k + 1)).any p) := by
  rw [List.drop_eq_getElem_cons h]; rfl
theorem nin_old {b n bb : Nat} {hd : Option Nat} (h : b < n) (hb : n ≤ bb) (hh : ∀ x ∈ blks hd, n ≤ x) : b ∉ bb :: (blks hd ++ []) := fun hm => by
  rcases List.mem_cons.1 hm with h1 | h1
  · omega
  · have := hh b (by simpa using h1); omega
theorem nin_oldA {b n : Nat} {hd : Option Nat} (h : b < n) (hh : ∀ x ∈ blks hd, n ≤ x) : b ∉ blks hd := fun hm => by have := hh b hm; omega
theorem avr_mk {u : World} {c0 c1 c2 c3 c4 c5 c6 : Value} (h : AV u c6) : AVr u (.agg #[c0, c1, c2, c3, c4, c5, c6]) := fun _ _ _ _ _ _ _ e => by cases e; exact h
theorem arrF_appL {w W W' : World} {M M' L : List Nat} {lo : Nat} {e : TypeId} {sz : Nat} {ds : List D} {v : Value} {hd2 : Option Nat} (h : Arr W lo e sz (SF w M) ds v hd2) (k : Keeps (fun x => x ∉ L) W W') (hM : ∀ b ∈ L, b ∈ M) (hr : ∀ b ∈ M', b ∈ M ∨ W.heap.size ≤ b) (hd2' : ∀ b ∈ blks hd2, b ∉ L) : Arr W' lo e sz (SF w M') ds v hd2 :=
  (h.mono fun b o hb hlt => ⟨⟨hb.1, hb.2.1, fun hm => (hr b hm).elim hb.2.2 (by omega)⟩, fun hh => hb.2.2 (hM b hh)⟩ : Arr W lo e sz (fun b o => SF w M' b o ∧ b ∉ L) ds v hd2).keeps k hd2' (fun b o hb => hb.2) |>.mono fun b o hb _ => hb.1
def IsAddP (T e : TypeId) (W0 : World) (lo : Nat) (G : BSet) (bb : Nat) (want : Int) (L : List Vo) (repo : ByteArray) (r : Rc) (hd0 : Option Nat) : Fact := fun _ q W => ∃ n er L2, q = .tuple #[.int .i64 n, .int .i64 er] ∧ AddO L repo r er L2 ∧ AddV T e W0 W lo G bb want L2 hd0
theorem st_addP {T e : TypeId} {W0 : World} {lo : Nat} {G : BSet} {bb : Nat} {want : Int} {L : List Vo} {repo : ByteArray} {r : Rc} {hd0 : Option Nat} : Stable All (IsAddP T e W0 lo G bb want L repo r hd0) :=
  ⟨fun _ _ _ _ k ⟨n, er, L2, h1, h2, h3⟩ => ⟨n, er, L2, h1, h2, stE_addV _ _ k h3⟩, fun _ _ _ _ _ _ h => h⟩
section
variable {P : Program} {ops : Array Oper} {S : Nat → Prop} {w0 : World} {a0 : Act} {Γ : Ctx}
variable {d : Option Tmp} {ty : TypeId} {pos : String} {af : Array Edge}
variable {K : List Oper → Ctx → (World → Prop) → List Bool → Prop} {l : List Oper} {Ψ : World → Prop} {ms : List Bool}
theorem Chain.callX3 {f : FuncId} {x y z : Operand} {ts : Array TypeId} {φ1 φ2 φ3 φ : Fact} (hf : Enters P f) (hx : Has S w0 a0 Γ x φ1) (hy : Has S w0 a0 Γ y φ2) (hz : Has S w0 a0 Γ z φ3) (hst : Stable All φ)
    (hc : ∀ g u1 u2 u3 W, Keeps S w0 W → GOk w0 W g → φ1 g u1 W → φ2 g u2 W → φ3 g u3 W → Ψ W → Calls P f #[u1, u2, u3] W fun e W' => ∃ v, e = .returned v ∧ Keeps S W W' ∧ φ g v W')
    (h : Chain P ops S w0 a0 K true l ((d, φ) :: Γ) Tr (true :: ms)) : Chain P ops S w0 a0 K false (⟨d, .call ⟨.value (.func f), #[x, y, z], ts⟩, ty, pos, af, none⟩ :: l) Γ Ψ ms := by
  refine .last φ Tr hst st_tr (fun a g W hk hg he hψ => ?_) h
  have hw : Region.wanted (⟨d, .call ⟨.value (.func f), #[x, y, z], ts⟩, ty, pos, af, none⟩ : Oper) (yielded ops a.tmps) = true := rfl
  unfold ObRun; rw [if_pos hw]
  unfold OpRuns
  rw [run_call rfl hf]
  have := hc g _ _ _ W hk hg (hx.of_env hk hg he (by simp [Op.operands, Call.operands])) (hy.of_env hk hg he (by simp [Op.operands, Call.operands])) (hz.of_env hk hg he (by simp [Op.operands, Call.operands])) hψ
  exact (by simpa using this : Calls P f (#[x, y, z].map a.eval) W fun e W' => ∃ v, e = .returned v ∧ Keeps S W W' ∧ φ g v W').mono fun e W' ⟨v, h1, h2, h3⟩ => ⟨v, h1, h2, h3, trivial⟩
end
def IsAddE (T e : TypeId) (W0 : World) (lo : Nat) (G : BSet) (bb : Nat) (want : Int) (L : List Vo) (repo : ByteArray) (r : Rc) (hd0 : Option Nat) : Fact := fun _ q W => ∃ n er L2, q = .int .i64 er ∧ (n : Int) = n ∧ AddO L repo r er L2 ∧ AddV T e W0 W lo G bb want L2 hd0
theorem st_addE {T e : TypeId} {W0 : World} {lo : Nat} {G : BSet} {bb : Nat} {want : Int} {L : List Vo} {repo : ByteArray} {r : Rc} {hd0 : Option Nat} : Stable All (IsAddE T e W0 lo G bb want L repo r hd0) :=
  ⟨fun _ _ _ _ k ⟨n, er, L2, h1, h0, h2, h3⟩ => ⟨n, er, L2, h1, h0, h2, stE_addV _ _ k h3⟩, fun _ _ _ _ _ _ h => h⟩
section
variable {P : Program} {ops : Array Oper} {S : Nat → Prop} {w0 : World} {a0 : Act} {Γ : Ctx}
variable {d : Option Tmp} {ty : TypeId} {pos : String} {af : Array Edge} {gd : Option (Nat × Bool)}
variable {T e : TypeId} {W0 : World} {lo : Nat} {G : BSet} {bb : Nat} {want : Int} {L : List Vo} {repo : ByteArray} {r : Rc} {hd0 : Option Nat}
theorem sp_extA0 {x : Operand} (hx : Has S w0 a0 Γ x (IsAddP T e W0 lo G bb want L repo r hd0)) : Spec P ops S w0 a0 Γ ⟨d, .extract x 0, ty, pos, af, gd⟩ IsUI := fun a g W hk hg he => by
  obtain ⟨n, er, L2, e1, h1, h2⟩ := hx.of_env hk hg he (by simp [Op.operands])
  unfold OpRuns
  have : (execOp a.eval ⟨d, .extract x 0, ty, pos, af, gd⟩).run P W = .ok (.value (.int .i64 n)) W := by simp [execOp, e1, Instr.extract]
  rw [this]; exact ⟨.refl _ _, n, rfl⟩
theorem sp_extA1 {x : Operand} (hx : Has S w0 a0 Γ x (IsAddP T e W0 lo G bb want L repo r hd0)) : Spec P ops S w0 a0 Γ ⟨d, .extract x 1, ty, pos, af, gd⟩ (IsAddE T e W0 lo G bb want L repo r hd0) := fun a g W hk hg he => by
  obtain ⟨n, er, L2, e1, h1, h2⟩ := hx.of_env hk hg he (by simp [Op.operands])
  unfold OpRuns
  have : (execOp a.eval ⟨d, .extract x 1, ty, pos, af, gd⟩).run P W = .ok (.value (.int .i64 er)) W := by simp [execOp, e1, Instr.extract]
  rw [this]; exact ⟨.refl _ _, n, er, L2, rfl, rfl, h1, h2⟩
variable {K : List Oper → Ctx → (World → Prop) → List Bool → Prop} {l : List Oper} {Ψ : World → Prop} {ms : List Bool}
theorem Chain.aftop {o : Oper} {φ : Fact} (i0 : Nat) (hst : Stable All φ) (hd : Dep ops i0 ms.length) (h1 : i0 < ms.length) (h2 : ms.reverse.getD i0 false = true) (h3 : ((List.range ms.length).all fun k => decide (k ≤ i0) || !(ms.reverse.getD k false)) = true) (hg : o.guard = none) (hs : Spec P ops S w0 a0 Γ o φ)
    (h : Chain P ops S w0 a0 K true l ((o.dst, φ) :: Γ) Ψ (false :: ms)) : Chain P ops S w0 a0 K true (o :: l) Γ Ψ ms := by
  refine .aft φ i0 hst hd h1 h2 (fun k hk1 hk2 => ?_) (fun a g W hk hgk he => ?_) h
  · have := List.all_eq_true.1 h3 k (List.mem_range.2 hk2)
    simp only [Bool.or_eq_true, decide_eq_true_eq, Bool.not_eq_true'] at this
    exact this.resolve_left (by omega)
  · have hw : Region.wanted o (yielded ops a.tmps) = true := by unfold Region.wanted; rw [hg]
    unfold ObRun; rw [if_pos hw]
    exact hs a g W hk hgk he
end
theorem addO_ok {L L2 : List Vo} {repo : ByteArray} {r : Rc} {e : Int} (h : AddO L repo r e L2) (hL : L.all okVo = true) (hc : r.cu.wt ≤ 1000000000) (hn : r.hs.length ≤ 1073741824) : L2.all okVo = true := by
  rcases h with ⟨_, rfl⟩ | ⟨_, _, _, y, hy, rfl⟩
  · exact hL
  · rw [List.all_append, hL]
    have h2 := Cp.wt hy
    simp only [List.all_cons, List.all_nil, okVo, Rc.withCu, Bool.and_true, Bool.true_and, Bool.and_eq_true, decide_eq_true_eq]
    omega
theorem addO_len {L L2 : List Vo} {repo : ByteArray} {r : Rc} {e : Int} (h : AddO L repo r e L2) (hL : L.length ≤ 8) : L2.length ≤ 8 := by
  rcases h with ⟨_, rfl⟩ | ⟨_, _, h8, y, hy, rfl⟩
  · exact hL
  · simp; omega
theorem addO_new {L L2 : List Vo} {repo : ByteArray} {r : Rc} (h : AddO L repo r 0 L2) : (∀ x ∈ L, x.repo ≠ repo) ∧ List.map Vo.repo L2 = List.map Vo.repo L ++ [repo] := by
  rcases h with ⟨h, _⟩ | ⟨_, h, _, y, hy, rfl⟩
  · exact absurd rfl h
  · exact ⟨h, by simp⟩
theorem addO_old {L L2 : List Vo} {repo : ByteArray} {r : Rc} {e : Int} (h : AddO L repo r e L2) (he : e ≠ 0) : L2 = L := by
  rcases h with ⟨_, h⟩ | ⟨h, _⟩
  · exact h
  · exact absurd h he
theorem addO_app {L L2 : List Vo} {repo : ByteArray} {r : Rc} {e : Int} (h : AddO L repo r e L2) (he : e = 0) : ∃ x, L2 = L ++ [x] := by
  rcases h with ⟨h, _⟩ | ⟨_, _, _, y, _, h⟩
  · exact absurd he h
  · exact ⟨_, h⟩
theorem wonR_wt {want : Int} {L : List Vo} (h : L.all okVo = true) : (wonR want L).cu.wt ≤ 1073741824 := by
  unfold wonR
  cases hq : wonO want L with
  | none => exact Nat.le_of_ble_eq_true (by kernel_rfl)
  | some v => exact okV_wt h v (wonF_mem _ _ _ hq)
theorem sameR_refl (r : Rc) : sameR r r = true := (sameR_iff' r r).2 rfl
end Go.Eng
namespace Go.Proofs.Ytnobijngkpflcaa
open Go.Eng
set_option maxRecDepth 100000 in
theorem size30_all : ∀ (m : Nat) (x : V), x.cnt ≤ m → ∀ (deep : Nat), deep ≤ 13 → ∀ (w : World) (S : BSet) (v : Value), Rd w S x.d v → Calls Try.prog 114 #[v, .int .i64 deep] w (Ret w fun u _ => u = .int .i64 (sz30 x deep)) := by
  intro m
  induction m with
  | zero => intro x hx; cases x; simp [V.cnt] at hx
  | succ m ih =>
  intro x hx deep hdeep w S v hv
  have hcx := cnt_eq x
  have hzz := sz30_eq x deep
  obtain ⟨cn0a, cn0c, ci0a, ci0c, ev, ht0, D_cn0, D_ci0⟩ := rdV_out (rd_arg hv)
  subst ev
  refine enter Try.func114 rfl Try.ntmps114 (lbr rfl) fun a0 y0 zz0 harg => ?_
  have e0 : sl a0 0 = (.agg #[(.int .u8 (x.k)), (.int .i64 (x.n)), (.string (x.t)), (.slice cn0a (x.ns.length) cn0c), (.slice ci0a (x.xs.length) ci0c)]) := harg 0 (lbr rfl)
  have e1 : sl a0 1 = (.int .i64 ((deep : Nat))) := harg 1 (lbr rfl)
  have kw := Keeps.refl All w
  clear harg
  refine wp_seq_k fun K1 hK1 => ?_
  refine rg mixed y0 zz0 ?_
  refine .boxOp (v := (.agg #[(.int .u8 (x.k)), (.int .i64 (x.n)), (.string (x.t)), (.slice cn0a (x.ns.length) cn0c), (.slice ci0a (x.xs.length) ci0c)])) (hbs rfl e0) ?_
  refine .i (sp_assign Has.cst) ?_
  refine .done ⟨by kernel_rfl, fun a2 g W2 y2 zz2 hk hg hV hR hP => ?_⟩
  obtain ⟨-, ⟨b2_2, e2, hb2, own_b2_2⟩, -⟩ := hV
  have lo_b2_2 : w.heap.size ≤ b2_2 := Nat.le_trans kw.size (hg.lo _ _ hb2)
  have own_b2_2 : Own W2 b2_2 [(.int .u8 (x.k)), (.int .i64 (x.n)), (.string (x.t)), (.slice cn0a (x.ns.length) cn0c), (.slice ci0a (x.xs.length) ci0c)] 33 := own_b2_2
  replace e1 := (hR 1 rfl).trans e1
  replace D_cn0 := sa_more D_cn0 hk [b2_2] (in_cons (hg.lo _ _ hb2) in_nil)
  replace D_ci0 := sa_more D_ci0 hk [b2_2] (in_cons (hg.lo _ _ hb2) in_nil)
  replace kw := kw.x hk
  clear hR hk hg hP hb2
  refine tail_nil (hK1 _ _ ?_)
  refine wp_seq_k fun K3 hK3 => ?_
  refine wp_seq_k fun K4 hK4 => ?_
  refine rg mixed y2 zz2 ?_
  refine .i (sp_move (hbs rfl e1)) ?_
  refine .i (sp_gtr (hlc rfl) Has.cst) ?_
  refine .i (sp_move (hlc rfl)) ?_
  refine .e (t := 10) rfl (hlc rfl) (fun hg => fo 2 (hbs rfl e2) Try.underlying33 rfl sz9 rfl) ?_
  refine .e (t := 10) rfl (hlc rfl) (fun hg => lo1 ((hlc rfl).undE hg) own_b2_2 trivial agg9 sz9 rfl) ?_
  refine .e (t := 10) rfl (hlc rfl) (fun hg => sp_lenS Try.underlying9 ((hlc rfl).undE hg)) ?_
  refine .e (t := 10) rfl (hlc rfl) (fun hg => sp_gtr ((hlc rfl).undE hg) Has.cst) ?_
  refine .i (sp_or (hlc rfl) ((hlc rfl).weak fun hq => hq)) ?_
  refine .i (sp_move (hlc rfl)) ?_
  refine .e (t := 16) rfl (hlc rfl) (fun hg => fo 4 (hbs rfl e2) Try.underlying33 rfl sz31 rfl) ?_
  refine .e (t := 16) rfl (hlc rfl) (fun hg => lo1 ((hlc rfl).undE hg) own_b2_2 trivial agg31 sz31 rfl) ?_
  refine .e (t := 16) rfl (hlc rfl) (fun hg => sp_lenVs Try.underlying31 (((hlc rfl).undE hg).dat D_ci0 sub_all)) ?_
  refine .e (t := 16) rfl (hlc rfl) (fun hg => sp_gtr ((hlc rfl).undE hg) Has.cst) ?_
  refine .i (sp_or (hlc rfl) ((hlc rfl).weak fun hq => hq)) ?_
  refine .i (sp_move (hlc rfl)) ?_
  refine .e (t := 22) rfl (hlc rfl) (fun hg => fo 3 (hbs rfl e2) Try.underlying33 rfl sz23 rfl) ?_
  refine .e (t := 22) rfl (hlc rfl) (fun hg => lo1 ((hlc rfl).undE hg) own_b2_2 trivial agg23 sz23 rfl) ?_
  refine .e (t := 22) rfl (hlc rfl) (fun hg => sp_lenSs Try.underlying23 (((hlc rfl).undE hg).dat D_cn0 sub_all)) ?_
  refine .e (t := 22) rfl (hlc rfl) (fun hg => sp_gtr ((hlc rfl).undE hg) Has.cst) ?_
  refine .i (sp_or (hlc rfl) ((hlc rfl).weak fun hq => hq)) ?_
  refine .done ⟨by kernel_rfl, fun a5 g W5 y5 zz5 hk hg hV hR hP => ?_⟩
  obtain ⟨e27, -, -, -, -, -, -, -, -, -, -, -, -, -, -, -, -, -, -, -, -⟩ := hV
  replace e1 := (hR 1 rfl).trans e1
  replace e2 := (hR 2 rfl).trans e2
  replace D_cn0 := D_cn0.ext hk
  replace D_ci0 := D_ci0.ext hk
  replace e27 := e27.q
  replace own_b2_2 := own_b2_2.ext hk
  replace kw := kw.x hk
  clear hR hk hg hP
  refine tail_nil (hK4 _ _ ?_)
  refine wp_cond_split e27 (fun hc => ?_) (fun hc => ?_)
  ·
   have hbg : 12 < deep ∨ 500 < x.t.size ∨ 60 < x.xs.length ∨ 60 < x.ns.length := by simp at hc; omega
   have hfin : sz30 x deep = 1000 := by rw [hzz, if_pos hbg]
   refine wp_seq_k fun K6 hK6 => ?_
   refine rg mixed y5 zz5 ?_
   refine .i (sp_assign Has.cst) ?_
   refine .done ⟨by kernel_rfl, fun a7 g W7 y7 zz7 hk hg hV hR hP => ?_⟩
   obtain ⟨e4, -⟩ := hV
   replace D_cn0 := D_cn0.ext hk
   replace D_ci0 := D_ci0.ext hk
   have e4 : sl a7 4 = (.int .i64 (1000)) := e4
   replace own_b2_2 := own_b2_2.ext hk
   replace kw := kw.x hk
   clear hR hk hg hP
   refine tail_nil (hK6 _ _ ?_)
   refine wp_ret ?_
   refine (show bodyPost Try.prog Try.f114 _ .ret _ _ from ret1 rfl zz7 e4 ⟨_, rfl, kw, ?_⟩)
   rw [hfin]
  ·
   have hbg : ¬ (12 < deep ∨ 500 < x.t.size ∨ 60 < x.xs.length ∨ 60 < x.ns.length) := by simp at hc; omega
   rw [if_neg hbg] at hzz
   refine wp_skip (hK3 _ _ ?_)
   refine wp_seq_k fun K8 hK8 => ?_
   refine rg mixed y5 zz5 ?_
   refine .i (sp_assign Has.cst) ?_
   refine .done ⟨by kernel_rfl, fun a9 g W9 y9 zz9 hk hg hV hR hP => ?_⟩
   obtain ⟨e5, -⟩ := hV
   replace e1 := (hR 1 rfl).trans e1
   replace e2 := (hR 2 rfl).trans e2
   replace D_cn0 := D_cn0.ext hk
   replace D_ci0 := D_ci0.ext hk
   have e5 : sl a9 5 = (.int .i64 (1)) := e5
   replace own_b2_2 := own_b2_2.ext hk
   replace kw := kw.x hk
   clear hR hk hg hP
   refine tail_nil (hK8 _ _ ?_)
   refine wp_seq_k fun K10 hK10 => ?_
   refine wp_seq_k fun K11 hK11 => ?_
   refine rg mixed y9 zz9 ?_
   refine .i (sp_assign Has.cst) ?_
   refine .done ⟨by kernel_rfl, fun a12 g W12 y12 zz12 hk hg hV hR hP => ?_⟩
   obtain ⟨e6, -⟩ := hV
   replace e1 := (hR 1 rfl).trans e1
   replace e2 := (hR 2 rfl).trans e2
   replace e5 := (hR 5 rfl).trans e5
   replace D_cn0 := D_cn0.ext hk
   replace D_ci0 := D_ci0.ext hk
   have e6 : sl a12 6 = (.int .i64 (0)) := e6
   replace own_b2_2 := own_b2_2.ext hk
   replace kw := kw.x hk
   clear hR hk hg hP
   refine tail_nil (hK11 _ _ ?_)
   refine wp_block ?_
   refine wp_for (x.ns.length) (fun k a W => a.tmps.size = 62 ∧ a.defers = [] ∧ Keeps All w W ∧ sl a 1 = (.int .i64 ((deep : Nat))) ∧ sl a 2 = (.pointer (some ⟨b2_2, 0, none⟩)) ∧ sl a 5 = (.int .i64 (1)) ∧ sl a 6 = (.int .i64 ((k : Nat))) ∧ Own W b2_2 [(.int .u8 (x.k)), (.int .i64 (x.n)), (.string (x.t)), (.slice cn0a (x.ns.length) cn0c), (.slice ci0a (x.xs.length) ci0c)] 33 ∧ Rd W (SA w S [b2_2]) (strsD (x.ns)) (.slice cn0a (x.ns.length) cn0c) ∧ Rd W (SA w S [b2_2]) (valsD (x.xs)) (.slice ci0a (x.xs.length) ci0c) ∧ (longN x.ns = longN (x.ns.drop k))) ⟨y12, zz12, kw, e1, e2, e5, (e6.trans (congrArg (Value.int .i64) (rfl))), own_b2_2, D_cn0, D_ci0, rfl⟩ ?_
   clear kw e1 e2 e5 e6 own_b2_2 D_cn0 D_ci0
   rintro k a13 W13 hkk ⟨y13, zz13, kw, e1, e2, e5, e6, own_b2_2, D_cn0, D_ci0, hln⟩
   refine wp_seq_k fun K14 hK14 => ?_
   refine wp_seq_k fun K15 hK15 => ?_
   refine rg mixed y13 zz13 ?_
   refine .i (sp_move (hbs rfl e6)) ?_
   refine .i (fo 3 (hbs rfl e2) Try.underlying33 rfl sz23 rfl) ?_
   refine .i (lo1 (hlc rfl) own_b2_2 trivial agg23 sz23 rfl) ?_
   refine .i (sp_lenSs Try.underlying23 ((hlc rfl).dat D_cn0 sub_all)) ?_
   refine .i (sp_lss (hlc rfl) (hlc rfl)) ?_
   refine .done ⟨by kernel_rfl, fun a16 g W16 y16 zz16 hk hg hV hR hP => ?_⟩
   obtain ⟨e32, -, -, -, -, -⟩ := hV
   replace e1 := (hR 1 rfl).trans e1
   replace e2 := (hR 2 rfl).trans e2
   replace e5 := (hR 5 rfl).trans e5
   replace e6 := (hR 6 rfl).trans e6
   replace D_cn0 := D_cn0.ext hk
   replace D_ci0 := D_ci0.ext hk
   replace e32 := e32.q
   replace own_b2_2 := own_b2_2.ext hk
   replace kw := kw.x hk
   clear hR hk hg hP
   refine tail_nil (hK15 _ _ ?_)
   refine wp_cond_split e32 (fun hc => ?_) (fun hc => ?_)
   ·
    have hlt : k < x.ns.length := by simpa using hc
    have hls := longN_step hlt
    refine wp_skip (hK14 _ _ ?_)
    refine wp_seq_k fun K17 hK17 => ?_
    refine wp_block ?_
    refine wp_seq_k fun K18 hK18 => ?_
    refine rg mixed y16 zz16 ?_
    refine .i (fo 3 (hbs rfl e2) Try.underlying33 rfl sz23 rfl) ?_
    refine .i (lo1 (hlc rfl) own_b2_2 trivial agg23 sz23 rfl) ?_
    refine .i (sp_move (hbs rfl e6)) ?_
    refine .rf (sp_indexS (i := k) ((hlc rfl).dat D_cn0 sub_all) (hlc rfl) Try.underlying23 sz9 rfl hlt) ?_
    refine .i (sp_loadStr (hlc rfl) agg9 sz9) ?_
    refine .i (sp_lenS Try.underlying9 (hlc rfl)) ?_
    refine .i (sp_gtr (hlc rfl) Has.cst) ?_
    refine .done ⟨by kernel_rfl, fun a19 g W19 y19 zz19 hk hg hV hR hP => ?_⟩
    obtain ⟨e41, -, -, -, -, -, -, -⟩ := hV
    replace e1 := (hR 1 rfl).trans e1
    replace e2 := (hR 2 rfl).trans e2
    replace e5 := (hR 5 rfl).trans e5
    replace e6 := (hR 6 rfl).trans e6
    replace D_cn0 := D_cn0.ext hk
    replace D_ci0 := D_ci0.ext hk
    replace e41 := e41.q
    replace own_b2_2 := own_b2_2.ext hk
    replace kw := kw.x hk
    clear hR hk hg hP
    refine tail_nil (hK18 _ _ ?_)
    refine wp_cond_split e41 (fun hc => ?_) (fun hc => ?_)
    ·
     have h5 : 500 < (x.ns[k]'hlt).size := by have := of_decide_eq_true hc; omega
     have hfin : sz30 x deep = 1000 := by rw [hzz, if_pos (by rw [hln, hls]; simp [h5])]
     refine wp_seq_k fun K20 hK20 => ?_
     refine rg mixed y19 zz19 ?_
     refine .i (sp_assign Has.cst) ?_
     refine .done ⟨by kernel_rfl, fun a21 g W21 y21 zz21 hk hg hV hR hP => ?_⟩
     obtain ⟨e4, -⟩ := hV
     replace D_cn0 := D_cn0.ext hk
     replace D_ci0 := D_ci0.ext hk
     have e4 : sl a21 4 = (.int .i64 (1000)) := e4
     replace own_b2_2 := own_b2_2.ext hk
     replace kw := kw.x hk
     clear hR hk hg hP
     refine tail_nil (hK20 _ _ ?_)
     refine wp_ret ?_
     refine (show bodyPost Try.prog Try.f114 _ .ret _ _ from ret1 rfl zz21 e4 ⟨_, rfl, kw, ?_⟩)
     rw [hfin]
    ·
     have h5 : ¬ 500 < (x.ns[k]'hlt).size := by have := of_decide_eq_false hc; omega
     rw [hls, decide_eq_false h5, Bool.false_or] at hln
     refine wp_skip (hK17 _ _ ?_)
     refine rg mixed y19 zz19 ?_
     refine .i (sp_move (hbs rfl e6)) ?_
     refine .i (sp_add (hlc rfl) Has.cst (i64_in (by omega))) ?_
     refine .i (sp_assign (hlc rfl)) ?_
     refine .done ⟨by kernel_rfl, fun a22 g W22 y22 zz22 hk hg hV hR hP => ?_⟩
     obtain ⟨e6, -, -, -⟩ := hV
     replace e1 := (hR 1 rfl).trans e1
     replace e2 := (hR 2 rfl).trans e2
     replace e5 := (hR 5 rfl).trans e5
     replace D_cn0 := D_cn0.ext hk
     replace D_ci0 := D_ci0.ext hk
     replace e6 := e6.q
     replace own_b2_2 := own_b2_2.ext hk
     replace kw := kw.x hk
     clear hR hk hg hP
     exact tail_nil ⟨hlt, y22, zz22, kw, e1, e2, e5, (e6.trans (congrArg (Value.int .i64) (by simp))), own_b2_2, D_cn0, D_ci0, hln⟩
   ·
    have hge0 : ¬ k < x.ns.length := by simpa using hc
    have hge : k = x.ns.length := by omega
    have hln0 : longN x.ns = false := by rw [hln, hge, List.drop_length]; rfl
    rw [if_neg (by simp [hln0])] at hzz
    refine wp_exit (hK10 _ _ ?_)
    refine wp_seq_k fun K23 hK23 => ?_
    refine wp_seq_k fun K24 hK24 => ?_
    refine rg mixed y16 zz16 ?_
    refine .i (sp_assign Has.cst) ?_
    refine .done ⟨by kernel_rfl, fun a25 g W25 y25 zz25 hk hg hV hR hP => ?_⟩
    obtain ⟨e7, -⟩ := hV
    replace e1 := (hR 1 rfl).trans e1
    replace e2 := (hR 2 rfl).trans e2
    replace e5 := (hR 5 rfl).trans e5
    replace D_cn0 := D_cn0.ext hk
    replace D_ci0 := D_ci0.ext hk
    have e7 : sl a25 7 = (.int .i64 (0)) := e7
    replace own_b2_2 := own_b2_2.ext hk
    replace kw := kw.x hk
    clear hR hk hg hP
    refine tail_nil (hK24 _ _ ?_)
    refine wp_block ?_
    refine wp_for (x.xs.length) (fun j a W => ∃ (c : Int), a.tmps.size = 62 ∧ a.defers = [] ∧ Keeps All w W ∧ sl a 1 = (.int .i64 ((deep : Nat))) ∧ sl a 2 = (.pointer (some ⟨b2_2, 0, none⟩)) ∧ sl a 5 = (.int .i64 (c)) ∧ sl a 7 = (.int .i64 ((j : Nat))) ∧ Own W b2_2 [(.int .u8 (x.k)), (.int .i64 (x.n)), (.string (x.t)), (.slice cn0a (x.ns.length) cn0c), (.slice ci0a (x.xs.length) ci0c)] 33 ∧ Rd W (SA w S [b2_2]) (strsD (x.ns)) (.slice cn0a (x.ns.length) cn0c) ∧ Rd W (SA w S [b2_2]) (valsD (x.xs)) (.slice ci0a (x.xs.length) ci0c) ∧ (szL30 x.xs (deep + 1) 1 = szL30 (x.xs.drop j) (deep + 1) c) ∧ (1 ≤ c ∧ c ≤ 200)) ⟨1, y25, zz25, kw, e1, e2, (e5.trans (congrArg (Value.int .i64) (rfl))), (e7.trans (congrArg (Value.int .i64) (rfl))), own_b2_2, D_cn0, D_ci0, rfl, (by omega)⟩ ?_
    clear kw e1 e2 e5 e7 own_b2_2 D_cn0 D_ci0
    rintro j a26 W26 hkj ⟨c, y26, zz26, kw, e1, e2, e5, e7, own_b2_2, D_cn0, D_ci0, hin, hcc⟩
    refine wp_seq_k fun K27 hK27 => ?_
    refine wp_seq_k fun K28 hK28 => ?_
    refine rg mixed y26 zz26 ?_
    refine .i (sp_move (hbs rfl e7)) ?_
    refine .i (fo 4 (hbs rfl e2) Try.underlying33 rfl sz31 rfl) ?_
    refine .i (lo1 (hlc rfl) own_b2_2 trivial agg31 sz31 rfl) ?_
    refine .i (sp_lenVs Try.underlying31 ((hlc rfl).dat D_ci0 sub_all)) ?_
    refine .i (sp_lss (hlc rfl) (hlc rfl)) ?_
    refine .done ⟨by kernel_rfl, fun a29 g W29 y29 zz29 hk hg hV hR hP => ?_⟩
    obtain ⟨e46, -, -, -, -, -⟩ := hV
    replace e1 := (hR 1 rfl).trans e1
    replace e2 := (hR 2 rfl).trans e2
    replace e5 := (hR 5 rfl).trans e5
    replace e7 := (hR 7 rfl).trans e7
    replace D_cn0 := D_cn0.ext hk
    replace D_ci0 := D_ci0.ext hk
    replace e46 := e46.q
    replace own_b2_2 := own_b2_2.ext hk
    replace kw := kw.x hk
    clear hR hk hg hP
    refine tail_nil (hK28 _ _ ?_)
    refine wp_cond_split e46 (fun hc => ?_) (fun hc => ?_)
    ·
     have hlt : j < x.xs.length := by simpa using hc
     have hst := szL30_step (deep := deep + 1) (c := c) hlt
     have hce := cnt_elem hlt
     have hwt := sz30_wt (x.xs[j]'hlt) (deep + 1)
     have hdp : deep ≤ 12 := by omega
     refine wp_skip (hK27 _ _ ?_)
     refine wp_seq_k fun K30 hK30 => ?_
     refine wp_block ?_
     refine wp_seq_k fun K31 hK31 => ?_
     refine rg mixed y29 zz29 ?_
     refine .i (sp_move (hbs rfl e5)) ?_
     refine .i (fo 4 (hbs rfl e2) Try.underlying33 rfl sz31 rfl) ?_
     refine .i (lo1 (hlc rfl) own_b2_2 trivial agg31 sz31 rfl) ?_
     refine .i (sp_move (hbs rfl e7)) ?_
     refine .rf (sp_indexV (i := j) ((hlc rfl).dat D_ci0 sub_all) (hlc rfl) Try.underlying31 sz33 rfl hlt) ?_
     refine .da (sp_loadV (hlc rfl) agg33 sz33) ?_
     refine .i (sp_move (hbs rfl e1)) ?_
     refine .i (sp_add (hlc rfl) Has.cst (i64_in (by omega))) ?_
     refine .i (v := (.int .i64 (sz30 (x.xs[j]'hlt) (deep + 1)))) (sp_call2 (φ1 := IsD (SA w S [b2_2]) (V.d (x.xs[j]'hlt))) (φ2 := Is (.int .i64 (((deep : Nat) : Int) + (1 : Int)))) ent114 (hlc rfl) (hlc rfl) (fun g u1 u2 W hk hgk h1 h2 => by have h2 : u2 = _ := h2; subst u2; exact ih (x.xs[j]'hlt) (by omega) (deep + 1) (by omega) W _ _ h1)) ?_
     refine .i (sp_add (hlc rfl) (hlc rfl) (i64_in (by omega))) ?_
     refine .i (sp_assign (hlc rfl)) ?_
     refine .done ⟨by kernel_rfl, fun a32 g W32 y32 zz32 hk hg hV hR hP => ?_⟩
     obtain ⟨e5, -, -, -, -, -, -, -, -, -, -, -⟩ := hV
     replace e1 := (hR 1 rfl).trans e1
     replace e2 := (hR 2 rfl).trans e2
     replace e7 := (hR 7 rfl).trans e7
     replace D_cn0 := D_cn0.ext hk
     replace D_ci0 := D_ci0.ext hk
     replace e5 := e5.q
     replace own_b2_2 := own_b2_2.ext hk
     replace kw := kw.x hk
     clear hR hk hg hP
     refine tail_nil (hK31 _ _ ?_)
     refine wp_seq_k fun K33 hK33 => ?_
     refine rg mixed y32 zz32 ?_
     refine .i (sp_move (hbs rfl e5)) ?_
     refine .i (sp_gtr (hlc rfl) Has.cst) ?_
     refine .done ⟨by kernel_rfl, fun a34 g W34 y34 zz34 hk hg hV hR hP => ?_⟩
     obtain ⟨e60, -, -⟩ := hV
     replace e1 := (hR 1 rfl).trans e1
     replace e2 := (hR 2 rfl).trans e2
     replace e5 := (hR 5 rfl).trans e5
     replace e7 := (hR 7 rfl).trans e7
     replace D_cn0 := D_cn0.ext hk
     replace D_ci0 := D_ci0.ext hk
     replace e60 := e60.q
     replace own_b2_2 := own_b2_2.ext hk
     replace kw := kw.x hk
     clear hR hk hg hP
     refine tail_nil (hK33 _ _ ?_)
     refine wp_cond_split e60 (fun hc => ?_) (fun hc => ?_)
     ·
      have h2 : 200 < c + sz30 (x.xs[j]'hlt) (deep + 1) := of_decide_eq_true hc
      have hfin : sz30 x deep = 1000 := by rw [hzz, hin, hst, if_pos h2]
      refine wp_seq_k fun K35 hK35 => ?_
      refine rg mixed y34 zz34 ?_
      refine .i (sp_assign Has.cst) ?_
      refine .done ⟨by kernel_rfl, fun a36 g W36 y36 zz36 hk hg hV hR hP => ?_⟩
      obtain ⟨e4, -⟩ := hV
      replace D_cn0 := D_cn0.ext hk
      replace D_ci0 := D_ci0.ext hk
      have e4 : sl a36 4 = (.int .i64 (1000)) := e4
      replace own_b2_2 := own_b2_2.ext hk
      replace kw := kw.x hk
      clear hR hk hg hP
      refine tail_nil (hK35 _ _ ?_)
      refine wp_ret ?_
      refine (show bodyPost Try.prog Try.f114 _ .ret _ _ from ret1 rfl zz36 e4 ⟨_, rfl, kw, ?_⟩)
      rw [hfin]
     ·
      have h2 : ¬ 200 < c + sz30 (x.xs[j]'hlt) (deep + 1) := of_decide_eq_false hc
      rw [hst, if_neg h2] at hin
      refine wp_skip (hK30 _ _ ?_)
      refine rg mixed y34 zz34 ?_
      refine .i (sp_move (hbs rfl e7)) ?_
      refine .i (sp_add (hlc rfl) Has.cst (i64_in (by omega))) ?_
      refine .i (sp_assign (hlc rfl)) ?_
      refine .done ⟨by kernel_rfl, fun a37 g W37 y37 zz37 hk hg hV hR hP => ?_⟩
      obtain ⟨e7, -, -, -⟩ := hV
      replace e1 := (hR 1 rfl).trans e1
      replace e2 := (hR 2 rfl).trans e2
      replace e5 := (hR 5 rfl).trans e5
      replace D_cn0 := D_cn0.ext hk
      replace D_ci0 := D_ci0.ext hk
      replace e7 := e7.q
      replace own_b2_2 := own_b2_2.ext hk
      replace kw := kw.x hk
      clear hR hk hg hP
      exact tail_nil ⟨hlt, ((c : Int) + (sz30 (x.xs[j]'hlt) (deep + 1) : Int)), y37, zz37, kw, e1, e2, (e5.trans (congrArg (Value.int .i64) (rfl))), (e7.trans (congrArg (Value.int .i64) (by simp))), own_b2_2, D_cn0, D_ci0, hin, (by omega)⟩
    ·
     have hge0 : ¬ j < x.xs.length := by simpa using hc
     have hge : j = x.xs.length := by omega
     have hfin : sz30 x deep = c := by rw [hzz, hin, hge, List.drop_length]; rfl
     refine wp_exit (hK23 _ _ ?_)
     refine wp_seq_k fun K38 hK38 => ?_
     refine rg mixed y29 zz29 ?_
     refine .i (sp_move (hbs rfl e5)) ?_
     refine .i (sp_assign (hlc rfl)) ?_
     refine .done ⟨by kernel_rfl, fun a39 g W39 y39 zz39 hk hg hV hR hP => ?_⟩
     obtain ⟨e4, -, -⟩ := hV
     replace D_cn0 := D_cn0.ext hk
     replace D_ci0 := D_ci0.ext hk
     have e4 : sl a39 4 = (.int .i64 (c)) := e4
     replace own_b2_2 := own_b2_2.ext hk
     replace kw := kw.x hk
     clear hR hk hg hP
     refine tail_nil (hK38 _ _ ?_)
     refine wp_ret ?_
     refine (show bodyPost Try.prog Try.f114 _ .ret _ _ from ret1 rfl zz39 e4 ⟨_, rfl, kw, ?_⟩)
     rw [hfin]
set_option maxRecDepth 100000 in
theorem few30_ok (l : List To) (w : World) (S : BSet) (v : Value) (hv : Rd w S (tosD l) v) : Calls Try.prog 52 #[v] w (Ret w fun u _ => u = .bool (fewB l)) := by
  have hmx : l.length ≤ maxLen := rdTos_len hv
  simp only [maxLen] at hmx
  obtain ⟨va, vc, ev, D_v⟩ := rdTos_out (rd_arg hv)
  subst ev
  refine enter Try.func52 rfl Try.ntmps52 (lbr rfl) fun a0 y0 zz0 harg => ?_
  have e0 : sl a0 0 = (.slice va (l.length) vc) := harg 0 (lbr rfl)
  have kw := Keeps.refl All w
  clear harg
  refine wp_seq_k fun K1 hK1 => ?_
  refine rg mixed y0 zz0 ?_
  refine .i (sp_assign Has.cst) ?_
  refine .done ⟨by kernel_rfl, fun a2 g W2 y2 zz2 hk hg hV hR hP => ?_⟩
  obtain ⟨-, -⟩ := hV
  replace e0 := (hR 0 rfl).trans e0
  replace D_v := D_v.ext hk
  replace kw := kw.x hk
  clear hR hk hg hP
  refine tail_nil (hK1 _ _ ?_)
  refine wp_seq_k fun K3 hK3 => ?_
  refine wp_seq_k fun K4 hK4 => ?_
  refine rg mixed y2 zz2 ?_
  refine .i (sp_move (hbs rfl e0)) ?_
  refine .i (sp_lenL Try.underlying84 ((hlc rfl).dat D_v sub_all)) ?_
  refine .i (sp_gtr (hlc rfl) Has.cst) ?_
  refine .done ⟨by kernel_rfl, fun a5 g W5 y5 zz5 hk hg hV hR hP => ?_⟩
  obtain ⟨e7, -, -, -⟩ := hV
  replace e0 := (hR 0 rfl).trans e0
  replace D_v := D_v.ext hk
  replace e7 := e7.q
  replace kw := kw.x hk
  clear hR hk hg hP
  refine tail_nil (hK4 _ _ ?_)
  refine wp_cond_split e7 (fun hc => ?_) (fun hc => ?_)
  ·
   have h14 : 14 < l.length := by have := of_decide_eq_true hc; omega
   have hfin : fewB l = false := by rw [fewB, decide_eq_false (by omega)]; rfl
   refine wp_seq_k fun K6 hK6 => ?_
   refine rg mixed y5 zz5 ?_
   refine .i (sp_assign Has.cst) ?_
   refine .done ⟨by kernel_rfl, fun a7 g W7 y7 zz7 hk hg hV hR hP => ?_⟩
   obtain ⟨e2, -⟩ := hV
   replace D_v := D_v.ext hk
   have e2 : sl a7 2 = (.bool (false)) := e2
   replace kw := kw.x hk
   clear hR hk hg hP
   refine tail_nil (hK6 _ _ ?_)
   refine wp_ret ?_
   refine (show bodyPost Try.prog Try.f52 _ .ret _ _ from ret1 rfl zz7 e2 ⟨_, rfl, kw, ?_⟩)
   rw [hfin]
  ·
   have h14 : l.length ≤ 14 := by have := of_decide_eq_false hc; omega
   refine wp_skip (hK3 _ _ ?_)
   refine wp_seq_k fun K8 hK8 => ?_
   refine wp_seq_k fun K9 hK9 => ?_
   refine rg mixed y5 zz5 ?_
   refine .i (sp_assign Has.cst) ?_
   refine .done ⟨by kernel_rfl, fun a10 g W10 y10 zz10 hk hg hV hR hP => ?_⟩
   obtain ⟨e3, -⟩ := hV
   replace e0 := (hR 0 rfl).trans e0
   replace D_v := D_v.ext hk
   have e3 : sl a10 3 = (.int .i64 (0)) := e3
   replace kw := kw.x hk
   clear hR hk hg hP
   refine tail_nil (hK9 _ _ ?_)
   refine wp_block ?_
   refine wp_for (l.length) (fun k a W => a.tmps.size = 78 ∧ a.defers = [] ∧ Keeps All w W ∧ sl a 0 = (.slice va (l.length) vc) ∧ sl a 3 = (.int .i64 ((k : Nat))) ∧ Rd W (SA w S []) (tosD (l)) (.slice va (l.length) vc) ∧ (l.any toLong = (l.drop k).any toLong)) ⟨y10, zz10, kw, e0, (e3.trans (congrArg (Value.int .i64) (rfl))), D_v, rfl⟩ ?_
   clear kw e0 e3 D_v
   rintro k a11 W11 hkk ⟨y11, zz11, kw, e0, e3, D_v, hin⟩
   refine wp_seq_k fun K12 hK12 => ?_
   refine wp_seq_k fun K13 hK13 => ?_
   refine rg mixed y11 zz11 ?_
   refine .i (sp_move (hbs rfl e3)) ?_
   refine .i (sp_move (hbs rfl e0)) ?_
   refine .i (sp_lenL Try.underlying84 ((hlc rfl).dat D_v sub_all)) ?_
   refine .i (sp_lss (hlc rfl) (hlc rfl)) ?_
   refine .done ⟨by kernel_rfl, fun a14 g W14 y14 zz14 hk hg hV hR hP => ?_⟩
   obtain ⟨e11, -, -, -, -⟩ := hV
   replace e0 := (hR 0 rfl).trans e0
   replace e3 := (hR 3 rfl).trans e3
   replace D_v := D_v.ext hk
   replace e11 := e11.q
   replace kw := kw.x hk
   clear hR hk hg hP
   refine tail_nil (hK13 _ _ ?_)
   refine wp_cond_split e11 (fun hc => ?_) (fun hc => ?_)
   ·
    have hlt : k < l.length := by simpa using hc
    have hst := any_step (p := toLong) hlt
    refine wp_skip (hK12 _ _ ?_)
    refine wp_seq_k fun K15 hK15 => ?_
    refine wp_block ?_
    refine wp_seq_k fun K16 hK16 => ?_
    refine wp_seq_k fun K17 hK17 => ?_
    refine rg mixed y14 zz14 ?_
    refine .i (sp_move (hbs rfl e0)) ?_
    refine .i (sp_move (hbs rfl e3)) ?_
    refine .rf (X := SA w S []) (e := To.d (l[k]'hlt)) (sp_indexL (i := k) ((hlc rfl).dat D_v sub_all) (hlc rfl) Try.underlying84 sz89 rfl hlt) ?_
    refine .rf (X := SA w S []) (e := D.str ((l[k]'hlt).repo)) (sp_fieldR (hlc rfl) Try.underlying89 rfl sz9 rfl (by first | rfl | simp [widths, width, hssD, width_V])) ?_
    refine .i (sp_loadStr (hlc rfl) agg9 sz9) ?_
    refine .i (sp_lenS Try.underlying9 (hlc rfl)) ?_
    refine .i (sp_gtr (hlc rfl) Has.cst) ?_
    refine .i (sp_move (hlc rfl)) ?_
    refine .e (t := 21) rfl (hlc rfl) (fun hg => sp_move (hbs rfl e0)) ?_
    refine .e (t := 21) rfl (hlc rfl) (fun hg => sp_move (hbs rfl e3)) ?_
    refine .opE (t := 21) (φ := IsR (SA w S []) (To.d (l[k]'hlt))) rfl (hlc rfl) (st_r sub_all) (fun hg => sp_indexL (i := k) (((hlc rfl).undE hg).dat D_v sub_all) ((hlc rfl).undE hg) Try.underlying84 sz89 rfl hlt) ?_
    refine .opE (t := 21) (φ := IsR (SA w S []) (Rc.d ((l[k]'hlt).r))) rfl (hlc rfl) (st_r sub_all) (fun hg => sp_fieldR ((hlc rfl).undE hg) Try.underlying89 rfl sz87 rfl (by first | rfl | simp [widths, width, hssD, width_V])) ?_
    refine .opE (t := 21) (φ := IsR (SA w S []) (hssD (((l[k]'hlt).r).hs))) rfl (hlc rfl) (st_r sub_all) (fun hg => sp_fieldR ((hlc rfl).undE hg) Try.underlying87 rfl sz85 rfl (by first | rfl | simp [widths, width, hssD, width_V])) ?_
    refine .opE (t := 21) (φ := IsD (SA w S []) (hssD (((l[k]'hlt).r).hs))) rfl (hlc rfl) (st_d sub_all) (fun hg => sp_loadR ((hlc rfl).undE hg) agg85 sz85 rfl) ?_
    refine .e (t := 21) rfl (hlc rfl) (fun hg => sp_lenL Try.underlying85 ((hlc rfl).undE hg)) ?_
    refine .e (t := 21) rfl (hlc rfl) (fun hg => sp_gtr ((hlc rfl).undE hg) Has.cst) ?_
    refine .i (sp_or (hlc rfl) ((hlc rfl).weak fun hq => hq)) ?_
    refine .i (sp_move (hlc rfl)) ?_
    refine .e (t := 31) rfl (hlc rfl) (fun hg => sp_move (hbs rfl e0)) ?_
    refine .e (t := 31) rfl (hlc rfl) (fun hg => sp_move (hbs rfl e3)) ?_
    refine .opE (t := 31) (φ := IsR (SA w S []) (To.d (l[k]'hlt))) rfl (hlc rfl) (st_r sub_all) (fun hg => sp_indexL (i := k) (((hlc rfl).undE hg).dat D_v sub_all) ((hlc rfl).undE hg) Try.underlying84 sz89 rfl hlt) ?_
    refine .opE (t := 31) (φ := IsR (SA w S []) (Rc.d ((l[k]'hlt).r))) rfl (hlc rfl) (st_r sub_all) (fun hg => sp_fieldR ((hlc rfl).undE hg) Try.underlying89 rfl sz87 rfl (by first | rfl | simp [widths, width, hssD, width_V])) ?_
    refine .opE (t := 31) (φ := IsR (SA w S []) (V.d (((l[k]'hlt).r).cu))) rfl (hlc rfl) (st_r sub_all) (fun hg => sp_fieldR ((hlc rfl).undE hg) Try.underlying87 rfl sz33 rfl (by first | rfl | simp [widths, width, hssD, width_V])) ?_
    refine .opE (t := 31) (φ := IsD (SA w S []) (V.d (((l[k]'hlt).r).cu))) rfl (hlc rfl) (st_d sub_all) (fun hg => sp_loadV ((hlc rfl).undE hg) agg33 sz33) ?_
    refine .e (t := 31) (v := (.int .i64 (sz30 (((l[k]'hlt).r).cu) 0))) rfl (hlc rfl) (fun hg => sp_call2 (φ1 := IsD (SA w S []) (V.d (((l[k]'hlt).r).cu))) (φ2 := Is (.int .i64 (0))) ent114 ((hlc rfl).undE hg) Has.cst (fun g u1 u2 W hk hgk h1 h2 => by have h2 : u2 = _ := h2; subst u2; exact size30_all _ (((l[k]'hlt).r).cu) (Nat.le_refl _) 0 (by omega) W _ _ h1)) ?_
    refine .e (t := 31) rfl (hlc rfl) (fun hg => sp_gtr ((hlc rfl).undE hg) Has.cst) ?_
    refine .i (sp_or (hlc rfl) ((hlc rfl).weak fun hq => hq)) ?_
    refine .done ⟨by kernel_rfl, fun a18 g W18 y18 zz18 hk hg hV hR hP => ?_⟩
    obtain ⟨e40, -, -, -, -, -, -, -, -, -, -, -, -, -, -, -, -, -, -, -, -, -, -, -, -, -, -, -⟩ := hV
    replace e0 := (hR 0 rfl).trans e0
    replace e3 := (hR 3 rfl).trans e3
    replace D_v := D_v.ext hk
    replace e40 := e40.q
    replace kw := kw.x hk
    clear hR hk hg hP
    refine tail_nil (hK17 _ _ ?_)
    refine wp_cond_split e40 (fun hc => ?_) (fun hc => ?_)
    ·
     have hlg : toLong (l[k]'hlt) = true := by simp only [toLong, Bool.or_eq_true]; exact .inl (by simp at hc ⊢; omega)
     have hfin : fewB l = false := by rw [fewB, hin, hst, hlg]; simp
     refine wp_seq_k fun K19 hK19 => ?_
     refine rg mixed y18 zz18 ?_
     refine .i (sp_assign Has.cst) ?_
     refine .done ⟨by kernel_rfl, fun a20 g W20 y20 zz20 hk hg hV hR hP => ?_⟩
     obtain ⟨e2, -⟩ := hV
     replace D_v := D_v.ext hk
     have e2 : sl a20 2 = (.bool (false)) := e2
     replace kw := kw.x hk
     clear hR hk hg hP
     refine tail_nil (hK19 _ _ ?_)
     refine wp_ret ?_
     refine (show bodyPost Try.prog Try.f52 _ .ret _ _ from ret1 rfl zz20 e2 ⟨_, rfl, kw, ?_⟩)
     rw [hfin]
    ·
     have hlg : ((decide (300 < (l[k]'hlt).repo.size) || decide (10 < ((l[k]'hlt).r.hs).length)) || decide (200 < sz30 (l[k]'hlt).r.cu 0)) = false := by simp at hc ⊢; omega
     have h10 : ((l[k]'hlt).r.hs).length ≤ 10 := by simp at hc; omega
     refine wp_skip (hK16 _ _ ?_)
     refine wp_seq_k fun K21 hK21 => ?_
     refine rg mixed y18 zz18 ?_
     refine .i (sp_assign Has.cst) ?_
     refine .done ⟨by kernel_rfl, fun a22 g W22 y22 zz22 hk hg hV hR hP => ?_⟩
     obtain ⟨e4, -⟩ := hV
     replace e0 := (hR 0 rfl).trans e0
     replace e3 := (hR 3 rfl).trans e3
     replace D_v := D_v.ext hk
     have e4 : sl a22 4 = (.int .i64 (0)) := e4
     replace kw := kw.x hk
     clear hR hk hg hP
     refine tail_nil (hK21 _ _ ?_)
     refine wp_block ?_
     refine wp_for (((l[k]'hlt).r.hs).length) (fun j a W => a.tmps.size = 78 ∧ a.defers = [] ∧ Keeps All w W ∧ sl a 0 = (.slice va (l.length) vc) ∧ sl a 3 = (.int .i64 ((k : Nat))) ∧ sl a 4 = (.int .i64 ((j : Nat))) ∧ Rd W (SA w S []) (tosD (l)) (.slice va (l.length) vc) ∧ (((l[k]'hlt).r.hs).any hsLong = (((l[k]'hlt).r.hs).drop j).any hsLong)) ⟨y22, zz22, kw, e0, e3, (e4.trans (congrArg (Value.int .i64) (rfl))), D_v, rfl⟩ ?_
     clear kw e0 e3 e4 D_v
     rintro j a23 W23 hkj ⟨y23, zz23, kw, e0, e3, e4, D_v, hin2⟩
     refine wp_seq_k fun K24 hK24 => ?_
     refine wp_seq_k fun K25 hK25 => ?_
     refine rg mixed y23 zz23 ?_
     refine .i (sp_move (hbs rfl e4)) ?_
     refine .i (sp_move (hbs rfl e0)) ?_
     refine .i (sp_move (hbs rfl e3)) ?_
     refine .rf (X := SA w S []) (e := To.d (l[k]'hlt)) (sp_indexL (i := k) ((hlc rfl).dat D_v sub_all) (hlc rfl) Try.underlying84 sz89 rfl hlt) ?_
     refine .rf (X := SA w S []) (e := Rc.d ((l[k]'hlt).r)) (sp_fieldR (hlc rfl) Try.underlying89 rfl sz87 rfl (by first | rfl | simp [widths, width, hssD, width_V])) ?_
     refine .rf (X := SA w S []) (e := hssD (((l[k]'hlt).r).hs)) (sp_fieldR (hlc rfl) Try.underlying87 rfl sz85 rfl (by first | rfl | simp [widths, width, hssD, width_V])) ?_
     refine .da (X := SA w S []) (e := hssD (((l[k]'hlt).r).hs)) (sp_loadR (hlc rfl) agg85 sz85 rfl) ?_
     refine .i (sp_lenL Try.underlying85 (hlc rfl)) ?_
     refine .i (sp_lss (hlc rfl) (hlc rfl)) ?_
     refine .done ⟨by kernel_rfl, fun a26 g W26 y26 zz26 hk hg hV hR hP => ?_⟩
     obtain ⟨e49, -, -, -, -, -, -, -, -, -⟩ := hV
     replace e0 := (hR 0 rfl).trans e0
     replace e3 := (hR 3 rfl).trans e3
     replace e4 := (hR 4 rfl).trans e4
     replace D_v := D_v.ext hk
     replace e49 := e49.q
     replace kw := kw.x hk
     clear hR hk hg hP
     refine tail_nil (hK25 _ _ ?_)
     refine wp_cond_split e49 (fun hc => ?_) (fun hc => ?_)
     ·
      have hltj : j < ((l[k]'hlt).r.hs).length := by have := of_decide_eq_true hc; omega
      have hst2 := any_step (p := hsLong) hltj
      refine wp_skip (hK24 _ _ ?_)
      refine wp_seq_k fun K27 hK27 => ?_
      refine wp_block ?_
      refine wp_seq_k fun K28 hK28 => ?_
      refine rg mixed y26 zz26 ?_
      refine .i (sp_move (hbs rfl e0)) ?_
      refine .i (sp_move (hbs rfl e3)) ?_
      refine .rf (X := SA w S []) (e := To.d (l[k]'hlt)) (sp_indexL (i := k) ((hlc rfl).dat D_v sub_all) (hlc rfl) Try.underlying84 sz89 rfl hlt) ?_
      refine .rf (X := SA w S []) (e := Rc.d ((l[k]'hlt).r)) (sp_fieldR (hlc rfl) Try.underlying89 rfl sz87 rfl (by first | rfl | simp [widths, width, hssD, width_V])) ?_
      refine .rf (X := SA w S []) (e := hssD (((l[k]'hlt).r).hs)) (sp_fieldR (hlc rfl) Try.underlying87 rfl sz85 rfl (by first | rfl | simp [widths, width, hssD, width_V])) ?_
      refine .da (X := SA w S []) (e := hssD (((l[k]'hlt).r).hs)) (sp_loadR (hlc rfl) agg85 sz85 rfl) ?_
      refine .i (sp_move (hbs rfl e4)) ?_
      refine .rf (X := SA w S []) (e := Hs.d ((((l[k]'hlt).r).hs)[j]'(by assumption))) (sp_indexL (i := j) (hlc rfl) (hlc rfl) Try.underlying85 sz114 rfl (by assumption)) ?_
      refine .rf (X := SA w S []) (e := D.str (((((l[k]'hlt).r).hs)[j]'(by assumption)).al)) (sp_fieldR (hlc rfl) Try.underlying114 rfl sz9 rfl (by first | rfl | simp [widths, width, hssD, width_V])) ?_
      refine .i (sp_loadStr (hlc rfl) agg9 sz9) ?_
      refine .i (sp_lenS Try.underlying9 (hlc rfl)) ?_
      refine .i (sp_gtr (hlc rfl) Has.cst) ?_
      refine .i (sp_move (hlc rfl)) ?_
      refine .e (t := 64) rfl (hlc rfl) (fun hg => sp_move (hbs rfl e0)) ?_
      refine .e (t := 64) rfl (hlc rfl) (fun hg => sp_move (hbs rfl e3)) ?_
      refine .opE (t := 64) (φ := IsR (SA w S []) (To.d (l[k]'hlt))) rfl (hlc rfl) (st_r sub_all) (fun hg => sp_indexL (i := k) (((hlc rfl).undE hg).dat D_v sub_all) ((hlc rfl).undE hg) Try.underlying84 sz89 rfl hlt) ?_
      refine .opE (t := 64) (φ := IsR (SA w S []) (Rc.d ((l[k]'hlt).r))) rfl (hlc rfl) (st_r sub_all) (fun hg => sp_fieldR ((hlc rfl).undE hg) Try.underlying89 rfl sz87 rfl (by first | rfl | simp [widths, width, hssD, width_V])) ?_
      refine .opE (t := 64) (φ := IsR (SA w S []) (hssD (((l[k]'hlt).r).hs))) rfl (hlc rfl) (st_r sub_all) (fun hg => sp_fieldR ((hlc rfl).undE hg) Try.underlying87 rfl sz85 rfl (by first | rfl | simp [widths, width, hssD, width_V])) ?_
      refine .opE (t := 64) (φ := IsD (SA w S []) (hssD (((l[k]'hlt).r).hs))) rfl (hlc rfl) (st_d sub_all) (fun hg => sp_loadR ((hlc rfl).undE hg) agg85 sz85 rfl) ?_
      refine .e (t := 64) rfl (hlc rfl) (fun hg => sp_move (hbs rfl e4)) ?_
      refine .opE (t := 64) (φ := IsR (SA w S []) (Hs.d ((((l[k]'hlt).r).hs)[j]'(by assumption)))) rfl (hlc rfl) (st_r sub_all) (fun hg => sp_indexL (i := j) ((hlc rfl).undE hg) ((hlc rfl).undE hg) Try.underlying85 sz114 rfl (by assumption)) ?_
      refine .opE (t := 64) (φ := IsR (SA w S []) (D.str (((((l[k]'hlt).r).hs)[j]'(by assumption)).hx))) rfl (hlc rfl) (st_r sub_all) (fun hg => sp_fieldR ((hlc rfl).undE hg) Try.underlying114 rfl sz9 rfl (by first | rfl | simp [widths, width, hssD, width_V])) ?_
      refine .e (t := 64) rfl (hlc rfl) (fun hg => sp_loadStr ((hlc rfl).undE hg) agg9 sz9) ?_
      refine .e (t := 64) rfl (hlc rfl) (fun hg => sp_lenS Try.underlying9 ((hlc rfl).undE hg)) ?_
      refine .e (t := 64) rfl (hlc rfl) (fun hg => sp_gtr ((hlc rfl).undE hg) Has.cst) ?_
      refine .i (sp_or (hlc rfl) ((hlc rfl).weak fun hq => hq)) ?_
      refine .done ⟨by kernel_rfl, fun a29 g W29 y29 zz29 hk hg hV hR hP => ?_⟩
      obtain ⟨e77, -, -, -, -, -, -, -, -, -, -, -, -, -, -, -, -, -, -, -, -, -, -, -, -, -, -⟩ := hV
      replace e0 := (hR 0 rfl).trans e0
      replace e3 := (hR 3 rfl).trans e3
      replace e4 := (hR 4 rfl).trans e4
      replace D_v := D_v.ext hk
      replace e77 := e77.q
      replace kw := kw.x hk
      clear hR hk hg hP
      refine tail_nil (hK28 _ _ ?_)
      refine wp_cond_split e77 (fun hc => ?_) (fun hc => ?_)
      ·
       have hh : hsLong (((l[k]'hlt).r.hs)[j]'hltj) = true := by simp only [hsLong]; simp at hc ⊢; omega
       have hlg2 : toLong (l[k]'hlt) = true := by rw [toLong, hin2, hst2, hh]; simp
       have hfin : fewB l = false := by rw [fewB, hin, hst, hlg2]; simp
       refine wp_seq_k fun K30 hK30 => ?_
       refine rg mixed y29 zz29 ?_
       refine .i (sp_assign Has.cst) ?_
       refine .done ⟨by kernel_rfl, fun a31 g W31 y31 zz31 hk hg hV hR hP => ?_⟩
       obtain ⟨e2, -⟩ := hV
       replace D_v := D_v.ext hk
       have e2 : sl a31 2 = (.bool (false)) := e2
       replace kw := kw.x hk
       clear hR hk hg hP
       refine tail_nil (hK30 _ _ ?_)
       refine wp_ret ?_
       refine (show bodyPost Try.prog Try.f52 _ .ret _ _ from ret1 rfl zz31 e2 ⟨_, rfl, kw, ?_⟩)
       rw [hfin]
      ·
       have hh : hsLong (((l[k]'hlt).r.hs)[j]'hltj) = false := by simp only [hsLong]; simp at hc ⊢; omega
       rw [hst2, hh, Bool.false_or] at hin2
       refine wp_skip (hK27 _ _ ?_)
       refine rg mixed y29 zz29 ?_
       refine .i (sp_move (hbs rfl e4)) ?_
       refine .i (sp_add (hlc rfl) Has.cst (i64_in (by omega))) ?_
       refine .i (sp_assign (hlc rfl)) ?_
       refine .done ⟨by kernel_rfl, fun a32 g W32 y32 zz32 hk hg hV hR hP => ?_⟩
       obtain ⟨e4, -, -, -⟩ := hV
       replace e0 := (hR 0 rfl).trans e0
       replace e3 := (hR 3 rfl).trans e3
       replace D_v := D_v.ext hk
       replace e4 := e4.q
       replace kw := kw.x hk
       clear hR hk hg hP
       exact tail_nil ⟨hltj, y32, zz32, kw, e0, e3, (e4.trans (congrArg (Value.int .i64) (by simp))), D_v, hin2⟩
     ·
      have hgej : ((l[k]'hlt).r.hs).length ≤ j := by have := of_decide_eq_false hc; omega
      have hlf : toLong (l[k]'hlt) = false := by rw [toLong, hlg, hin2, List.drop_eq_nil_of_le hgej]; rfl
      rw [hst, hlf, Bool.false_or] at hin
      refine wp_exit (hK15 _ _ ?_)
      refine rg mixed y26 zz26 ?_
      refine .i (sp_move (hbs rfl e3)) ?_
      refine .i (sp_add (hlc rfl) Has.cst (i64_in (by omega))) ?_
      refine .i (sp_assign (hlc rfl)) ?_
      refine .done ⟨by kernel_rfl, fun a33 g W33 y33 zz33 hk hg hV hR hP => ?_⟩
      obtain ⟨e3, -, -, -⟩ := hV
      replace e0 := (hR 0 rfl).trans e0
      replace D_v := D_v.ext hk
      replace e3 := e3.q
      replace kw := kw.x hk
      clear hR hk hg hP
      exact tail_nil ⟨hlt, y33, zz33, kw, e0, (e3.trans (congrArg (Value.int .i64) (by simp))), D_v, hin⟩
   ·
    have hge0 : ¬ k < l.length := by simpa using hc
    have hge : k = l.length := by omega
    have hfin : fewB l = true := by rw [fewB, hin, hge, List.drop_length]; simp [h14]
    refine wp_exit (hK8 _ _ ?_)
    refine wp_seq_k fun K34 hK34 => ?_
    refine rg mixed y14 zz14 ?_
    refine .i (sp_assign Has.cst) ?_
    refine .done ⟨by kernel_rfl, fun a35 g W35 y35 zz35 hk hg hV hR hP => ?_⟩
    obtain ⟨e2, -⟩ := hV
    replace D_v := D_v.ext hk
    have e2 : sl a35 2 = (.bool (true)) := e2
    replace kw := kw.x hk
    clear hR hk hg hP
    refine tail_nil (hK34 _ _ ?_)
    refine wp_ret ?_
    refine (show bodyPost Try.prog Try.f52 _ .ret _ _ from ret1 rfl zz35 e2 ⟨_, rfl, kw, ?_⟩)
    rw [hfin]
end Go.Proofs.Ytnobijngkpflcaa
