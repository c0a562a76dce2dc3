/-
  The law VoteOnce of package legatelaw30 returns true for every input, and leaves its arguments as they were. No condition beyond the row's own.
-/
import Derived.Test.YtnobijngkpflcaaVo3
import Derived.KernelRfl
namespace Go.Proofs.Ytnobijngkpflcaa
open Go.Eng
set_option maxRecDepth 100000 in
theorem cloneH_ok (l : List Hs) (hn : l.length ≤ 1073741824) (w : World) (S : BSet) (v : Value) (hv : Rd w S (hssD l) v) : Calls Try.prog 147 #[v] w (Ret w fun u W => Rd W (Fr w) (hssD l) u) := by
  obtain ⟨va, vc, ev, D_v⟩ := rdHss_out (rd_arg hv)
  subst ev
  refine enter Try.func147 rfl Try.ntmps147 (lbr rfl) fun a0 y0 zz0 harg => ?_
  have e0 : sl a0 0 = (.slice va (l.length) vc) := harg 0 (lbr rfl)
  have kw := Keeps.refl All w
  clear harg
  refine wp_seq_k fun K1 hK1 => ?_
  refine rg mixed y0 zz0 ?_
  refine .i (sp_assign Has.cst) ?_
  refine .done ⟨by kernel_rfl, fun a2 g W2 y2 zz2 hk hg hV hR hP => ?_⟩
  obtain ⟨-, -⟩ := hV
  replace e0 := (hR 0 rfl).trans e0
  replace D_v := D_v.ext hk
  replace kw := kw.x hk
  clear hR hk hg hP
  refine tail_nil (hK1 _ _ ?_)
  refine wp_seq_k fun K3 hK3 => ?_
  refine wp_seq_k fun K4 hK4 => ?_
  refine rg mixed y2 zz2 ?_
  refine .i (sp_move (hbs rfl e0)) ?_
  refine .i (v := (.bool (va.isNone))) (sp_slNil Try.underlying85 (hlc rfl) Has.cst) ?_
  refine .done ⟨by kernel_rfl, fun a5 g W5 y5 zz5 hk hg hV hR hP => ?_⟩
  obtain ⟨e4, -, -⟩ := hV
  replace e0 := (hR 0 rfl).trans e0
  replace D_v := D_v.ext hk
  have e4 : sl a5 4 = (.bool (va.isNone)) := e4
  replace kw := kw.x hk
  clear hR hk hg hP
  refine tail_nil (hK4 _ _ ?_)
  refine wp_cond_split e4 (fun hc => ?_) (fun hc => ?_)
  ·
   have hns : l = [] := by simpa using rd_none (ds := l.map Hs.d) D_v hc
   subst hns
   refine wp_seq_k fun K6 hK6 => ?_
   refine rg mixed y5 zz5 ?_
   refine .i (sp_assign Has.cst) ?_
   refine .done ⟨by kernel_rfl, fun a7 g W7 y7 zz7 hk hg hV hR hP => ?_⟩
   obtain ⟨e2, -⟩ := hV
   replace D_v := D_v.ext hk
   have e2 : sl a7 2 = (.slice none 0 0) := e2
   replace kw := kw.x hk
   clear hR hk hg hP
   refine tail_nil (hK6 _ _ ?_)
   refine wp_ret ?_
   refine (show bodyPost Try.prog Try.f147 _ .ret _ _ from ret1 rfl zz7 e2 ⟨_, rfl, kw, ?_⟩)
   exact rd_nil _
  ·
   refine wp_skip (hK3 _ _ ?_)
   refine wp_seq_k fun K8 hK8 => ?_
   refine rg mixed y5 zz5 ?_
   refine .op (φ := IsE 114) st_e (sp_bslE Try.underlying85 sz114) ?_
   refine .i (sp_move (hbs rfl e0)) ?_
   refine .da (X := SF w []) (e := hssD (l)) (sp_appH Try.underlying85 inf114 (hlc rfl) ((hlc rfl).dat D_v sub_all) (by omega) (by omega) (fr_sf kw in_nil)) ?_
   refine .da (X := SF w []) (e := hssD (l)) (sp_assign (hlc rfl)) ?_
   refine .done ⟨by kernel_rfl, fun a9 g W9 y9 zz9 hk hg hV hR hP => ?_⟩
   obtain ⟨e2, -, -, -, -⟩ := hV
   replace D_v := D_v.ext hk
   obtain ⟨v2_9, ev⟩ : ∃ v, sl a9 2 = v := ⟨_, rfl⟩
   rw [ev] at e2
   have D_v2_9 : Rd W9 (SF w []) (hssD (l)) v2_9 := sf_end e2 hk [] in_nil
   replace e2 := ev; clear ev
   obtain ⟨v2_9a, v2_9c, ev, D2⟩ := rdHss_out D_v2_9
   subst ev; replace D_v2_9 := D2; clear D2
   replace kw := kw.x hk
   clear hR hk hg hP
   refine tail_nil (hK8 _ _ ?_)
   refine wp_ret ?_
   refine (show bodyPost Try.prog Try.f147 _ .ret _ _ from ret1 rfl zz9 e2 ⟨_, rfl, kw, ?_⟩)
   exact sf_fr D_v2_9
set_option maxRecDepth 100000 in
theorem CopyR_ok (r : Rc) (hcu : r.cu.wt ≤ 1073741824) (hn : r.hs.length ≤ 1073741824) (w : World) (S : BSet) (v : Value) (hS : ∀ b o, S b o → Cln o) (hv : Rd w S r.d v) : Calls Try.prog 117 #[v] w (Ret w fun u W => Rd W (Fr w) (Rc.d r) u) := by
  obtain ⟨p0_1a, p0_1c, p0_5a, p0_5c, p0_6a, p0_6c, ev, hb_p0_4, D_p0_1, D_p0_5, D_p0_6⟩ := rdRc_out (rd_arg hv)
  subst ev
  refine enter Try.func117 rfl Try.ntmps117 (lbr rfl) fun a0 y0 zz0 harg => ?_
  have e0 : sl a0 0 = (.agg #[(.int .i64 (r.ln)), (.slice p0_1a (r.hs.length) p0_1c), (.int .u8 (r.cu.k)), (.int .i64 (r.cu.n)), (.string (r.cu.t)), (.slice p0_5a (r.cu.ns.length) p0_5c), (.slice p0_6a (r.cu.xs.length) p0_6c)]) := harg 0 (lbr rfl)
  have kw := Keeps.refl All w
  clear harg
  refine wp_seq_k fun K1 hK1 => ?_
  refine rg mixed y0 zz0 ?_
  refine .boxOp (v := (.agg #[(.int .i64 (r.ln)), (.slice p0_1a (r.hs.length) p0_1c), (.int .u8 (r.cu.k)), (.int .i64 (r.cu.n)), (.string (r.cu.t)), (.slice p0_5a (r.cu.ns.length) p0_5c), (.slice p0_6a (r.cu.xs.length) p0_6c)])) (hbs rfl e0) ?_
  refine .alloc z87 ?_
  refine .done ⟨by kernel_rfl, fun a2 g W2 y2 zz2 hk hg hV hR hP => ?_⟩
  obtain ⟨⟨b2_2, e2, hb2, own_b2_2⟩, ⟨b1_2, e1, hb1, own_b1_2⟩, -⟩ := hV
  have lo_b2_2 : w.heap.size ≤ b2_2 := Nat.le_trans kw.size (hg.lo _ _ hb2)
  have own_b2_2 : Own W2 b2_2 [(.int .i64 (0)), (.slice none 0 0), (.int .u8 (0)), (.int .i64 (0)), (.string (⟨#[]⟩)), (.slice none 0 0), (.slice none 0 0)] 87 := own_b2_2
  have lo_b1_2 : w.heap.size ≤ b1_2 := Nat.le_trans kw.size (hg.lo _ _ hb1)
  have own_b1_2 : Own W2 b1_2 [(.int .i64 (r.ln)), (.slice p0_1a (r.hs.length) p0_1c), (.int .u8 (r.cu.k)), (.int .i64 (r.cu.n)), (.string (r.cu.t)), (.slice p0_5a (r.cu.ns.length) p0_5c), (.slice p0_6a (r.cu.xs.length) p0_6c)] 87 := own_b1_2
  have ne_b2_2_b1_2 : b2_2 ≠ b1_2 := fun h => by have := hg.inj _ _ _ hb2 (h ▸ hb1); cases this
  replace D_p0_1 := sa_more D_p0_1 hk [b2_2, b1_2] (in_cons (hg.lo _ _ hb2) (in_cons (hg.lo _ _ hb1) in_nil))
  replace D_p0_5 := sa_more D_p0_5 hk [b2_2, b1_2] (in_cons (hg.lo _ _ hb2) (in_cons (hg.lo _ _ hb1) in_nil))
  replace D_p0_6 := sa_more D_p0_6 hk [b2_2, b1_2] (in_cons (hg.lo _ _ hb2) (in_cons (hg.lo _ _ hb1) in_nil))
  replace kw := kw.x hk
  clear hR hk hg hP hb2 hb1
  refine tail_nil (hK1 _ _ ?_)
  refine wp_seq_k fun K3 hK3 => ?_
  refine rg mixed y2 zz2 ?_
  refine .i (fo 0 (hbs rfl e1) Try.underlying87 rfl sz2 rfl) ?_
  refine .i (lo1 (hlc rfl) own_b1_2 trivial agg2 sz2 rfl) ?_
  refine .i (fo 1 (hbs rfl e1) Try.underlying87 rfl sz85 rfl) ?_
  refine .i (lo1 (hlc rfl) own_b1_2 trivial agg85 sz85 rfl) ?_
  refine .da (X := Fr W2) (e := hssD (r.hs)) (sp_call1 (φ1 := IsD (SA w S [b2_2, b1_2]) (hssD (r.hs))) ent147 ((hlc rfl).dat D_p0_1 sub_all) (fun g u1 W hk hgk h1 => (cloneH_ok (r.hs) (by omega) W _ _ h1).mono (ret_fr hk hgk))) ?_
  refine .i (fo 2 (hbs rfl e1) Try.underlying87 rfl sz33 rfl) ?_
  refine .i (v := (.agg #[(.int .u8 (r.cu.k)), (.int .i64 (r.cu.n)), (.string (r.cu.t)), (.slice p0_5a (r.cu.ns.length) p0_5c), (.slice p0_6a (r.cu.xs.length) p0_6c)])) (loA (hlc rfl) own_b1_2 trivial agg33 sz33 rfl rfl) ?_
  refine .da (X := Fr W2) (e := V.d (r.cu)) (sp_call1 (φ1 := IsD (SA w S [b2_2, b1_2]) (V.d (r.cu))) ent79 ((hlc rfl).dat (rdV_in (x := r.cu) hb_p0_4 D_p0_5 D_p0_6 : Rd W2 (SA w S [b2_2, b1_2]) (V.d (r.cu)) _) sub_all) (fun g u1 W hk hgk h1 => (Copy_ok (r.cu) (by first | omega | exact Nat.le_of_ble_eq_true (by kernel_rfl)) W _ _ (fun b o h => sa_cln hS b o h.1) h1).mono (ret_fr hk hgk))) ?_
  refine .da (X := Fr W2) (e := Rc.d (Rc.mk (r.ln) (r.hs) (r.cu))) (sp_buildD (zd := [D.int .i64 0, hssD [], V.d V.zero]) (es := [(0, D.int .i64 (r.ln)), (1, hssD (r.hs)), (2, V.d (r.cu))]) Try.underlying87 z87 (pl87 Try.underlying87) ⟨rfl, (hlc rfl).int, ⟨rfl, (hlc rfl), ⟨rfl, (hlc rfl), trivial⟩⟩⟩ zRc (by first | rfl | simp [plOf, width, width_V, hssD]) (by simp [fits, width, strsD, valsD, hssD, width_V]) rfl) ?_
  refine .done ⟨by kernel_rfl, fun a4 g W4 y4 zz4 hk hg hV hR hP => ?_⟩
  obtain ⟨e11, -, -, -, -, -, -, -, -, -⟩ := hV
  replace e2 := (hR 2 rfl).trans e2
  replace D_p0_1 := D_p0_1.ext hk
  replace D_p0_5 := D_p0_5.ext hk
  replace D_p0_6 := D_p0_6.ext hk
  obtain ⟨v11_4, ev⟩ : ∃ v, sl a4 11 = v := ⟨_, rfl⟩
  rw [ev] at e11
  have D_v11_4 : Rd W4 (SF w [b2_2, b1_2]) (Rc.d (Rc.mk (r.ln) (r.hs) (r.cu))) v11_4 := fr_end (M := [b2_2, b1_2]) e11 kw [] in_nil (in_cons own_b2_2.lt (in_cons own_b1_2.lt in_nil))
  replace e11 := ev; clear ev
  obtain ⟨v11_4_1a, v11_4_1c, v11_4_5a, v11_4_5c, v11_4_6a, v11_4_6c, ev, hb_v11_4_4, D_v11_4_1, D_v11_4_5, D_v11_4_6⟩ := rdRc_out D_v11_4
  subst ev; clear D_v11_4
  replace own_b2_2 := own_b2_2.ext hk
  replace own_b1_2 := own_b1_2.ext hk
  replace kw := kw.x hk
  clear hR hk hg hP
  refine tail_store (b := b2_2) (o := 0) (v := (.agg #[(.int .i64 ((Rc.mk (r.ln) (r.hs) (r.cu)).ln)), (.slice v11_4_1a (((Rc.mk (r.ln) (r.hs) (r.cu)).hs).length) v11_4_1c), (.int .u8 ((Rc.mk (r.ln) (r.hs) (r.cu)).cu.k)), (.int .i64 ((Rc.mk (r.ln) (r.hs) (r.cu)).cu.n)), (.string ((Rc.mk (r.ln) (r.hs) (r.cu)).cu.t)), (.slice v11_4_5a (((Rc.mk (r.ln) (r.hs) (r.cu)).cu.ns).length) v11_4_5c), (.slice v11_4_6a (((Rc.mk (r.ln) (r.hs) (r.cu)).cu.xs).length) v11_4_6c)])) e2 e11 sz87 rfl own_b2_2 (lbr rfl) (all_cons rfl (all_cons rfl (all_cons rfl (all_cons rfl (all_cons rfl (all_cons rfl (all_cons rfl all_nil))))))) (fun W5 hs own_b2_2 => ?_)
  have own_b2_2 : Own W5 b2_2 [(.int .i64 ((Rc.mk (r.ln) (r.hs) (r.cu)).ln)), (.slice v11_4_1a (((Rc.mk (r.ln) (r.hs) (r.cu)).hs).length) v11_4_1c), (.int .u8 ((Rc.mk (r.ln) (r.hs) (r.cu)).cu.k)), (.int .i64 ((Rc.mk (r.ln) (r.hs) (r.cu)).cu.n)), (.string ((Rc.mk (r.ln) (r.hs) (r.cu)).cu.t)), (.slice v11_4_5a (((Rc.mk (r.ln) (r.hs) (r.cu)).cu.ns).length) v11_4_5c), (.slice v11_4_6a (((Rc.mk (r.ln) (r.hs) (r.cu)).cu.xs).length) v11_4_6c)] 87 := own_b2_2
  replace own_b1_2 := own_store own_b1_2 hs ne_b2_2_b1_2.symm
  replace D_p0_1 := sa_store D_p0_1 hs (by simp)
  replace D_p0_5 := sa_store D_p0_5 hs (by simp)
  replace D_p0_6 := sa_store D_p0_6 hs (by simp)
  replace D_v11_4_1 := sf_store D_v11_4_1 hs (by simp)
  replace D_v11_4_5 := sf_store D_v11_4_5 hs (by simp)
  replace D_v11_4_6 := sf_store D_v11_4_6 hs (by simp)
  replace kw := keeps_store kw hs lo_b2_2
  clear hs
  refine tail_nil (hK3 _ _ ?_)
  refine wp_ret ?_
  refine (show bodyPost Try.prog Try.f117 _ .ret _ _ from retC (v := (.agg #[(.int .i64 ((Rc.mk (r.ln) (r.hs) (r.cu)).ln)), (.slice v11_4_1a (((Rc.mk (r.ln) (r.hs) (r.cu)).hs).length) v11_4_1c), (.int .u8 ((Rc.mk (r.ln) (r.hs) (r.cu)).cu.k)), (.int .i64 ((Rc.mk (r.ln) (r.hs) (r.cu)).cu.n)), (.string ((Rc.mk (r.ln) (r.hs) (r.cu)).cu.t)), (.slice v11_4_5a (((Rc.mk (r.ln) (r.hs) (r.cu)).cu.ns).length) v11_4_5c), (.slice v11_4_6a (((Rc.mk (r.ln) (r.hs) (r.cu)).cu.xs).length) v11_4_6c)])) rfl zz4 e2 own_b2_2 agg87 sz87 rfl (fun h => by cases h) rfl ⟨_, rfl, kw, ?_⟩)
  exact sf_fr (rdRc_mk D_v11_4_1 (rdV_in (x := (Rc.mk (r.ln) (r.hs) (r.cu)).cu) hb_v11_4_4 D_v11_4_5 D_v11_4_6 : Rd W5 (SF w [b2_2, b1_2]) (V.d ((Rc.mk (r.ln) (r.hs) (r.cu)).cu)) _) : Rd W5 (SF w [b2_2, b1_2]) (Rc.d ((Rc.mk (r.ln) (r.hs) (r.cu)))) _)
set_option maxRecDepth 100000 in
theorem sameVo_ok (p : Vo) (q : Rc) (hp : p.r.cu.wt ≤ 1073741824) (hq : q.cu.wt ≤ 1073741824) (w : World) (S : BSet) (v u : Value) (hS : ∀ b o, S b o → Cln o) (hv : Rd w S p.d v) (hu : Rd w S q.d u) : Calls Try.prog 119 #[v, u] w (Ret w fun r _ => r = .bool (sameVo p q)) := by
  obtain ⟨p0_1a, p0_1c, p0_5a, p0_5c, p0_6a, p0_6c, ev, hb_p0_4, hb_p0_7, D_p0_1, D_p0_5, D_p0_6⟩ := rdVo_out (rd_arg hv)
  subst ev
  obtain ⟨p1_1a, p1_1c, p1_5a, p1_5c, p1_6a, p1_6c, ev, hb_p1_4, D_p1_1, D_p1_5, D_p1_6⟩ := rdRc_out (rd_arg hu)
  subst ev
  refine enter Try.func119 rfl Try.ntmps119 (lbr rfl) fun a0 y0 zz0 harg => ?_
  have e0 : sl a0 0 = (.agg #[(.int .i64 (p.r.ln)), (.slice p0_1a (p.r.hs.length) p0_1c), (.int .u8 (p.r.cu.k)), (.int .i64 (p.r.cu.n)), (.string (p.r.cu.t)), (.slice p0_5a (p.r.cu.ns.length) p0_5c), (.slice p0_6a (p.r.cu.xs.length) p0_6c), (.string (p.repo))]) := harg 0 (lbr rfl)
  have e1 : sl a0 1 = (.agg #[(.int .i64 (q.ln)), (.slice p1_1a (q.hs.length) p1_1c), (.int .u8 (q.cu.k)), (.int .i64 (q.cu.n)), (.string (q.cu.t)), (.slice p1_5a (q.cu.ns.length) p1_5c), (.slice p1_6a (q.cu.xs.length) p1_6c)]) := harg 1 (lbr rfl)
  have kw := Keeps.refl All w
  clear harg
  refine wp_seq_k fun K1 hK1 => ?_
  refine rg mixed y0 zz0 ?_
  refine .boxOp (v := (.agg #[(.int .i64 (p.r.ln)), (.slice p0_1a (p.r.hs.length) p0_1c), (.int .u8 (p.r.cu.k)), (.int .i64 (p.r.cu.n)), (.string (p.r.cu.t)), (.slice p0_5a (p.r.cu.ns.length) p0_5c), (.slice p0_6a (p.r.cu.xs.length) p0_6c), (.string (p.repo))])) (hbs rfl e0) ?_
  refine .boxOp (v := (.agg #[(.int .i64 (q.ln)), (.slice p1_1a (q.hs.length) p1_1c), (.int .u8 (q.cu.k)), (.int .i64 (q.cu.n)), (.string (q.cu.t)), (.slice p1_5a (q.cu.ns.length) p1_5c), (.slice p1_6a (q.cu.xs.length) p1_6c)])) (hbs rfl e1) ?_
  refine .i (sp_assign Has.cst) ?_
  refine .done ⟨by kernel_rfl, fun a2 g W2 y2 zz2 hk hg hV hR hP => ?_⟩
  obtain ⟨-, ⟨b3_2, e3, hb3, own_b3_2⟩, ⟨b2_2, e2, hb2, own_b2_2⟩, -⟩ := hV
  have lo_b3_2 : w.heap.size ≤ b3_2 := Nat.le_trans kw.size (hg.lo _ _ hb3)
  have own_b3_2 : Own W2 b3_2 [(.int .i64 (q.ln)), (.slice p1_1a (q.hs.length) p1_1c), (.int .u8 (q.cu.k)), (.int .i64 (q.cu.n)), (.string (q.cu.t)), (.slice p1_5a (q.cu.ns.length) p1_5c), (.slice p1_6a (q.cu.xs.length) p1_6c)] 87 := own_b3_2
  have lo_b2_2 : w.heap.size ≤ b2_2 := Nat.le_trans kw.size (hg.lo _ _ hb2)
  have own_b2_2 : Own W2 b2_2 [(.int .i64 (p.r.ln)), (.slice p0_1a (p.r.hs.length) p0_1c), (.int .u8 (p.r.cu.k)), (.int .i64 (p.r.cu.n)), (.string (p.r.cu.t)), (.slice p0_5a (p.r.cu.ns.length) p0_5c), (.slice p0_6a (p.r.cu.xs.length) p0_6c), (.string (p.repo))] 156 := own_b2_2
  have ne_b3_2_b2_2 : b3_2 ≠ b2_2 := fun h => by have := hg.inj _ _ _ hb3 (h ▸ hb2); cases this
  replace D_p0_1 := sa_more D_p0_1 hk [b3_2, b2_2] (in_cons (hg.lo _ _ hb3) (in_cons (hg.lo _ _ hb2) in_nil))
  replace D_p0_5 := sa_more D_p0_5 hk [b3_2, b2_2] (in_cons (hg.lo _ _ hb3) (in_cons (hg.lo _ _ hb2) in_nil))
  replace D_p0_6 := sa_more D_p0_6 hk [b3_2, b2_2] (in_cons (hg.lo _ _ hb3) (in_cons (hg.lo _ _ hb2) in_nil))
  replace D_p1_1 := sa_more D_p1_1 hk [b3_2, b2_2] (in_cons (hg.lo _ _ hb3) (in_cons (hg.lo _ _ hb2) in_nil))
  replace D_p1_5 := sa_more D_p1_5 hk [b3_2, b2_2] (in_cons (hg.lo _ _ hb3) (in_cons (hg.lo _ _ hb2) in_nil))
  replace D_p1_6 := sa_more D_p1_6 hk [b3_2, b2_2] (in_cons (hg.lo _ _ hb3) (in_cons (hg.lo _ _ hb2) in_nil))
  replace kw := kw.x hk
  clear hR hk hg hP hb3 hb2
  refine tail_nil (hK1 _ _ ?_)
  refine wp_seq_k fun K3 hK3 => ?_
  refine rg mixed y2 zz2 ?_
  refine .i (fo 0 (hbs rfl e2) Try.underlying156 rfl sz87 rfl) ?_
  refine .i (fo 0 (hlc rfl) Try.underlying87 rfl sz2 rfl) ?_
  refine .i (lo1 (hlc rfl) own_b2_2 trivial agg2 sz2 rfl) ?_
  refine .i (fo 0 (hbs rfl e3) Try.underlying87 rfl sz2 rfl) ?_
  refine .i (lo1 (hlc rfl) own_b3_2 trivial agg2 sz2 rfl) ?_
  refine .i (sp_eql (hlc rfl) (hlc rfl)) ?_
  refine .i (sp_move (hlc rfl)) ?_
  refine .e (t := 11) rfl (hlc rfl) (fun hg => fo 0 (hbs rfl e2) Try.underlying156 rfl sz87 rfl) ?_
  refine .e (t := 11) (v := (.agg #[(.int .i64 (p.r.ln)), (.slice p0_1a (p.r.hs.length) p0_1c), (.int .u8 (p.r.cu.k)), (.int .i64 (p.r.cu.n)), (.string (p.r.cu.t)), (.slice p0_5a (p.r.cu.ns.length) p0_5c), (.slice p0_6a (p.r.cu.xs.length) p0_6c)])) rfl (hlc rfl) (fun hg => loA ((hlc rfl).undE hg) own_b2_2 trivial agg87 sz87 rfl rfl) ?_
  refine .e (t := 11) (v := (.agg #[(.int .i64 (q.ln)), (.slice p1_1a (q.hs.length) p1_1c), (.int .u8 (q.cu.k)), (.int .i64 (q.cu.n)), (.string (q.cu.t)), (.slice p1_5a (q.cu.ns.length) p1_5c), (.slice p1_6a (q.cu.xs.length) p1_6c)])) rfl (hlc rfl) (fun hg => loA (hbs rfl e3) own_b3_2 trivial agg87 sz87 rfl rfl) ?_
  refine .e (t := 11) (v := (.bool (sameR p.r q))) rfl (hlc rfl) (fun hg => sp_call2 (φ1 := IsD (SA w S [b3_2, b2_2]) (Rc.d (p.r))) (φ2 := IsD (SA w S [b3_2, b2_2]) (Rc.d (q))) ent59 (((hlc rfl).undE hg).dat (rdRc_mk D_p0_1 (rdV_in (x := p.r.cu) hb_p0_4 D_p0_5 D_p0_6 : Rd W2 (SA w S [b3_2, b2_2]) (V.d (p.r.cu)) _) : Rd W2 (SA w S [b3_2, b2_2]) (Rc.d (p.r)) _) sub_all) (((hlc rfl).undE hg).dat (rdRc_mk D_p1_1 (rdV_in (x := q.cu) hb_p1_4 D_p1_5 D_p1_6 : Rd W2 (SA w S [b3_2, b2_2]) (V.d (q.cu)) _) : Rd W2 (SA w S [b3_2, b2_2]) (Rc.d (q)) _) sub_all) (fun g u1 u2 W hk hgk h1 h2 => SameR_ok (p.r) (q) (by assumption) (by assumption) W _ _ _ (fun b o h => sa_cln hS b o h.1) h1 h2)) ?_
  refine .i (sp_and (hlc rfl) ((hlc rfl).weak fun hq => hq)) ?_
  refine .i (sp_assign (hlc rfl)) ?_
  refine .done ⟨by kernel_rfl, fun a4 g W4 y4 zz4 hk hg hV hR hP => ?_⟩
  obtain ⟨e4, -, -, -, -, -, -, -, -, -, -, -, -, -⟩ := hV
  replace D_p0_1 := D_p0_1.ext hk
  replace D_p0_5 := D_p0_5.ext hk
  replace D_p0_6 := D_p0_6.ext hk
  replace D_p1_1 := D_p1_1.ext hk
  replace D_p1_5 := D_p1_5.ext hk
  replace D_p1_6 := D_p1_6.ext hk
  replace e4 := e4.q
  replace own_b3_2 := own_b3_2.ext hk
  replace own_b2_2 := own_b2_2.ext hk
  replace kw := kw.x hk
  clear hR hk hg hP
  refine tail_nil (hK3 _ _ ?_)
  refine wp_ret ?_
  refine (show bodyPost Try.prog Try.f119 _ .ret _ _ from ret1 rfl zz4 e4 ⟨_, rfl, kw, ?_⟩)
  refine congrArg Value.bool ?_
  unfold sameVo
  congr 1
set_option maxRecDepth 100000 in
theorem count30_ok (l : List Vo) (r : Rc) (hl : ∀ x ∈ l, x.r.cu.wt ≤ 1073741824) (hr : r.cu.wt ≤ 1073741824) (w : World) (S : BSet) (v u : Value) (hS : ∀ b o, S b o → Cln o) (hv : Rd w S (vosD l) v) (hu : Rd w S r.d u) : Calls Try.prog 118 #[v, u] w (Ret w fun q _ => q = .int .i64 (cntV l r)) := by
  have hmx : l.length ≤ maxLen := rdVos_len hv
  simp only [maxLen] at hmx
  obtain ⟨va, vc, ev, D_v⟩ := rdVos_out (rd_arg hv)
  subst ev
  obtain ⟨p1_1a, p1_1c, p1_5a, p1_5c, p1_6a, p1_6c, ev, hb_p1_4, D_p1_1, D_p1_5, D_p1_6⟩ := rdRc_out (rd_arg hu)
  subst ev
  refine enter Try.func118 rfl Try.ntmps118 (lbr rfl) fun a0 y0 zz0 harg => ?_
  have e0 : sl a0 0 = (.slice va (l.length) vc) := harg 0 (lbr rfl)
  have e1 : sl a0 1 = (.agg #[(.int .i64 (r.ln)), (.slice p1_1a (r.hs.length) p1_1c), (.int .u8 (r.cu.k)), (.int .i64 (r.cu.n)), (.string (r.cu.t)), (.slice p1_5a (r.cu.ns.length) p1_5c), (.slice p1_6a (r.cu.xs.length) p1_6c)]) := harg 1 (lbr rfl)
  have kw := Keeps.refl All w
  clear harg
  refine wp_seq_k fun K1 hK1 => ?_
  refine rg mixed y0 zz0 ?_
  refine .boxOp (v := (.agg #[(.int .i64 (r.ln)), (.slice p1_1a (r.hs.length) p1_1c), (.int .u8 (r.cu.k)), (.int .i64 (r.cu.n)), (.string (r.cu.t)), (.slice p1_5a (r.cu.ns.length) p1_5c), (.slice p1_6a (r.cu.xs.length) p1_6c)])) (hbs rfl e1) ?_
  refine .i (sp_assign Has.cst) ?_
  refine .done ⟨by kernel_rfl, fun a2 g W2 y2 zz2 hk hg hV hR hP => ?_⟩
  obtain ⟨-, ⟨b3_2, e3, hb3, own_b3_2⟩, -⟩ := hV
  have lo_b3_2 : w.heap.size ≤ b3_2 := Nat.le_trans kw.size (hg.lo _ _ hb3)
  have own_b3_2 : Own W2 b3_2 [(.int .i64 (r.ln)), (.slice p1_1a (r.hs.length) p1_1c), (.int .u8 (r.cu.k)), (.int .i64 (r.cu.n)), (.string (r.cu.t)), (.slice p1_5a (r.cu.ns.length) p1_5c), (.slice p1_6a (r.cu.xs.length) p1_6c)] 87 := own_b3_2
  replace e0 := (hR 0 rfl).trans e0
  replace D_v := sa_more D_v hk [b3_2] (in_cons (hg.lo _ _ hb3) in_nil)
  replace D_p1_1 := sa_more D_p1_1 hk [b3_2] (in_cons (hg.lo _ _ hb3) in_nil)
  replace D_p1_5 := sa_more D_p1_5 hk [b3_2] (in_cons (hg.lo _ _ hb3) in_nil)
  replace D_p1_6 := sa_more D_p1_6 hk [b3_2] (in_cons (hg.lo _ _ hb3) in_nil)
  replace kw := kw.x hk
  clear hR hk hg hP hb3
  refine tail_nil (hK1 _ _ ?_)
  refine wp_seq_k fun K3 hK3 => ?_
  refine rg mixed y2 zz2 ?_
  refine .i (sp_assign Has.cst) ?_
  refine .done ⟨by kernel_rfl, fun a4 g W4 y4 zz4 hk hg hV hR hP => ?_⟩
  obtain ⟨e5, -⟩ := hV
  replace e0 := (hR 0 rfl).trans e0
  replace e3 := (hR 3 rfl).trans e3
  replace D_v := D_v.ext hk
  replace D_p1_1 := D_p1_1.ext hk
  replace D_p1_5 := D_p1_5.ext hk
  replace D_p1_6 := D_p1_6.ext hk
  have e5 : sl a4 5 = (.int .i64 (0)) := e5
  replace own_b3_2 := own_b3_2.ext hk
  replace kw := kw.x hk
  clear hR hk hg hP
  refine tail_nil (hK3 _ _ ?_)
  refine wp_seq_k fun K5 hK5 => ?_
  refine wp_seq_k fun K6 hK6 => ?_
  refine rg mixed y4 zz4 ?_
  refine .i (sp_move (hbs rfl e0)) ?_
  refine .i (sp_lenL Try.underlying102 ((hlc rfl).dat D_v sub_all)) ?_
  refine .i (sp_move Has.cst) ?_
  refine .done ⟨by kernel_rfl, fun a7 g W7 y7 zz7 hk hg hV hR hP => ?_⟩
  obtain ⟨e10, e9, e8, -⟩ := hV
  replace e3 := (hR 3 rfl).trans e3
  replace e5 := (hR 5 rfl).trans e5
  replace D_v := D_v.ext hk
  replace D_p1_1 := D_p1_1.ext hk
  replace D_p1_5 := D_p1_5.ext hk
  replace D_p1_6 := D_p1_6.ext hk
  have e8 : sl a7 8 = (.slice va (l.length) vc) := e8
  have e9 : sl a7 9 = (.int .i64 (l.length)) := e9
  have e10 : sl a7 10 = (.int .i64 (0)) := e10
  replace own_b3_2 := own_b3_2.ext hk
  replace kw := kw.x hk
  clear hR hk hg hP
  refine tail_nil (hK6 _ _ ?_)
  refine wp_block ?_
  refine wp_for (l.length) (fun k a W => a.tmps.size = 21 ∧ a.defers = [] ∧ Keeps All w W ∧ sl a 3 = (.pointer (some ⟨b3_2, 0, none⟩)) ∧ sl a 5 = (.int .i64 (((cntV (l.take k) r : Nat) : Int))) ∧ sl a 8 = (.slice va (l.length) vc) ∧ sl a 9 = (.int .i64 (l.length)) ∧ sl a 10 = (.int .i64 ((k : Nat))) ∧ Own W b3_2 [(.int .i64 (r.ln)), (.slice p1_1a (r.hs.length) p1_1c), (.int .u8 (r.cu.k)), (.int .i64 (r.cu.n)), (.string (r.cu.t)), (.slice p1_5a (r.cu.ns.length) p1_5c), (.slice p1_6a (r.cu.xs.length) p1_6c)] 87 ∧ Rd W (SA w S [b3_2]) (vosD (l)) (.slice va (l.length) vc) ∧ Rd W (SA w S [b3_2]) (hssD (r.hs)) (.slice p1_1a (r.hs.length) p1_1c) ∧ Rd W (SA w S [b3_2]) (strsD (r.cu.ns)) (.slice p1_5a (r.cu.ns.length) p1_5c) ∧ Rd W (SA w S [b3_2]) (valsD (r.cu.xs)) (.slice p1_6a (r.cu.xs.length) p1_6c)) ⟨y7, zz7, kw, e3, (e5.trans (congrArg (Value.int .i64) (rfl))), e8, e9, (e10.trans (congrArg (Value.int .i64) (rfl))), own_b3_2, D_v, D_p1_1, D_p1_5, D_p1_6⟩ ?_
  clear kw e3 e5 e8 e9 e10 own_b3_2 D_v D_p1_1 D_p1_5 D_p1_6
  rintro k a8 W8 hkk ⟨y8, zz8, kw, e3, e5, e8, e9, e10, own_b3_2, D_v, D_p1_1, D_p1_5, D_p1_6⟩
  refine wp_seq_k fun K9 hK9 => ?_
  refine rg mixed y8 zz8 ?_
  refine .i (sp_lss (hbs rfl e10) (hbs rfl e9)) ?_
  refine .done ⟨by kernel_rfl, fun a10 g W10 y10 zz10 hk hg hV hR hP => ?_⟩
  obtain ⟨e11, -⟩ := hV
  replace e3 := (hR 3 rfl).trans e3
  replace e5 := (hR 5 rfl).trans e5
  replace e8 := (hR 8 rfl).trans e8
  replace e9 := (hR 9 rfl).trans e9
  replace e10 := (hR 10 rfl).trans e10
  replace D_v := D_v.ext hk
  replace D_p1_1 := D_p1_1.ext hk
  replace D_p1_5 := D_p1_5.ext hk
  replace D_p1_6 := D_p1_6.ext hk
  replace e11 := e11.q
  replace own_b3_2 := own_b3_2.ext hk
  replace kw := kw.x hk
  clear hR hk hg hP
  refine tail_nil (hK9 _ _ ?_)
  refine wp_seq_k fun K11 hK11 => ?_
  refine wp_cond_split e11 (fun hc => ?_) (fun hc => ?_)
  ·
   have hlt : k < l.length := by simpa using hc
   have hct := cntV_take hlt r
   have hcl := cntV_le (l.take k) r
   have hcm : (l.take k).length ≤ k := by simp; omega
   refine wp_skip (hK11 _ _ ?_)
   refine wp_seq_k fun K12 hK12 => ?_
   refine wp_block ?_
   refine wp_seq_k fun K13 hK13 => ?_
   refine rg mixed y10 zz10 ?_
   refine .rf (X := SA w S [b3_2]) (e := Vo.d (l[k]'hlt)) (sp_indexL (i := k) ((hbs rfl e8).dat D_v sub_all) (hbs rfl e10) Try.underlying102 sz156 rfl hlt) ?_
   refine .da (X := SA w S [b3_2]) (e := Vo.d (l[k]'hlt)) (sp_loadR (hlc rfl) agg156 sz156 (width_Vo _)) ?_
   refine .alloc z156 ?_
   refine .done ⟨by kernel_rfl, fun a14 g W14 y14 zz14 hk hg hV hR hP => ?_⟩
   obtain ⟨⟨b7_14, e7, hb7, own_b7_14⟩, e13, -, -⟩ := hV
   have lo_b7_14 : w.heap.size ≤ b7_14 := Nat.le_trans kw.size (hg.lo _ _ hb7)
   have ne_b3_2_b7_14 : b3_2 ≠ b7_14 := Nat.ne_of_lt (Nat.lt_of_lt_of_le own_b3_2.lt (hg.lo _ _ hb7))
   have own_b7_14 : Own W14 b7_14 [(.int .i64 (0)), (.slice none 0 0), (.int .u8 (0)), (.int .i64 (0)), (.string (⟨#[]⟩)), (.slice none 0 0), (.slice none 0 0), (.string (⟨#[]⟩))] 156 := own_b7_14
   replace e3 := (hR 3 rfl).trans e3
   replace e5 := (hR 5 rfl).trans e5
   replace e8 := (hR 8 rfl).trans e8
   replace e9 := (hR 9 rfl).trans e9
   replace e10 := (hR 10 rfl).trans e10
   replace D_v := sa_more D_v hk [b7_14] (in_cons (hg.lo _ _ hb7) in_nil)
   replace D_p1_1 := sa_more D_p1_1 hk [b7_14] (in_cons (hg.lo _ _ hb7) in_nil)
   replace D_p1_5 := sa_more D_p1_5 hk [b7_14] (in_cons (hg.lo _ _ hb7) in_nil)
   replace D_p1_6 := sa_more D_p1_6 hk [b7_14] (in_cons (hg.lo _ _ hb7) in_nil)
   obtain ⟨v13_14, ev⟩ : ∃ v, sl a14 13 = v := ⟨_, rfl⟩
   rw [ev] at e13
   have D_v13_14 : Rd W14 (SA w S [b7_14, b3_2]) (Vo.d (l[k]'hlt)) v13_14 := sa_end e13 hk [b7_14] (in_cons ⟨_, hb7⟩ in_nil)
   replace e13 := ev; clear ev
   obtain ⟨v13_14_1a, v13_14_1c, v13_14_5a, v13_14_5c, v13_14_6a, v13_14_6c, ev, hb_v13_14_4, hb_v13_14_7, D_v13_14_1, D_v13_14_5, D_v13_14_6⟩ := rdVo_out D_v13_14
   subst ev; clear D_v13_14
   replace own_b3_2 := own_b3_2.ext hk
   replace kw := kw.x hk
   clear hR hk hg hP hb7
   refine tail_store (b := b7_14) (o := 0) (v := (.agg #[(.int .i64 ((l[k]'hlt).r.ln)), (.slice v13_14_1a (((l[k]'hlt).r.hs).length) v13_14_1c), (.int .u8 ((l[k]'hlt).r.cu.k)), (.int .i64 ((l[k]'hlt).r.cu.n)), (.string ((l[k]'hlt).r.cu.t)), (.slice v13_14_5a (((l[k]'hlt).r.cu.ns).length) v13_14_5c), (.slice v13_14_6a (((l[k]'hlt).r.cu.xs).length) v13_14_6c), (.string ((l[k]'hlt).repo))])) e7 e13 sz156 rfl own_b7_14 (lbr rfl) (all_cons rfl (all_cons rfl (all_cons rfl (all_cons rfl (all_cons rfl (all_cons rfl (all_cons rfl (all_cons rfl all_nil)))))))) (fun W15 hs own_b7_14 => ?_)
   have own_b7_14 : Own W15 b7_14 [(.int .i64 ((l[k]'hlt).r.ln)), (.slice v13_14_1a (((l[k]'hlt).r.hs).length) v13_14_1c), (.int .u8 ((l[k]'hlt).r.cu.k)), (.int .i64 ((l[k]'hlt).r.cu.n)), (.string ((l[k]'hlt).r.cu.t)), (.slice v13_14_5a (((l[k]'hlt).r.cu.ns).length) v13_14_5c), (.slice v13_14_6a (((l[k]'hlt).r.cu.xs).length) v13_14_6c), (.string ((l[k]'hlt).repo))] 156 := own_b7_14
   replace own_b3_2 := own_store own_b3_2 hs ne_b3_2_b7_14
   replace D_v := sa_store D_v hs (by simp)
   replace D_p1_1 := sa_store D_p1_1 hs (by simp)
   replace D_p1_5 := sa_store D_p1_5 hs (by simp)
   replace D_p1_6 := sa_store D_p1_6 hs (by simp)
   replace D_v13_14_1 := sa_store D_v13_14_1 hs (by simp)
   replace D_v13_14_5 := sa_store D_v13_14_5 hs (by simp)
   replace D_v13_14_6 := sa_store D_v13_14_6 hs (by simp)
   replace kw := keeps_store kw hs lo_b7_14
   clear hs
   refine tail_nil (hK13 _ _ ?_)
   refine wp_seq_k fun K16 hK16 => ?_
   refine rg mixed y14 zz14 ?_
   refine .i (v := (.agg #[(.int .i64 ((l[k]'hlt).r.ln)), (.slice v13_14_1a (((l[k]'hlt).r.hs).length) v13_14_1c), (.int .u8 ((l[k]'hlt).r.cu.k)), (.int .i64 ((l[k]'hlt).r.cu.n)), (.string ((l[k]'hlt).r.cu.t)), (.slice v13_14_5a (((l[k]'hlt).r.cu.ns).length) v13_14_5c), (.slice v13_14_6a (((l[k]'hlt).r.cu.xs).length) v13_14_6c), (.string ((l[k]'hlt).repo))])) (loA (hbs rfl e7) own_b7_14 trivial agg156 sz156 rfl rfl) ?_
   refine .i (v := (.agg #[(.int .i64 (r.ln)), (.slice p1_1a (r.hs.length) p1_1c), (.int .u8 (r.cu.k)), (.int .i64 (r.cu.n)), (.string (r.cu.t)), (.slice p1_5a (r.cu.ns.length) p1_5c), (.slice p1_6a (r.cu.xs.length) p1_6c)])) (loA (hbs rfl e3) own_b3_2 trivial agg87 sz87 rfl rfl) ?_
   refine .i (v := (.bool (sameVo (l[k]'hlt) r))) (sp_call2 (φ1 := IsD (SA w S [b7_14, b3_2]) (Vo.d ((l[k]'hlt)))) (φ2 := IsD (SA w S [b7_14, b3_2]) (Rc.d (r))) ent119 ((hlc rfl).dat (rdVo_mk (rdRc_mk D_v13_14_1 (rdV_in (x := (l[k]'hlt).r.cu) hb_v13_14_4 D_v13_14_5 D_v13_14_6 : Rd W15 (SA w S [b7_14, b3_2]) (V.d ((l[k]'hlt).r.cu)) _) : Rd W15 (SA w S [b7_14, b3_2]) (Rc.d ((l[k]'hlt).r)) _) hb_v13_14_7 : Rd W15 (SA w S [b7_14, b3_2]) (Vo.d ((l[k]'hlt))) _) sub_all) ((hlc rfl).dat (rdRc_mk D_p1_1 (rdV_in (x := r.cu) hb_p1_4 D_p1_5 D_p1_6 : Rd W15 (SA w S [b7_14, b3_2]) (V.d (r.cu)) _) : Rd W15 (SA w S [b7_14, b3_2]) (Rc.d (r)) _) sub_all) (fun g u1 u2 W hk hgk h1 h2 => sameVo_ok ((l[k]'hlt)) (r) (hl _ (List.getElem_mem _)) hr W _ _ _ (fun b o h => sa_cln hS b o h.1) h1 h2)) ?_
   refine .done ⟨by kernel_rfl, fun a17 g W17 y17 zz17 hk hg hV hR hP => ?_⟩
   obtain ⟨e16, -, -, -⟩ := hV
   replace e3 := (hR 3 rfl).trans e3
   replace e5 := (hR 5 rfl).trans e5
   replace e8 := (hR 8 rfl).trans e8
   replace e9 := (hR 9 rfl).trans e9
   replace e10 := (hR 10 rfl).trans e10
   replace D_v := D_v.ext hk
   replace D_p1_1 := D_p1_1.ext hk
   replace D_p1_5 := D_p1_5.ext hk
   replace D_p1_6 := D_p1_6.ext hk
   replace D_v13_14_1 := D_v13_14_1.ext hk
   replace D_v13_14_5 := D_v13_14_5.ext hk
   replace D_v13_14_6 := D_v13_14_6.ext hk
   have e16 : sl a17 16 = (.bool (sameVo (l[k]'hlt) r)) := e16
   replace own_b3_2 := own_b3_2.ext hk
   replace own_b7_14 := own_b7_14.ext hk
   replace kw := kw.x hk
   clear hR hk hg hP
   refine tail_nil (hK16 _ _ ?_)
   refine wp_cond_split e16 (fun hc => ?_) (fun hc => ?_)
   ·
    rw [if_pos hc] at hct
    refine rg mixed y17 zz17 ?_
    refine .i (sp_move (hbs rfl e5)) ?_
    refine .i (sp_add (hlc rfl) Has.cst (i64_in (by omega))) ?_
    refine .i (sp_assign (hlc rfl)) ?_
    refine .done ⟨by kernel_rfl, fun a18 g W18 y18 zz18 hk hg hV hR hP => ?_⟩
    obtain ⟨e5, -, -, -⟩ := hV
    replace e3 := (hR 3 rfl).trans e3
    replace e8 := (hR 8 rfl).trans e8
    replace e9 := (hR 9 rfl).trans e9
    replace e10 := (hR 10 rfl).trans e10
    replace D_v := D_v.ext hk
    replace D_p1_1 := D_p1_1.ext hk
    replace D_p1_5 := D_p1_5.ext hk
    replace D_p1_6 := D_p1_6.ext hk
    replace e5 := e5.q
    replace own_b3_2 := own_b3_2.ext hk
    replace own_b7_14 := own_b7_14.ext hk
    replace kw := kw.x hk
    clear hR hk hg hP
    refine tail_nil (hK12 _ _ ?_)
    refine rg mixed y18 zz18 ?_
    refine .i (sp_add (hbs rfl e10) Has.cst (i64_in (by omega))) ?_
    refine .i (sp_move (hlc rfl)) ?_
    refine .done ⟨by kernel_rfl, fun a19 g W19 y19 zz19 hk hg hV hR hP => ?_⟩
    obtain ⟨e10, -, -⟩ := hV
    replace e3 := (hR 3 rfl).trans e3
    replace e5 := (hR 5 rfl).trans e5
    replace e8 := (hR 8 rfl).trans e8
    replace e9 := (hR 9 rfl).trans e9
    replace D_v := D_v.ext hk
    replace D_p1_1 := D_p1_1.ext hk
    replace D_p1_5 := D_p1_5.ext hk
    replace D_p1_6 := D_p1_6.ext hk
    replace e10 := e10.q
    replace own_b3_2 := own_b3_2.ext hk
    replace own_b7_14 := own_b7_14.ext hk
    replace kw := kw.x hk
    clear hR hk hg hP
    exact tail_nil ⟨hlt, y19, zz19, kw, e3, (e5.trans (congrArg (Value.int .i64) (by omega))), e8, e9, (e10.trans (congrArg (Value.int .i64) (by simp))), own_b3_2, (sa_less D_v (ls_skip (ls_keep ls_nil))), (sa_less D_p1_1 (ls_skip (ls_keep ls_nil))), (sa_less D_p1_5 (ls_skip (ls_keep ls_nil))), (sa_less D_p1_6 (ls_skip (ls_keep ls_nil)))⟩
   ·
    rw [if_neg (by simp [hc])] at hct
    refine wp_skip (hK12 _ _ ?_)
    refine rg mixed y17 zz17 ?_
    refine .i (sp_add (hbs rfl e10) Has.cst (i64_in (by omega))) ?_
    refine .i (sp_move (hlc rfl)) ?_
    refine .done ⟨by kernel_rfl, fun a20 g W20 y20 zz20 hk hg hV hR hP => ?_⟩
    obtain ⟨e10, -, -⟩ := hV
    replace e3 := (hR 3 rfl).trans e3
    replace e5 := (hR 5 rfl).trans e5
    replace e8 := (hR 8 rfl).trans e8
    replace e9 := (hR 9 rfl).trans e9
    replace D_v := D_v.ext hk
    replace D_p1_1 := D_p1_1.ext hk
    replace D_p1_5 := D_p1_5.ext hk
    replace D_p1_6 := D_p1_6.ext hk
    replace e10 := e10.q
    replace own_b3_2 := own_b3_2.ext hk
    replace own_b7_14 := own_b7_14.ext hk
    replace kw := kw.x hk
    clear hR hk hg hP
    exact tail_nil ⟨hlt, y20, zz20, kw, e3, (e5.trans (congrArg (Value.int .i64) (by omega))), e8, e9, (e10.trans (congrArg (Value.int .i64) (by simp))), own_b3_2, (sa_less D_v (ls_skip (ls_keep ls_nil))), (sa_less D_p1_1 (ls_skip (ls_keep ls_nil))), (sa_less D_p1_5 (ls_skip (ls_keep ls_nil))), (sa_less D_p1_6 (ls_skip (ls_keep ls_nil)))⟩
  ·
   have hge0 : ¬ k < l.length := by simpa using hc
   have hge : k = l.length := by omega
   refine wp_exit (hK5 _ _ ?_)
   refine wp_seq_k fun K21 hK21 => ?_
   refine rg mixed y10 zz10 ?_
   refine .i (sp_move (hbs rfl e5)) ?_
   refine .i (sp_assign (hlc rfl)) ?_
   refine .done ⟨by kernel_rfl, fun a22 g W22 y22 zz22 hk hg hV hR hP => ?_⟩
   obtain ⟨e4, -, -⟩ := hV
   replace D_v := D_v.ext hk
   replace D_p1_1 := D_p1_1.ext hk
   replace D_p1_5 := D_p1_5.ext hk
   replace D_p1_6 := D_p1_6.ext hk
   replace e4 := e4.q
   replace own_b3_2 := own_b3_2.ext hk
   replace kw := kw.x hk
   clear hR hk hg hP
   refine tail_nil (hK21 _ _ ?_)
   refine wp_ret ?_
   refine (show bodyPost Try.prog Try.f118 _ .ret _ _ from ret1 rfl zz22 e4 ⟨_, rfl, kw, ?_⟩)
   rw [hge, List.take_length]
end Go.Proofs.Ytnobijngkpflcaa
namespace Go.Proofs.Ytnobijngkpflcaa
open Go.Eng
set_option maxRecDepth 100000 in
theorem made_ok (want : Int) (w : World) (vv : Value) (bb : Nat) (own_bb : Own w bb [.int .i64 want, vv] 104) : Calls Try.prog 115 #[.pointer (some ⟨bb, 0, none⟩)] w (Ret w fun u _ => u = .bool (decide (0 < want))) := by
  refine enter Try.func115 rfl Try.ntmps115 (lbr rfl) fun a0 y0 zz0 harg => ?_
  have e0 : sl a0 0 = (.pointer (some ⟨bb, 0, none⟩)) := harg 0 (lbr rfl)
  have kw := Keeps.refl All w
  clear harg
  refine wp_seq_k fun K1 hK1 => ?_
  refine rg mixed y0 zz0 ?_
  refine .i (sp_assign Has.cst) ?_
  refine .done ⟨by kernel_rfl, fun a2 g W2 y2 zz2 hk hg hV hR hP => ?_⟩
  obtain ⟨-, -⟩ := hV
  replace e0 := (hR 0 rfl).trans e0
  replace own_bb := own_bb.ext hk
  replace kw := kw.x hk
  clear hR hk hg hP
  refine tail_nil (hK1 _ _ ?_)
  refine wp_seq_k fun K3 hK3 => ?_
  refine rg mixed y2 zz2 ?_
  refine .i (sp_move (hbs rfl e0)) ?_
  refine .i (v := (.bool (true))) (sp_nilNeq Try.underlying91 (hlc rfl) Has.cst (by simp) rfl) ?_
  refine .i (sp_move (hlc rfl)) ?_
  refine .e (t := 5) rfl (hlc rfl) (fun hg => sp_move (hbs rfl e0)) ?_
  refine .e (t := 5) rfl (hlc rfl) (fun hg => sp_nilP ((hlc rfl).undE hg)) ?_
  refine .e (t := 5) rfl (hlc rfl) (fun hg => fo 0 ((hlc rfl).undE hg) Try.underlying104 rfl sz3 rfl) ?_
  refine .e (t := 5) rfl (hlc rfl) (fun hg => lo1 ((hlc rfl).undE hg) own_bb trivial agg3 sz3 rfl) ?_
  refine .e (t := 5) rfl (hlc rfl) (fun hg => sp_gtr ((hlc rfl).undE hg) Has.cst) ?_
  refine .i (sp_and (hlc rfl) ((hlc rfl).weak fun hq => hq)) ?_
  refine .i (sp_assign (hlc rfl)) ?_
  refine .done ⟨by kernel_rfl, fun a4 g W4 y4 zz4 hk hg hV hR hP => ?_⟩
  obtain ⟨e2, -, -, -, -, -, -, -, -, -, -⟩ := hV
  replace e2 := e2.q
  replace own_bb := own_bb.ext hk
  replace kw := kw.x hk
  clear hR hk hg hP
  refine tail_nil (hK3 _ _ ?_)
  refine wp_ret ?_
  refine (show bodyPost Try.prog Try.f115 _ .ret _ _ from ret1 rfl zz4 e2 ⟨_, rfl, kw, ?_⟩)
  refine congrArg Value.bool ?_
  simp
set_option maxRecDepth 100000 in
theorem Len_ok (want : Int) (L : List Vo) (w : World) (S : BSet) (vv : Value) (bb : Nat) (own_bb : Own w bb [.int .i64 want, vv] 104) (hw : 0 < want) (hv : Rd w S (vosD L) vv) : Calls Try.prog 57 #[.pointer (some ⟨bb, 0, none⟩)] w (Ret w fun u _ => u = .int .i64 L.length) := by
  have hmx : L.length ≤ maxLen := rdVos_len hv
  simp only [maxLen] at hmx
  obtain ⟨vva, vvc, ev, D_vv⟩ := rdVos_out (rd_arg hv)
  subst ev
  refine enter Try.func57 rfl Try.ntmps57 (lbr rfl) fun a0 y0 zz0 harg => ?_
  have e0 : sl a0 0 = (.pointer (some ⟨bb, 0, none⟩)) := harg 0 (lbr rfl)
  have kw := Keeps.refl All w
  clear harg
  refine wp_seq_k fun K1 hK1 => ?_
  refine rg mixed y0 zz0 ?_
  refine .i (sp_assign Has.cst) ?_
  refine .done ⟨by kernel_rfl, fun a2 g W2 y2 zz2 hk hg hV hR hP => ?_⟩
  obtain ⟨-, -⟩ := hV
  replace e0 := (hR 0 rfl).trans e0
  replace D_vv := D_vv.ext hk
  replace own_bb := own_bb.ext hk
  replace kw := kw.x hk
  clear hR hk hg hP
  refine tail_nil (hK1 _ _ ?_)
  refine wp_seq_k fun K3 hK3 => ?_
  refine wp_seq_k fun K4 hK4 => ?_
  refine rg mixed y2 zz2 ?_
  refine .i (sp_move (hbs rfl e0)) ?_
  refine .i (v := (.bool (decide (0 < want)))) (sp_call1 (φ1 := Is (.pointer (some ⟨bb, 0, none⟩))) ent115 (hlc rfl) (fun g u1 W hk hgk h1 => by have h1 : u1 = _ := h1; subst u1; exact made_ok (want) W _ _ (own_bb.ext hk))) ?_
  refine .i (sp_not (hlc rfl)) ?_
  refine .done ⟨by kernel_rfl, fun a5 g W5 y5 zz5 hk hg hV hR hP => ?_⟩
  obtain ⟨e5, -, -, -⟩ := hV
  replace e0 := (hR 0 rfl).trans e0
  replace D_vv := D_vv.ext hk
  have e5 : sl a5 5 = (.bool (!(decide (0 < want)))) := e5
  replace own_bb := own_bb.ext hk
  replace kw := kw.x hk
  clear hR hk hg hP
  refine tail_nil (hK4 _ _ ?_)
  refine wp_cond_split e5 (fun hc => ?_) (fun hc => ?_)
  ·
   exfalso
   simp [hw] at hc
  ·
   refine wp_skip (hK3 _ _ ?_)
   refine wp_seq_k fun K6 hK6 => ?_
   refine rg mixed y5 zz5 ?_
   refine .i (sp_move (hbs rfl e0)) ?_
   refine .i (sp_nilP (hlc rfl)) ?_
   refine .i (fo 1 (hlc rfl) Try.underlying104 rfl sz102 rfl) ?_
   refine .i (lo1 (hlc rfl) own_bb trivial agg102 sz102 rfl) ?_
   refine .i (sp_lenL Try.underlying102 ((hlc rfl).dat D_vv sub_all)) ?_
   refine .i (sp_assign (hlc rfl)) ?_
   refine .done ⟨by kernel_rfl, fun a7 g W7 y7 zz7 hk hg hV hR hP => ?_⟩
   obtain ⟨e2, -, -, -, -, -, -⟩ := hV
   replace D_vv := D_vv.ext hk
   have e2 : sl a7 2 = (.int .i64 (L.length)) := e2
   replace own_bb := own_bb.ext hk
   replace kw := kw.x hk
   clear hR hk hg hP
   refine tail_nil (hK6 _ _ ?_)
   refine wp_ret ?_
   refine (show bodyPost Try.prog Try.f57 _ .ret _ _ from ret1 rfl zz7 e2 ⟨_, rfl, kw, ?_⟩)
   exact rfl
set_option maxRecDepth 100000 in
theorem Most_ok (want : Int) (L : List Vo) (w : World) (S : BSet) (vv : Value) (bb : Nat) (own_bb : Own w bb [.int .i64 want, vv] 104) (hw : 0 < want) (hL : ∀ x ∈ L, x.r.cu.wt ≤ 1073741824) (hS : ∀ b o, S b o → Cln o) (hv : Rd w S (vosD L) vv) : Calls Try.prog 58 #[.pointer (some ⟨bb, 0, none⟩)] w (Ret w fun u _ => u = .int .i64 ((mostV L L 0 : Nat) : Int)) := by
  have hmx : L.length ≤ maxLen := rdVos_len hv
  simp only [maxLen] at hmx
  obtain ⟨vva, vvc, ev, D_vv⟩ := rdVos_out (rd_arg hv)
  subst ev
  refine enter Try.func58 rfl Try.ntmps58 (lbr rfl) fun a0 y0 zz0 harg => ?_
  have e0 : sl a0 0 = (.pointer (some ⟨bb, 0, none⟩)) := harg 0 (lbr rfl)
  have kw := Keeps.refl All w
  clear harg
  refine wp_seq_k fun K1 hK1 => ?_
  refine rg mixed y0 zz0 ?_
  refine .i (sp_assign Has.cst) ?_
  refine .done ⟨by kernel_rfl, fun a2 g W2 y2 zz2 hk hg hV hR hP => ?_⟩
  obtain ⟨-, -⟩ := hV
  replace e0 := (hR 0 rfl).trans e0
  replace D_vv := D_vv.ext hk
  replace own_bb := own_bb.ext hk
  replace kw := kw.x hk
  clear hR hk hg hP
  refine tail_nil (hK1 _ _ ?_)
  refine wp_seq_k fun K3 hK3 => ?_
  refine wp_seq_k fun K4 hK4 => ?_
  refine rg mixed y2 zz2 ?_
  refine .i (sp_move (hbs rfl e0)) ?_
  refine .i (v := (.bool (decide (0 < want)))) (sp_call1 (φ1 := Is (.pointer (some ⟨bb, 0, none⟩))) ent115 (hlc rfl) (fun g u1 W hk hgk h1 => by have h1 : u1 = _ := h1; subst u1; exact made_ok (want) W _ _ (own_bb.ext hk))) ?_
  refine .i (sp_not (hlc rfl)) ?_
  refine .done ⟨by kernel_rfl, fun a5 g W5 y5 zz5 hk hg hV hR hP => ?_⟩
  obtain ⟨e8, -, -, -⟩ := hV
  replace e0 := (hR 0 rfl).trans e0
  replace D_vv := D_vv.ext hk
  have e8 : sl a5 8 = (.bool (!(decide (0 < want)))) := e8
  replace own_bb := own_bb.ext hk
  replace kw := kw.x hk
  clear hR hk hg hP
  refine tail_nil (hK4 _ _ ?_)
  refine wp_cond_split e8 (fun hc => ?_) (fun hc => ?_)
  ·
   exfalso
   simp [hw] at hc
  ·
   refine wp_skip (hK3 _ _ ?_)
   refine wp_seq_k fun K6 hK6 => ?_
   refine rg mixed y5 zz5 ?_
   refine .i (sp_assign Has.cst) ?_
   refine .done ⟨by kernel_rfl, fun a7 g W7 y7 zz7 hk hg hV hR hP => ?_⟩
   obtain ⟨e3, -⟩ := hV
   replace e0 := (hR 0 rfl).trans e0
   replace D_vv := D_vv.ext hk
   have e3 : sl a7 3 = (.int .i64 (0)) := e3
   replace own_bb := own_bb.ext hk
   replace kw := kw.x hk
   clear hR hk hg hP
   refine tail_nil (hK6 _ _ ?_)
   refine wp_seq_k fun K8 hK8 => ?_
   refine wp_seq_k fun K9 hK9 => ?_
   refine rg mixed y7 zz7 ?_
   refine .i (sp_move (hbs rfl e0)) ?_
   refine .i (sp_nilP (hlc rfl)) ?_
   refine .i (fo 1 (hlc rfl) Try.underlying104 rfl sz102 rfl) ?_
   refine .i (lo1 (hlc rfl) own_bb trivial agg102 sz102 rfl) ?_
   refine .i (sp_lenL Try.underlying102 ((hlc rfl).dat D_vv sub_all)) ?_
   refine .i (sp_move Has.cst) ?_
   refine .done ⟨by kernel_rfl, fun a10 g W10 y10 zz10 hk hg hV hR hP => ?_⟩
   obtain ⟨e14, e13, e12, -, -, -, -⟩ := hV
   replace e0 := (hR 0 rfl).trans e0
   replace e3 := (hR 3 rfl).trans e3
   replace D_vv := D_vv.ext hk
   have e12 : sl a10 12 = (.slice vva (L.length) vvc) := e12
   have e13 : sl a10 13 = (.int .i64 (L.length)) := e13
   have e14 : sl a10 14 = (.int .i64 (0)) := e14
   replace own_bb := own_bb.ext hk
   replace kw := kw.x hk
   clear hR hk hg hP
   refine tail_nil (hK9 _ _ ?_)
   refine wp_block ?_
   refine wp_for (L.length) (fun k a W => a.tmps.size = 29 ∧ a.defers = [] ∧ Keeps All w W ∧ sl a 0 = (.pointer (some ⟨bb, 0, none⟩)) ∧ sl a 3 = (.int .i64 (((mostV L (L.take k) 0 : Nat) : Int))) ∧ sl a 12 = (.slice vva (L.length) vvc) ∧ sl a 13 = (.int .i64 (L.length)) ∧ sl a 14 = (.int .i64 ((k : Nat))) ∧ Own W bb [(.int .i64 (want)), (.slice vva (L.length) vvc)] 104 ∧ Rd W (SA w S []) (vosD (L)) (.slice vva (L.length) vvc)) ⟨y10, zz10, kw, e0, (e3.trans (congrArg (Value.int .i64) (rfl))), e12, e13, (e14.trans (congrArg (Value.int .i64) (rfl))), own_bb, D_vv⟩ ?_
   clear kw e0 e3 e12 e13 e14 own_bb D_vv
   rintro k a11 W11 hkk ⟨y11, zz11, kw, e0, e3, e12, e13, e14, own_bb, D_vv⟩
   refine wp_seq_k fun K12 hK12 => ?_
   refine rg mixed y11 zz11 ?_
   refine .i (sp_lss (hbs rfl e14) (hbs rfl e13)) ?_
   refine .done ⟨by kernel_rfl, fun a13 g W13 y13 zz13 hk hg hV hR hP => ?_⟩
   obtain ⟨e15, -⟩ := hV
   replace e0 := (hR 0 rfl).trans e0
   replace e3 := (hR 3 rfl).trans e3
   replace e12 := (hR 12 rfl).trans e12
   replace e13 := (hR 13 rfl).trans e13
   replace e14 := (hR 14 rfl).trans e14
   replace D_vv := D_vv.ext hk
   replace e15 := e15.q
   replace own_bb := own_bb.ext hk
   replace kw := kw.x hk
   clear hR hk hg hP
   refine tail_nil (hK12 _ _ ?_)
   refine wp_seq_k fun K14 hK14 => ?_
   refine wp_cond_split e15 (fun hc => ?_) (fun hc => ?_)
   ·
    have hlt : k < L.length := by simpa using hc
    have hmt := mostV_take hlt
    refine wp_skip (hK14 _ _ ?_)
    refine wp_seq_k fun K15 hK15 => ?_
    refine wp_block ?_
    refine wp_seq_k fun K16 hK16 => ?_
    refine rg mixed y13 zz13 ?_
    refine .rf (X := SA w S []) (e := Vo.d (L[k]'hlt)) (sp_indexL (i := k) ((hbs rfl e12).dat D_vv sub_all) (hbs rfl e14) Try.underlying102 sz156 rfl hlt) ?_
    refine .da (X := SA w S []) (e := Vo.d (L[k]'hlt)) (sp_loadR (hlc rfl) agg156 sz156 (width_Vo _)) ?_
    refine .alloc z156 ?_
    refine .done ⟨by kernel_rfl, fun a17 g W17 y17 zz17 hk hg hV hR hP => ?_⟩
    obtain ⟨⟨b5_17, e5, hb5, own_b5_17⟩, e17, -, -⟩ := hV
    have lo_b5_17 : w.heap.size ≤ b5_17 := Nat.le_trans kw.size (hg.lo _ _ hb5)
    have ne_bb_b5_17 : bb ≠ b5_17 := Nat.ne_of_lt (Nat.lt_of_lt_of_le own_bb.lt (hg.lo _ _ hb5))
    have own_b5_17 : Own W17 b5_17 [(.int .i64 (0)), (.slice none 0 0), (.int .u8 (0)), (.int .i64 (0)), (.string (⟨#[]⟩)), (.slice none 0 0), (.slice none 0 0), (.string (⟨#[]⟩))] 156 := own_b5_17
    replace e0 := (hR 0 rfl).trans e0
    replace e3 := (hR 3 rfl).trans e3
    replace e12 := (hR 12 rfl).trans e12
    replace e13 := (hR 13 rfl).trans e13
    replace e14 := (hR 14 rfl).trans e14
    replace D_vv := sa_more D_vv hk [b5_17] (in_cons (hg.lo _ _ hb5) in_nil)
    obtain ⟨v17_17, ev⟩ : ∃ v, sl a17 17 = v := ⟨_, rfl⟩
    rw [ev] at e17
    have D_v17_17 : Rd W17 (SA w S [b5_17]) (Vo.d (L[k]'hlt)) v17_17 := sa_end e17 hk [b5_17] (in_cons ⟨_, hb5⟩ in_nil)
    replace e17 := ev; clear ev
    obtain ⟨v17_17_1a, v17_17_1c, v17_17_5a, v17_17_5c, v17_17_6a, v17_17_6c, ev, hb_v17_17_4, hb_v17_17_7, D_v17_17_1, D_v17_17_5, D_v17_17_6⟩ := rdVo_out D_v17_17
    subst ev; clear D_v17_17
    replace own_bb := own_bb.ext hk
    replace kw := kw.x hk
    clear hR hk hg hP hb5
    refine tail_store (b := b5_17) (o := 0) (v := (.agg #[(.int .i64 ((L[k]'hlt).r.ln)), (.slice v17_17_1a (((L[k]'hlt).r.hs).length) v17_17_1c), (.int .u8 ((L[k]'hlt).r.cu.k)), (.int .i64 ((L[k]'hlt).r.cu.n)), (.string ((L[k]'hlt).r.cu.t)), (.slice v17_17_5a (((L[k]'hlt).r.cu.ns).length) v17_17_5c), (.slice v17_17_6a (((L[k]'hlt).r.cu.xs).length) v17_17_6c), (.string ((L[k]'hlt).repo))])) e5 e17 sz156 rfl own_b5_17 (lbr rfl) (all_cons rfl (all_cons rfl (all_cons rfl (all_cons rfl (all_cons rfl (all_cons rfl (all_cons rfl (all_cons rfl all_nil)))))))) (fun W18 hs own_b5_17 => ?_)
    have own_b5_17 : Own W18 b5_17 [(.int .i64 ((L[k]'hlt).r.ln)), (.slice v17_17_1a (((L[k]'hlt).r.hs).length) v17_17_1c), (.int .u8 ((L[k]'hlt).r.cu.k)), (.int .i64 ((L[k]'hlt).r.cu.n)), (.string ((L[k]'hlt).r.cu.t)), (.slice v17_17_5a (((L[k]'hlt).r.cu.ns).length) v17_17_5c), (.slice v17_17_6a (((L[k]'hlt).r.cu.xs).length) v17_17_6c), (.string ((L[k]'hlt).repo))] 156 := own_b5_17
    replace own_bb := own_store own_bb hs ne_bb_b5_17
    replace D_vv := sa_store D_vv hs (by simp)
    replace D_v17_17_1 := sa_store D_v17_17_1 hs (by simp)
    replace D_v17_17_5 := sa_store D_v17_17_5 hs (by simp)
    replace D_v17_17_6 := sa_store D_v17_17_6 hs (by simp)
    replace kw := keeps_store kw hs lo_b5_17
    clear hs
    refine tail_nil (hK16 _ _ ?_)
    refine rg mixed y17 zz17 ?_
    refine .i (sp_move (hbs rfl e3)) ?_
    refine .i (sp_move (hbs rfl e0)) ?_
    refine .i (sp_nilP (hlc rfl)) ?_
    refine .i (fo 1 (hlc rfl) Try.underlying104 rfl sz102 rfl) ?_
    refine .i (lo1 (hlc rfl) own_bb trivial agg102 sz102 rfl) ?_
    refine .i (fo 0 (hbs rfl e5) Try.underlying156 rfl sz87 rfl) ?_
    refine .i (v := (.agg #[(.int .i64 ((L[k]'hlt).r.ln)), (.slice v17_17_1a (((L[k]'hlt).r.hs).length) v17_17_1c), (.int .u8 ((L[k]'hlt).r.cu.k)), (.int .i64 ((L[k]'hlt).r.cu.n)), (.string ((L[k]'hlt).r.cu.t)), (.slice v17_17_5a (((L[k]'hlt).r.cu.ns).length) v17_17_5c), (.slice v17_17_6a (((L[k]'hlt).r.cu.xs).length) v17_17_6c)])) (loA (hlc rfl) own_b5_17 trivial agg87 sz87 rfl rfl) ?_
    refine .i (v := (.int .i64 (((cntV L ((L[k]'hlt).r) : Nat) : Int)))) (sp_call2 (φ1 := IsD (SA w S [b5_17]) (vosD (L))) (φ2 := IsD (SA w S [b5_17]) (Rc.d ((L[k]'hlt).r))) ent118 ((hlc rfl).dat D_vv sub_all) ((hlc rfl).dat (rdRc_mk D_v17_17_1 (rdV_in (x := (L[k]'hlt).r.cu) hb_v17_17_4 D_v17_17_5 D_v17_17_6 : Rd W18 (SA w S [b5_17]) (V.d ((L[k]'hlt).r.cu)) _) : Rd W18 (SA w S [b5_17]) (Rc.d ((L[k]'hlt).r)) _) sub_all) (fun g u1 u2 W hk hgk h1 h2 => count30_ok (L) ((L[k]'hlt).r) hL (hL _ (List.getElem_mem _)) W _ _ _ (fun b o h => sa_cln hS b o h.1) h1 h2)) ?_
    refine .i (sp_max (hlc rfl) (hlc rfl)) ?_
    refine .i (sp_assign (hlc rfl)) ?_
    refine .done ⟨by kernel_rfl, fun a19 g W19 y19 zz19 hk hg hV hR hP => ?_⟩
    obtain ⟨e3, -, -, -, -, -, -, -, -, -, -⟩ := hV
    replace e0 := (hR 0 rfl).trans e0
    replace e12 := (hR 12 rfl).trans e12
    replace e13 := (hR 13 rfl).trans e13
    replace e14 := (hR 14 rfl).trans e14
    replace D_vv := D_vv.ext hk
    replace D_v17_17_1 := D_v17_17_1.ext hk
    replace D_v17_17_5 := D_v17_17_5.ext hk
    replace D_v17_17_6 := D_v17_17_6.ext hk
    replace e3 := e3.q
    replace own_bb := own_bb.ext hk
    replace own_b5_17 := own_b5_17.ext hk
    replace kw := kw.x hk
    clear hR hk hg hP
    refine tail_nil (hK15 _ _ ?_)
    refine rg mixed y19 zz19 ?_
    refine .i (sp_add (hbs rfl e14) Has.cst (i64_in (by omega))) ?_
    refine .i (sp_move (hlc rfl)) ?_
    refine .done ⟨by kernel_rfl, fun a20 g W20 y20 zz20 hk hg hV hR hP => ?_⟩
    obtain ⟨e14, -, -⟩ := hV
    replace e0 := (hR 0 rfl).trans e0
    replace e3 := (hR 3 rfl).trans e3
    replace e12 := (hR 12 rfl).trans e12
    replace e13 := (hR 13 rfl).trans e13
    replace D_vv := D_vv.ext hk
    replace e14 := e14.q
    replace own_bb := own_bb.ext hk
    replace own_b5_17 := own_b5_17.ext hk
    replace kw := kw.x hk
    clear hR hk hg hP
    exact tail_nil ⟨hlt, y20, zz20, kw, e0, (e3.trans (congrArg (Value.int .i64) (by omega))), e12, e13, (e14.trans (congrArg (Value.int .i64) (by simp))), own_bb, (sa_less D_vv ls_nil)⟩
   ·
    have hge0 : ¬ k < L.length := by simpa using hc
    have hge : k = L.length := by omega
    refine wp_exit (hK8 _ _ ?_)
    refine wp_seq_k fun K21 hK21 => ?_
    refine rg mixed y13 zz13 ?_
    refine .i (sp_move (hbs rfl e3)) ?_
    refine .i (sp_assign (hlc rfl)) ?_
    refine .done ⟨by kernel_rfl, fun a22 g W22 y22 zz22 hk hg hV hR hP => ?_⟩
    obtain ⟨e2, -, -⟩ := hV
    replace D_vv := D_vv.ext hk
    replace e2 := e2.q
    replace own_bb := own_bb.ext hk
    replace kw := kw.x hk
    clear hR hk hg hP
    refine tail_nil (hK21 _ _ ?_)
    refine wp_ret ?_
    refine (show bodyPost Try.prog Try.f58 _ .ret _ _ from ret1 rfl zz22 e2 ⟨_, rfl, kw, ?_⟩)
    rw [hge, List.take_length]
set_option maxRecDepth 100000 in
set_option maxHeartbeats 1000000 in
theorem Won_ok (want : Int) (L : List Vo) (w : World) (S : BSet) (vv : Value) (bb : Nat) (own_bb : Own w bb [.int .i64 want, vv] 104) (hw : 0 < want) (hL : ∀ x ∈ L, x.r.cu.wt ≤ 1073741824) (hH : ∀ x ∈ L, x.r.hs.length ≤ 1073741824) (hS : ∀ b o, S b o → Cln o) (hv : Rd w S (vosD L) vv) : Calls Try.prog 56 #[.pointer (some ⟨bb, 0, none⟩)] w (Ret w fun r W => ∃ r1, r = .tuple #[r1, .string (wonS want L), .bool (wonB want L)] ∧ Rd W (Fr w) (Rc.d (wonR want L)) r1) := by
  have hmx : L.length ≤ maxLen := rdVos_len hv
  simp only [maxLen] at hmx
  obtain ⟨vva, vvc, ev, D_vv⟩ := rdVos_out (rd_arg hv)
  subst ev
  refine enter Try.func56 rfl Try.ntmps56 (lbr rfl) fun a0 y0 zz0 harg => ?_
  have e0 : sl a0 0 = (.pointer (some ⟨bb, 0, none⟩)) := harg 0 (lbr rfl)
  have kw := Keeps.refl All w
  clear harg
  refine wp_seq_k fun K1 hK1 => ?_
  refine rg mixed y0 zz0 ?_
  refine .alloc z87 ?_
  refine .i (sp_assign Has.cst) ?_
  refine .i (sp_assign Has.cst) ?_
  refine .done ⟨by kernel_rfl, fun a2 g W2 y2 zz2 hk hg hV hR hP => ?_⟩
  obtain ⟨-, -, ⟨b2_2, e2, hb2, own_b2_2⟩, -⟩ := hV
  have lo_b2_2 : w.heap.size ≤ b2_2 := Nat.le_trans kw.size (hg.lo _ _ hb2)
  have ne_bb_b2_2 : bb ≠ b2_2 := Nat.ne_of_lt (Nat.lt_of_lt_of_le own_bb.lt (hg.lo _ _ hb2))
  have own_b2_2 : Own W2 b2_2 [(.int .i64 (0)), (.slice none 0 0), (.int .u8 (0)), (.int .i64 (0)), (.string (⟨#[]⟩)), (.slice none 0 0), (.slice none 0 0)] 87 := own_b2_2
  replace e0 := (hR 0 rfl).trans e0
  replace D_vv := sa_more D_vv hk [b2_2] (in_cons (hg.lo _ _ hb2) in_nil)
  replace own_bb := own_bb.ext hk
  replace kw := kw.x hk
  clear hR hk hg hP hb2
  refine tail_nil (hK1 _ _ ?_)
  refine wp_seq_k fun K3 hK3 => ?_
  refine wp_seq_k fun K4 hK4 => ?_
  refine rg mixed y2 zz2 ?_
  refine .i (sp_move (hbs rfl e0)) ?_
  refine .i (v := (.bool (decide (0 < want)))) (sp_call1 (φ1 := Is (.pointer (some ⟨bb, 0, none⟩))) ent115 (hlc rfl) (fun g u1 W hk hgk h1 => by have h1 : u1 = _ := h1; subst u1; exact made_ok (want) W _ _ (own_bb.ext hk))) ?_
  refine .i (sp_not (hlc rfl)) ?_
  refine .done ⟨by kernel_rfl, fun a5 g W5 y5 zz5 hk hg hV hR hP => ?_⟩
  obtain ⟨e12, -, -, -⟩ := hV
  replace e0 := (hR 0 rfl).trans e0
  replace e2 := (hR 2 rfl).trans e2
  replace D_vv := D_vv.ext hk
  have e12 : sl a5 12 = (.bool (!(decide (0 < want)))) := e12
  replace own_bb := own_bb.ext hk
  replace own_b2_2 := own_b2_2.ext hk
  replace kw := kw.x hk
  clear hR hk hg hP
  refine tail_nil (hK4 _ _ ?_)
  refine wp_cond_split e12 (fun hc => ?_) (fun hc => ?_)
  ·
   exfalso
   simp [hw] at hc
  ·
   refine wp_skip (hK3 _ _ ?_)
   refine wp_seq_k fun K6 hK6 => ?_
   refine wp_seq_k fun K7 hK7 => ?_
   refine rg mixed y5 zz5 ?_
   refine .i (sp_move (hbs rfl e0)) ?_
   refine .i (sp_nilP (hlc rfl)) ?_
   refine .i (fo 1 (hlc rfl) Try.underlying104 rfl sz102 rfl) ?_
   refine .i (lo1 (hlc rfl) own_bb trivial agg102 sz102 rfl) ?_
   refine .i (sp_lenL Try.underlying102 ((hlc rfl).dat D_vv sub_all)) ?_
   refine .i (sp_move Has.cst) ?_
   refine .done ⟨by kernel_rfl, fun a8 g W8 y8 zz8 hk hg hV hR hP => ?_⟩
   obtain ⟨e19, e18, e17, -, -, -, -⟩ := hV
   replace e0 := (hR 0 rfl).trans e0
   replace e2 := (hR 2 rfl).trans e2
   replace D_vv := D_vv.ext hk
   have e17 : sl a8 17 = (.slice vva (L.length) vvc) := e17
   have e18 : sl a8 18 = (.int .i64 (L.length)) := e18
   have e19 : sl a8 19 = (.int .i64 (0)) := e19
   replace own_bb := own_bb.ext hk
   replace own_b2_2 := own_b2_2.ext hk
   replace kw := kw.x hk
   clear hR hk hg hP
   refine tail_nil (hK7 _ _ ?_)
   refine wp_block ?_
   refine wp_for (L.length) (fun k a W => a.tmps.size = 58 ∧ a.defers = [] ∧ Keeps All w W ∧ sl a 0 = (.pointer (some ⟨bb, 0, none⟩)) ∧ sl a 2 = (.pointer (some ⟨b2_2, 0, none⟩)) ∧ sl a 17 = (.slice vva (L.length) vvc) ∧ sl a 18 = (.int .i64 (L.length)) ∧ sl a 19 = (.int .i64 ((k : Nat))) ∧ Own W bb [(.int .i64 (want)), (.slice vva (L.length) vvc)] 104 ∧ Own W b2_2 [(.int .i64 (0)), (.slice none 0 0), (.int .u8 (0)), (.int .i64 (0)), (.string (⟨#[]⟩)), (.slice none 0 0), (.slice none 0 0)] 87 ∧ Rd W (SA w S [b2_2]) (vosD (L)) (.slice vva (L.length) vvc) ∧ (wonO want L = wonF want L (L.length - k) k)) ⟨y8, zz8, kw, e0, e2, e17, e18, (e19.trans (congrArg (Value.int .i64) (rfl))), own_bb, own_b2_2, D_vv, rfl⟩ ?_
   clear kw e0 e2 e17 e18 e19 own_bb own_b2_2 D_vv
   rintro k a9 W9 hkk ⟨y9, zz9, kw, e0, e2, e17, e18, e19, own_bb, own_b2_2, D_vv, hin⟩
   refine wp_seq_k fun K10 hK10 => ?_
   refine rg mixed y9 zz9 ?_
   refine .i (sp_lss (hbs rfl e19) (hbs rfl e18)) ?_
   refine .done ⟨by kernel_rfl, fun a11 g W11 y11 zz11 hk hg hV hR hP => ?_⟩
   obtain ⟨e20, -⟩ := hV
   replace e0 := (hR 0 rfl).trans e0
   replace e2 := (hR 2 rfl).trans e2
   replace e17 := (hR 17 rfl).trans e17
   replace e18 := (hR 18 rfl).trans e18
   replace e19 := (hR 19 rfl).trans e19
   replace D_vv := D_vv.ext hk
   replace e20 := e20.q
   replace own_bb := own_bb.ext hk
   replace own_b2_2 := own_b2_2.ext hk
   replace kw := kw.x hk
   clear hR hk hg hP
   refine tail_nil (hK10 _ _ ?_)
   refine wp_seq_k fun K12 hK12 => ?_
   refine wp_cond_split e20 (fun hc => ?_) (fun hc => ?_)
   ·
    have hlt : k < L.length := by simpa using hc
    have hst := wonF_step (want := want) hlt
    rw [hst] at hin
    refine wp_skip (hK12 _ _ ?_)
    refine wp_seq_k fun K13 hK13 => ?_
    refine wp_block ?_
    refine wp_seq_k fun K14 hK14 => ?_
    refine rg mixed y11 zz11 ?_
    refine .i (sp_move (hbs rfl e19)) ?_
    refine .rf (X := SA w S [b2_2]) (e := Vo.d (L[k]'hlt)) (sp_indexL (i := k) ((hbs rfl e17).dat D_vv sub_all) (hbs rfl e19) Try.underlying102 sz156 rfl hlt) ?_
    refine .da (X := SA w S [b2_2]) (e := Vo.d (L[k]'hlt)) (sp_loadR (hlc rfl) agg156 sz156 (width_Vo _)) ?_
    refine .alloc z156 ?_
    refine .i (sp_assign (hlc rfl)) ?_
    refine .done ⟨by kernel_rfl, fun a15 g W15 y15 zz15 hk hg hV hR hP => ?_⟩
    obtain ⟨e5, ⟨b6_15, e6, hb6, own_b6_15⟩, e23, -, -, -⟩ := hV
    have lo_b6_15 : w.heap.size ≤ b6_15 := Nat.le_trans kw.size (hg.lo _ _ hb6)
    have ne_bb_b6_15 : bb ≠ b6_15 := Nat.ne_of_lt (Nat.lt_of_lt_of_le own_bb.lt (hg.lo _ _ hb6))
    have ne_b2_2_b6_15 : b2_2 ≠ b6_15 := Nat.ne_of_lt (Nat.lt_of_lt_of_le own_b2_2.lt (hg.lo _ _ hb6))
    have own_b6_15 : Own W15 b6_15 [(.int .i64 (0)), (.slice none 0 0), (.int .u8 (0)), (.int .i64 (0)), (.string (⟨#[]⟩)), (.slice none 0 0), (.slice none 0 0), (.string (⟨#[]⟩))] 156 := own_b6_15
    replace e0 := (hR 0 rfl).trans e0
    replace e2 := (hR 2 rfl).trans e2
    replace e17 := (hR 17 rfl).trans e17
    replace e18 := (hR 18 rfl).trans e18
    replace e19 := (hR 19 rfl).trans e19
    replace D_vv := sa_more D_vv hk [b6_15] (in_cons (hg.lo _ _ hb6) in_nil)
    obtain ⟨v23_15, ev⟩ : ∃ v, sl a15 23 = v := ⟨_, rfl⟩
    rw [ev] at e23
    have D_v23_15 : Rd W15 (SA w S [b6_15, b2_2]) (Vo.d (L[k]'hlt)) v23_15 := sa_end e23 hk [b6_15] (in_cons ⟨_, hb6⟩ in_nil)
    replace e23 := ev; clear ev
    obtain ⟨v23_15_1a, v23_15_1c, v23_15_5a, v23_15_5c, v23_15_6a, v23_15_6c, ev, hb_v23_15_4, hb_v23_15_7, D_v23_15_1, D_v23_15_5, D_v23_15_6⟩ := rdVo_out D_v23_15
    subst ev; clear D_v23_15
    have e5 : sl a15 5 = (.int .i64 ((k : Nat))) := e5
    replace own_bb := own_bb.ext hk
    replace own_b2_2 := own_b2_2.ext hk
    replace kw := kw.x hk
    clear hR hk hg hP hb6
    refine tail_store (b := b6_15) (o := 0) (v := (.agg #[(.int .i64 ((L[k]'hlt).r.ln)), (.slice v23_15_1a (((L[k]'hlt).r.hs).length) v23_15_1c), (.int .u8 ((L[k]'hlt).r.cu.k)), (.int .i64 ((L[k]'hlt).r.cu.n)), (.string ((L[k]'hlt).r.cu.t)), (.slice v23_15_5a (((L[k]'hlt).r.cu.ns).length) v23_15_5c), (.slice v23_15_6a (((L[k]'hlt).r.cu.xs).length) v23_15_6c), (.string ((L[k]'hlt).repo))])) e6 e23 sz156 rfl own_b6_15 (lbr rfl) (all_cons rfl (all_cons rfl (all_cons rfl (all_cons rfl (all_cons rfl (all_cons rfl (all_cons rfl (all_cons rfl all_nil)))))))) (fun W16 hs own_b6_15 => ?_)
    have own_b6_15 : Own W16 b6_15 [(.int .i64 ((L[k]'hlt).r.ln)), (.slice v23_15_1a (((L[k]'hlt).r.hs).length) v23_15_1c), (.int .u8 ((L[k]'hlt).r.cu.k)), (.int .i64 ((L[k]'hlt).r.cu.n)), (.string ((L[k]'hlt).r.cu.t)), (.slice v23_15_5a (((L[k]'hlt).r.cu.ns).length) v23_15_5c), (.slice v23_15_6a (((L[k]'hlt).r.cu.xs).length) v23_15_6c), (.string ((L[k]'hlt).repo))] 156 := own_b6_15
    replace own_bb := own_store own_bb hs ne_bb_b6_15
    replace own_b2_2 := own_store own_b2_2 hs ne_b2_2_b6_15
    replace D_vv := sa_store D_vv hs (by simp)
    replace D_v23_15_1 := sa_store D_v23_15_1 hs (by simp)
    replace D_v23_15_5 := sa_store D_v23_15_5 hs (by simp)
    replace D_v23_15_6 := sa_store D_v23_15_6 hs (by simp)
    replace kw := keeps_store kw hs lo_b6_15
    clear hs
    refine tail_nil (hK14 _ _ ?_)
    refine wp_seq_k fun K17 hK17 => ?_
    refine rg mixed y15 zz15 ?_
    refine .i (sp_move (hbs rfl e0)) ?_
    refine .i (sp_nilP (hlc rfl)) ?_
    refine .i (fo 1 (hlc rfl) Try.underlying104 rfl sz102 rfl) ?_
    refine .i (lo1 (hlc rfl) own_bb trivial agg102 sz102 rfl) ?_
    refine .i (sp_move (hbs rfl e5)) ?_
    refine .i (sp_add (hlc rfl) Has.cst (i64_in (by omega))) ?_
    refine .da (X := SA w S [b6_15, b2_2]) (e := vosD (L.take (k + 1))) (sp_sliceDVo (h := (k + 1)) Try.underlying102 sz156 ((hlc rfl).dat D_vv sub_all) (hlc rfl) (by omega) (by omega) (by omega)) ?_
    refine .da (X := SA w S [b6_15, b2_2]) (e := vosD (L.take (k + 1))) (sp_assign (hlc rfl)) ?_
    refine .done ⟨by kernel_rfl, fun a18 g W18 y18 zz18 hk hg hV hR hP => ?_⟩
    obtain ⟨e7, -, -, -, -, -, -, -, -⟩ := hV
    replace e0 := (hR 0 rfl).trans e0
    replace e2 := (hR 2 rfl).trans e2
    replace e17 := (hR 17 rfl).trans e17
    replace e18 := (hR 18 rfl).trans e18
    replace e19 := (hR 19 rfl).trans e19
    replace e6 := (hR 6 rfl).trans e6
    replace D_vv := D_vv.ext hk
    replace D_v23_15_1 := D_v23_15_1.ext hk
    replace D_v23_15_5 := D_v23_15_5.ext hk
    replace D_v23_15_6 := D_v23_15_6.ext hk
    obtain ⟨v7_18, ev⟩ : ∃ v, sl a18 7 = v := ⟨_, rfl⟩
    rw [ev] at e7
    have D_v7_18 : Rd W18 (SA w S [b6_15, b2_2]) (vosD (L.take (k + 1))) v7_18 := sa_end e7 hk [] in_nil
    replace e7 := ev; clear ev
    obtain ⟨v7_18a, v7_18c, ev, D2⟩ := rdVos_out D_v7_18
    subst ev; replace D_v7_18 := D2; clear D2
    replace own_bb := own_bb.ext hk
    replace own_b2_2 := own_b2_2.ext hk
    replace own_b6_15 := own_b6_15.ext hk
    replace kw := kw.x hk
    clear hR hk hg hP
    refine tail_nil (hK17 _ _ ?_)
    refine wp_seq_k fun K19 hK19 => ?_
    refine wp_seq_k fun K20 hK20 => ?_
    refine rg mixed y18 zz18 ?_
    refine .i (sp_move (hbs rfl e7)) ?_
    refine .i (fo 0 (hbs rfl e6) Try.underlying156 rfl sz87 rfl) ?_
    refine .i (v := (.agg #[(.int .i64 ((L[k]'hlt).r.ln)), (.slice v23_15_1a (((L[k]'hlt).r.hs).length) v23_15_1c), (.int .u8 ((L[k]'hlt).r.cu.k)), (.int .i64 ((L[k]'hlt).r.cu.n)), (.string ((L[k]'hlt).r.cu.t)), (.slice v23_15_5a (((L[k]'hlt).r.cu.ns).length) v23_15_5c), (.slice v23_15_6a (((L[k]'hlt).r.cu.xs).length) v23_15_6c)])) (loA (hlc rfl) own_b6_15 trivial agg87 sz87 rfl rfl) ?_
    refine .i (v := (.int .i64 (((cntV (L.take (k + 1)) ((L[k]'hlt).r) : Nat) : Int)))) (sp_call2 (φ1 := IsD (SA w S [b6_15, b2_2]) (vosD (L.take (k + 1)))) (φ2 := IsD (SA w S [b6_15, b2_2]) (Rc.d ((L[k]'hlt).r))) ent118 ((hlc rfl).dat D_v7_18 sub_all) ((hlc rfl).dat (rdRc_mk D_v23_15_1 (rdV_in (x := (L[k]'hlt).r.cu) hb_v23_15_4 D_v23_15_5 D_v23_15_6 : Rd W18 (SA w S [b6_15, b2_2]) (V.d ((L[k]'hlt).r.cu)) _) : Rd W18 (SA w S [b6_15, b2_2]) (Rc.d ((L[k]'hlt).r)) _) sub_all) (fun g u1 u2 W hk hgk h1 h2 => count30_ok (L.take (k + 1)) ((L[k]'hlt).r) (fun x hx => hL x (List.mem_of_mem_take hx)) (hL _ (List.getElem_mem _)) W _ _ _ (fun b o h => sa_cln hS b o h.1) h1 h2)) ?_
    refine .i (sp_move (hbs rfl e0)) ?_
    refine .i (sp_nilP (hlc rfl)) ?_
    refine .i (fo 0 (hlc rfl) Try.underlying104 rfl sz3 rfl) ?_
    refine .i (lo1 (hlc rfl) own_bb trivial agg3 sz3 rfl) ?_
    refine .i (sp_lss (hlc rfl) (hlc rfl)) ?_
    refine .done ⟨by kernel_rfl, fun a21 g W21 y21 zz21 hk hg hV hR hP => ?_⟩
    obtain ⟨e39, -, -, -, -, -, -, -, -, -⟩ := hV
    replace e0 := (hR 0 rfl).trans e0
    replace e2 := (hR 2 rfl).trans e2
    replace e17 := (hR 17 rfl).trans e17
    replace e18 := (hR 18 rfl).trans e18
    replace e19 := (hR 19 rfl).trans e19
    replace e6 := (hR 6 rfl).trans e6
    replace e7 := (hR 7 rfl).trans e7
    replace D_vv := D_vv.ext hk
    replace D_v23_15_1 := D_v23_15_1.ext hk
    replace D_v23_15_5 := D_v23_15_5.ext hk
    replace D_v23_15_6 := D_v23_15_6.ext hk
    replace D_v7_18 := D_v7_18.ext hk
    replace e39 := e39.q
    replace own_bb := own_bb.ext hk
    replace own_b2_2 := own_b2_2.ext hk
    replace own_b6_15 := own_b6_15.ext hk
    replace kw := kw.x hk
    clear hR hk hg hP
    refine tail_nil (hK20 _ _ ?_)
    refine wp_cond_split e39 (fun hc => ?_) (fun hc => ?_)
    ·
     have hlt2 := of_decide_eq_true hc
     rw [if_neg (by omega)] at hin
     refine wp_exit (hK13 _ _ ?_)
     refine rg mixed y21 zz21 ?_
     refine .i (sp_add (hbs rfl e19) Has.cst (i64_in (by omega))) ?_
     refine .i (sp_move (hlc rfl)) ?_
     refine .done ⟨by kernel_rfl, fun a22 g W22 y22 zz22 hk hg hV hR hP => ?_⟩
     obtain ⟨e19, -, -⟩ := hV
     replace e0 := (hR 0 rfl).trans e0
     replace e2 := (hR 2 rfl).trans e2
     replace e17 := (hR 17 rfl).trans e17
     replace e18 := (hR 18 rfl).trans e18
     replace D_vv := D_vv.ext hk
     replace D_v23_15_1 := D_v23_15_1.ext hk
     replace D_v23_15_5 := D_v23_15_5.ext hk
     replace D_v23_15_6 := D_v23_15_6.ext hk
     replace D_v7_18 := D_v7_18.ext hk
     replace e19 := e19.q
     replace own_bb := own_bb.ext hk
     replace own_b2_2 := own_b2_2.ext hk
     replace own_b6_15 := own_b6_15.ext hk
     replace kw := kw.x hk
     clear hR hk hg hP
     exact tail_nil ⟨hlt, y22, zz22, kw, e0, e2, e17, e18, (e19.trans (congrArg (Value.int .i64) (by simp))), own_bb, own_b2_2, (sa_less D_vv (ls_skip (ls_keep ls_nil))), hin⟩
    ·
     have hlt2 := of_decide_eq_false hc
     rw [if_pos (by omega)] at hin
     have hlen : (L.take (k + 1)).length = k + 1 := by simp; omega
     refine wp_skip (hK19 _ _ ?_)
     refine wp_seq_k fun K23 hK23 => ?_
     refine rg mixed y21 zz21 ?_
     refine .i (sp_move (hbs rfl e7)) ?_
     refine .i (sp_lenL Try.underlying102 ((hlc rfl).dat D_v7_18 sub_all)) ?_
     refine .i (sp_move Has.cst) ?_
     refine .done ⟨by kernel_rfl, fun a24 g W24 y24 zz24 hk hg hV hR hP => ?_⟩
     obtain ⟨e42, e41, e40, -⟩ := hV
     replace e0 := (hR 0 rfl).trans e0
     replace e2 := (hR 2 rfl).trans e2
     replace e17 := (hR 17 rfl).trans e17
     replace e18 := (hR 18 rfl).trans e18
     replace e19 := (hR 19 rfl).trans e19
     replace e6 := (hR 6 rfl).trans e6
     replace D_vv := D_vv.ext hk
     replace D_v23_15_1 := D_v23_15_1.ext hk
     replace D_v23_15_5 := D_v23_15_5.ext hk
     replace D_v23_15_6 := D_v23_15_6.ext hk
     replace D_v7_18 := D_v7_18.ext hk
     replace e40 := e40.q
     have e41 : sl a24 41 = (.int .i64 ((L.take (k + 1)).length)) := e41
     have e42 : sl a24 42 = (.int .i64 (0)) := e42
     replace own_bb := own_bb.ext hk
     replace own_b2_2 := own_b2_2.ext hk
     replace own_b6_15 := own_b6_15.ext hk
     replace kw := kw.x hk
     clear hR hk hg hP
     refine tail_nil (hK23 _ _ ?_)
     refine wp_block ?_
     refine wp_for ((L.take (k + 1)).length) (fun j a W => a.tmps.size = 58 ∧ a.defers = [] ∧ Keeps All w W ∧ sl a 0 = (.pointer (some ⟨bb, 0, none⟩)) ∧ sl a 2 = (.pointer (some ⟨b2_2, 0, none⟩)) ∧ sl a 6 = (.pointer (some ⟨b6_15, 0, none⟩)) ∧ sl a 17 = (.slice vva (L.length) vvc) ∧ sl a 18 = (.int .i64 (L.length)) ∧ sl a 19 = (.int .i64 ((k : Nat))) ∧ sl a 40 = (.slice v7_18a ((L.take (k + 1)).length) v7_18c) ∧ sl a 41 = (.int .i64 ((L.take (k + 1)).length)) ∧ sl a 42 = (.int .i64 ((j : Nat))) ∧ Own W bb [(.int .i64 (want)), (.slice vva (L.length) vvc)] 104 ∧ Own W b2_2 [(.int .i64 (0)), (.slice none 0 0), (.int .u8 (0)), (.int .i64 (0)), (.string (⟨#[]⟩)), (.slice none 0 0), (.slice none 0 0)] 87 ∧ Own W b6_15 [(.int .i64 ((L[k]'hlt).r.ln)), (.slice v23_15_1a (((L[k]'hlt).r.hs).length) v23_15_1c), (.int .u8 ((L[k]'hlt).r.cu.k)), (.int .i64 ((L[k]'hlt).r.cu.n)), (.string ((L[k]'hlt).r.cu.t)), (.slice v23_15_5a (((L[k]'hlt).r.cu.ns).length) v23_15_5c), (.slice v23_15_6a (((L[k]'hlt).r.cu.xs).length) v23_15_6c), (.string ((L[k]'hlt).repo))] 156 ∧ Rd W (SA w S [b6_15, b2_2]) (vosD (L)) (.slice vva (L.length) vvc) ∧ Rd W (SA w S [b6_15, b2_2]) (hssD ((L[k]'hlt).r.hs)) (.slice v23_15_1a (((L[k]'hlt).r.hs).length) v23_15_1c) ∧ Rd W (SA w S [b6_15, b2_2]) (strsD ((L[k]'hlt).r.cu.ns)) (.slice v23_15_5a (((L[k]'hlt).r.cu.ns).length) v23_15_5c) ∧ Rd W (SA w S [b6_15, b2_2]) (valsD ((L[k]'hlt).r.cu.xs)) (.slice v23_15_6a (((L[k]'hlt).r.cu.xs).length) v23_15_6c) ∧ Rd W (SA w S [b6_15, b2_2]) (vosD (L.take (k + 1))) (.slice v7_18a ((L.take (k + 1)).length) v7_18c) ∧ (∀ i (h : i < (L.take (k + 1)).length), i < j → ((L.take (k + 1))[i]'h).r ≠ (L[k]'hlt).r)) ⟨y24, zz24, kw, e0, e2, e6, e17, e18, e19, e40, e41, (e42.trans (congrArg (Value.int .i64) (rfl))), own_bb, own_b2_2, own_b6_15, D_vv, D_v23_15_1, D_v23_15_5, D_v23_15_6, D_v7_18, fun i h hi => absurd hi (by omega)⟩ ?_
     clear kw e0 e2 e6 e17 e18 e19 e40 e41 e42 own_bb own_b2_2 own_b6_15 D_vv D_v23_15_1 D_v23_15_5 D_v23_15_6 D_v7_18
     rintro j a25 W25 hkj ⟨y25, zz25, kw, e0, e2, e6, e17, e18, e19, e40, e41, e42, own_bb, own_b2_2, own_b6_15, D_vv, D_v23_15_1, D_v23_15_5, D_v23_15_6, D_v7_18, hnn⟩
     refine wp_seq_k fun K26 hK26 => ?_
     refine rg mixed y25 zz25 ?_
     refine .i (sp_lss (hbs rfl e42) (hbs rfl e41)) ?_
     refine .done ⟨by kernel_rfl, fun a27 g W27 y27 zz27 hk hg hV hR hP => ?_⟩
     obtain ⟨e43, -⟩ := hV
     replace e0 := (hR 0 rfl).trans e0
     replace e2 := (hR 2 rfl).trans e2
     replace e17 := (hR 17 rfl).trans e17
     replace e18 := (hR 18 rfl).trans e18
     replace e19 := (hR 19 rfl).trans e19
     replace e6 := (hR 6 rfl).trans e6
     replace e40 := (hR 40 rfl).trans e40
     replace e41 := (hR 41 rfl).trans e41
     replace e42 := (hR 42 rfl).trans e42
     replace D_vv := D_vv.ext hk
     replace D_v23_15_1 := D_v23_15_1.ext hk
     replace D_v23_15_5 := D_v23_15_5.ext hk
     replace D_v23_15_6 := D_v23_15_6.ext hk
     replace D_v7_18 := D_v7_18.ext hk
     replace e43 := e43.q
     replace own_bb := own_bb.ext hk
     replace own_b2_2 := own_b2_2.ext hk
     replace own_b6_15 := own_b6_15.ext hk
     replace kw := kw.x hk
     clear hR hk hg hP
     refine tail_nil (hK26 _ _ ?_)
     refine wp_seq_k fun K28 hK28 => ?_
     refine wp_cond_split e43 (fun hc => ?_) (fun hc => ?_)
     ·
      have hltj : j < (L.take (k + 1)).length := by have := of_decide_eq_true hc; omega
      refine wp_skip (hK28 _ _ ?_)
      refine wp_seq_k fun K29 hK29 => ?_
      refine wp_block ?_
      refine wp_seq_k fun K30 hK30 => ?_
      refine rg mixed y27 zz27 ?_
      refine .rf (X := SA w S [b6_15, b2_2]) (e := Vo.d ((L.take (k + 1))[j]'hltj)) (sp_indexL (i := j) ((hbs rfl e40).dat D_v7_18 sub_all) (hbs rfl e42) Try.underlying102 sz156 rfl hltj) ?_
      refine .da (X := SA w S [b6_15, b2_2]) (e := Vo.d ((L.take (k + 1))[j]'hltj)) (sp_loadR (hlc rfl) agg156 sz156 (width_Vo _)) ?_
      refine .alloc z156 ?_
      refine .done ⟨by kernel_rfl, fun a31 g W31 y31 zz31 hk hg hV hR hP => ?_⟩
      obtain ⟨⟨b9_31, e9, hb9, own_b9_31⟩, e45, -, -⟩ := hV
      have lo_b9_31 : w.heap.size ≤ b9_31 := Nat.le_trans kw.size (hg.lo _ _ hb9)
      have ne_bb_b9_31 : bb ≠ b9_31 := Nat.ne_of_lt (Nat.lt_of_lt_of_le own_bb.lt (hg.lo _ _ hb9))
      have ne_b2_2_b9_31 : b2_2 ≠ b9_31 := Nat.ne_of_lt (Nat.lt_of_lt_of_le own_b2_2.lt (hg.lo _ _ hb9))
      have ne_b6_15_b9_31 : b6_15 ≠ b9_31 := Nat.ne_of_lt (Nat.lt_of_lt_of_le own_b6_15.lt (hg.lo _ _ hb9))
      have own_b9_31 : Own W31 b9_31 [(.int .i64 (0)), (.slice none 0 0), (.int .u8 (0)), (.int .i64 (0)), (.string (⟨#[]⟩)), (.slice none 0 0), (.slice none 0 0), (.string (⟨#[]⟩))] 156 := own_b9_31
      replace e0 := (hR 0 rfl).trans e0
      replace e2 := (hR 2 rfl).trans e2
      replace e17 := (hR 17 rfl).trans e17
      replace e18 := (hR 18 rfl).trans e18
      replace e19 := (hR 19 rfl).trans e19
      replace e6 := (hR 6 rfl).trans e6
      replace e40 := (hR 40 rfl).trans e40
      replace e41 := (hR 41 rfl).trans e41
      replace e42 := (hR 42 rfl).trans e42
      replace D_vv := sa_more D_vv hk [b9_31] (in_cons (hg.lo _ _ hb9) in_nil)
      replace D_v23_15_1 := sa_more D_v23_15_1 hk [b9_31] (in_cons (hg.lo _ _ hb9) in_nil)
      replace D_v23_15_5 := sa_more D_v23_15_5 hk [b9_31] (in_cons (hg.lo _ _ hb9) in_nil)
      replace D_v23_15_6 := sa_more D_v23_15_6 hk [b9_31] (in_cons (hg.lo _ _ hb9) in_nil)
      replace D_v7_18 := sa_more D_v7_18 hk [b9_31] (in_cons (hg.lo _ _ hb9) in_nil)
      obtain ⟨v45_31, ev⟩ : ∃ v, sl a31 45 = v := ⟨_, rfl⟩
      rw [ev] at e45
      have D_v45_31 : Rd W31 (SA w S [b9_31, b6_15, b2_2]) (Vo.d ((L.take (k + 1))[j]'hltj)) v45_31 := sa_end e45 hk [b9_31] (in_cons ⟨_, hb9⟩ in_nil)
      replace e45 := ev; clear ev
      obtain ⟨v45_31_1a, v45_31_1c, v45_31_5a, v45_31_5c, v45_31_6a, v45_31_6c, ev, hb_v45_31_4, hb_v45_31_7, D_v45_31_1, D_v45_31_5, D_v45_31_6⟩ := rdVo_out D_v45_31
      subst ev; clear D_v45_31
      replace own_bb := own_bb.ext hk
      replace own_b2_2 := own_b2_2.ext hk
      replace own_b6_15 := own_b6_15.ext hk
      replace kw := kw.x hk
      clear hR hk hg hP hb9
      refine tail_store (b := b9_31) (o := 0) (v := (.agg #[(.int .i64 (((L.take (k + 1))[j]'hltj).r.ln)), (.slice v45_31_1a ((((L.take (k + 1))[j]'hltj).r.hs).length) v45_31_1c), (.int .u8 (((L.take (k + 1))[j]'hltj).r.cu.k)), (.int .i64 (((L.take (k + 1))[j]'hltj).r.cu.n)), (.string (((L.take (k + 1))[j]'hltj).r.cu.t)), (.slice v45_31_5a ((((L.take (k + 1))[j]'hltj).r.cu.ns).length) v45_31_5c), (.slice v45_31_6a ((((L.take (k + 1))[j]'hltj).r.cu.xs).length) v45_31_6c), (.string (((L.take (k + 1))[j]'hltj).repo))])) e9 e45 sz156 rfl own_b9_31 (lbr rfl) (all_cons rfl (all_cons rfl (all_cons rfl (all_cons rfl (all_cons rfl (all_cons rfl (all_cons rfl (all_cons rfl all_nil)))))))) (fun W32 hs own_b9_31 => ?_)
      have own_b9_31 : Own W32 b9_31 [(.int .i64 (((L.take (k + 1))[j]'hltj).r.ln)), (.slice v45_31_1a ((((L.take (k + 1))[j]'hltj).r.hs).length) v45_31_1c), (.int .u8 (((L.take (k + 1))[j]'hltj).r.cu.k)), (.int .i64 (((L.take (k + 1))[j]'hltj).r.cu.n)), (.string (((L.take (k + 1))[j]'hltj).r.cu.t)), (.slice v45_31_5a ((((L.take (k + 1))[j]'hltj).r.cu.ns).length) v45_31_5c), (.slice v45_31_6a ((((L.take (k + 1))[j]'hltj).r.cu.xs).length) v45_31_6c), (.string (((L.take (k + 1))[j]'hltj).repo))] 156 := own_b9_31
      replace own_bb := own_store own_bb hs ne_bb_b9_31
      replace own_b2_2 := own_store own_b2_2 hs ne_b2_2_b9_31
      replace own_b6_15 := own_store own_b6_15 hs ne_b6_15_b9_31
      replace D_vv := sa_store D_vv hs (by simp)
      replace D_v23_15_1 := sa_store D_v23_15_1 hs (by simp)
      replace D_v23_15_5 := sa_store D_v23_15_5 hs (by simp)
      replace D_v23_15_6 := sa_store D_v23_15_6 hs (by simp)
      replace D_v7_18 := sa_store D_v7_18 hs (by simp)
      replace D_v45_31_1 := sa_store D_v45_31_1 hs (by simp)
      replace D_v45_31_5 := sa_store D_v45_31_5 hs (by simp)
      replace D_v45_31_6 := sa_store D_v45_31_6 hs (by simp)
      replace kw := keeps_store kw hs lo_b9_31
      clear hs
      refine tail_nil (hK30 _ _ ?_)
      refine wp_seq_k fun K33 hK33 => ?_
      refine rg mixed y31 zz31 ?_
      refine .i (v := (.agg #[(.int .i64 (((L.take (k + 1))[j]'hltj).r.ln)), (.slice v45_31_1a ((((L.take (k + 1))[j]'hltj).r.hs).length) v45_31_1c), (.int .u8 (((L.take (k + 1))[j]'hltj).r.cu.k)), (.int .i64 (((L.take (k + 1))[j]'hltj).r.cu.n)), (.string (((L.take (k + 1))[j]'hltj).r.cu.t)), (.slice v45_31_5a ((((L.take (k + 1))[j]'hltj).r.cu.ns).length) v45_31_5c), (.slice v45_31_6a ((((L.take (k + 1))[j]'hltj).r.cu.xs).length) v45_31_6c), (.string (((L.take (k + 1))[j]'hltj).repo))])) (loA (hbs rfl e9) own_b9_31 trivial agg156 sz156 rfl rfl) ?_
      refine .i (fo 0 (hbs rfl e6) Try.underlying156 rfl sz87 rfl) ?_
      refine .i (v := (.agg #[(.int .i64 ((L[k]'hlt).r.ln)), (.slice v23_15_1a (((L[k]'hlt).r.hs).length) v23_15_1c), (.int .u8 ((L[k]'hlt).r.cu.k)), (.int .i64 ((L[k]'hlt).r.cu.n)), (.string ((L[k]'hlt).r.cu.t)), (.slice v23_15_5a (((L[k]'hlt).r.cu.ns).length) v23_15_5c), (.slice v23_15_6a (((L[k]'hlt).r.cu.xs).length) v23_15_6c)])) (loA (hlc rfl) own_b6_15 trivial agg87 sz87 rfl rfl) ?_
      refine .i (v := (.bool (sameVo ((L.take (k + 1))[j]'hltj) ((L[k]'hlt).r)))) (sp_call2 (φ1 := IsD (SA w S [b9_31, b6_15, b2_2]) (Vo.d (((L.take (k + 1))[j]'hltj)))) (φ2 := IsD (SA w S [b9_31, b6_15, b2_2]) (Rc.d ((L[k]'hlt).r))) ent119 ((hlc rfl).dat (rdVo_mk (rdRc_mk D_v45_31_1 (rdV_in (x := ((L.take (k + 1))[j]'hltj).r.cu) hb_v45_31_4 D_v45_31_5 D_v45_31_6 : Rd W32 (SA w S [b9_31, b6_15, b2_2]) (V.d (((L.take (k + 1))[j]'hltj).r.cu)) _) : Rd W32 (SA w S [b9_31, b6_15, b2_2]) (Rc.d (((L.take (k + 1))[j]'hltj).r)) _) hb_v45_31_7 : Rd W32 (SA w S [b9_31, b6_15, b2_2]) (Vo.d (((L.take (k + 1))[j]'hltj))) _) sub_all) ((hlc rfl).dat (rdRc_mk D_v23_15_1 (rdV_in (x := (L[k]'hlt).r.cu) hb_v23_15_4 D_v23_15_5 D_v23_15_6 : Rd W32 (SA w S [b9_31, b6_15, b2_2]) (V.d ((L[k]'hlt).r.cu)) _) : Rd W32 (SA w S [b9_31, b6_15, b2_2]) (Rc.d ((L[k]'hlt).r)) _) sub_all) (fun g u1 u2 W hk hgk h1 h2 => sameVo_ok (((L.take (k + 1))[j]'hltj)) ((L[k]'hlt).r) (hL _ (List.mem_of_mem_take (List.getElem_mem hltj))) (hL _ (List.getElem_mem _)) W _ _ _ (fun b o h => sa_cln hS b o h.1) h1 h2)) ?_
      refine .done ⟨by kernel_rfl, fun a34 g W34 y34 zz34 hk hg hV hR hP => ?_⟩
      obtain ⟨e49, -, -, -, -⟩ := hV
      replace e0 := (hR 0 rfl).trans e0
      replace e2 := (hR 2 rfl).trans e2
      replace e17 := (hR 17 rfl).trans e17
      replace e18 := (hR 18 rfl).trans e18
      replace e19 := (hR 19 rfl).trans e19
      replace e6 := (hR 6 rfl).trans e6
      replace e40 := (hR 40 rfl).trans e40
      replace e41 := (hR 41 rfl).trans e41
      replace e42 := (hR 42 rfl).trans e42
      replace e9 := (hR 9 rfl).trans e9
      replace D_vv := D_vv.ext hk
      replace D_v23_15_1 := D_v23_15_1.ext hk
      replace D_v23_15_5 := D_v23_15_5.ext hk
      replace D_v23_15_6 := D_v23_15_6.ext hk
      replace D_v7_18 := D_v7_18.ext hk
      replace D_v45_31_1 := D_v45_31_1.ext hk
      replace D_v45_31_5 := D_v45_31_5.ext hk
      replace D_v45_31_6 := D_v45_31_6.ext hk
      replace e49 := e49.q
      replace own_bb := own_bb.ext hk
      replace own_b2_2 := own_b2_2.ext hk
      replace own_b6_15 := own_b6_15.ext hk
      replace own_b9_31 := own_b9_31.ext hk
      replace kw := kw.x hk
      clear hR hk hg hP
      refine tail_nil (hK33 _ _ ?_)
      refine wp_cond_split e49 (fun hc => ?_) (fun hc => ?_)
      ·
       have heq : ((L.take (k + 1))[j]'hltj).r = (L[k]'hlt).r := (sameVo_iff _ _).1 hc
       have hwS : wonS want L = (L[k]).repo := by rw [wonS, hin]
       have hwB : wonB want L = true := by rw [wonB, hin]; rfl
       have hwR : wonR want L = ((L.take (k + 1))[j]'hltj).r := by rw [wonR, hin, heq]
       refine wp_seq_k fun K35 hK35 => ?_
       refine wp_reg (fun k => k ∉ [b2_2]) (Ψ := fun W => Own W b2_2 [(.int .i64 (0)), (.slice none 0 0), (.int .u8 (0)), (.int .i64 (0)), (.string (⟨#[]⟩)), (.slice none 0 0), (.slice none 0 0)] 87) mixed y34 zz34 stE_own own_b2_2 ?_
       refine .i (fo 0 (hbs rfl e9) Try.underlying156 rfl sz87 rfl) ?_
       refine .i (v := (.agg #[(.int .i64 (((L.take (k + 1))[j]'hltj).r.ln)), (.slice v45_31_1a ((((L.take (k + 1))[j]'hltj).r.hs).length) v45_31_1c), (.int .u8 (((L.take (k + 1))[j]'hltj).r.cu.k)), (.int .i64 (((L.take (k + 1))[j]'hltj).r.cu.n)), (.string (((L.take (k + 1))[j]'hltj).r.cu.t)), (.slice v45_31_5a ((((L.take (k + 1))[j]'hltj).r.cu.ns).length) v45_31_5c), (.slice v45_31_6a ((((L.take (k + 1))[j]'hltj).r.cu.xs).length) v45_31_6c)])) (loA (hlc rfl) own_b9_31 (by simp [ne_b2_2_b9_31.symm]) agg87 sz87 rfl rfl) ?_
       refine .op (φ := IsD (Fr W34) (Rc.d (((L.take (k + 1))[j]'hltj).r))) (st_d (sub_frnl (in_cons own_b2_2.lt in_nil))) (sp_call1 (φ1 := IsD (SA w S [b9_31, b6_15, b2_2]) (Rc.d (((L.take (k + 1))[j]'hltj).r))) ent117 ((hlc rfl).dat (rdRc_mk D_v45_31_1 (rdV_in (x := ((L.take (k + 1))[j]'hltj).r.cu) hb_v45_31_4 D_v45_31_5 D_v45_31_6 : Rd W34 (SA w S [b9_31, b6_15, b2_2]) (V.d (((L.take (k + 1))[j]'hltj).r.cu)) _) : Rd W34 (SA w S [b9_31, b6_15, b2_2]) (Rc.d (((L.take (k + 1))[j]'hltj).r)) _) (sub_nl (by simp))) (fun g u1 W hk hgk h1 => (CopyR_ok (((L.take (k + 1))[j]'hltj).r) (hL _ (List.mem_of_mem_take (List.getElem_mem hltj))) (hH _ (List.mem_of_mem_take (List.getElem_mem hltj))) W _ _ (fun b o h => sa_cln hS b o h.1) h1).mono (ret_fr hk hgk))) ?_
       refine .i (fo 7 (hbs rfl e6) Try.underlying156 rfl sz9 rfl) ?_
       refine .i (lo1 (hlc rfl) own_b6_15 (by simp [ne_b2_2_b6_15.symm]) agg9 sz9 rfl) ?_
       refine .storeD (d := Rc.d (((L.take (k + 1))[j]'hltj).r)) (X := Fr W34) (hbs rfl e2) (hlc rfl) rfl sz87 (width_Rc _) rfl (sub_frnl (in_cons own_b2_2.lt in_nil)) ?_
       refine .i (sp_assign (hlc rfl)) ?_
       refine .i (sp_assign Has.cst) ?_
       refine .done ⟨by kernel_rfl, fun a36 g W36 y36 zz36 hk hg hV hR hP => ?_⟩
       obtain ⟨e4, e3, -, -, -, -, -, -⟩ := hV
       replace e2 := (hR 2 rfl).trans e2
       have e3 : sl a36 3 = (.string ((L[k]'hlt).repo)) := e3
       have e4 : sl a36 4 = (.bool (true)) := e4
       have hMlt : ∀ b ∈ [b9_31, b6_15, b2_2], b < W34.heap.size := (in_cons own_b9_31.lt (in_cons own_b6_15.lt (in_cons own_b2_2.lt in_nil)))
       replace D_vv := sa_keepL D_vv hk (by simp)
       replace D_v23_15_1 := sa_keepL D_v23_15_1 hk (by simp)
       replace D_v23_15_5 := sa_keepL D_v23_15_5 hk (by simp)
       replace D_v23_15_6 := sa_keepL D_v23_15_6 hk (by simp)
       replace D_v7_18 := sa_keepL D_v7_18 hk (by simp)
       replace D_v45_31_1 := sa_keepL D_v45_31_1 hk (by simp)
       replace D_v45_31_5 := sa_keepL D_v45_31_5 hk (by simp)
       replace D_v45_31_6 := sa_keepL D_v45_31_6 hk (by simp)
       replace own_bb := own_keepL own_bb hk (by simp [ne_bb_b2_2])
       replace own_b6_15 := own_keepL own_b6_15 hk (by simp [ne_b2_2_b6_15.symm])
       replace own_b9_31 := own_keepL own_b9_31 hk (by simp [ne_b2_2_b9_31.symm])
       obtain ⟨us_36, own_b2_2, D_us_36⟩ := hP
       replace D_us_36 := fr_sfM (M := [b9_31, b6_15, b2_2]) D_us_36 kw hMlt
       obtain ⟨us_36_1a, us_36_1c, us_36_5a, us_36_5c, us_36_6a, us_36_6c, ev, hb_us_36_4, D_us_36_1, D_us_36_5, D_us_36_6⟩ := rdRc_out D_us_36
       subst ev; clear D_us_36
       replace own_b2_2 : Own W36 b2_2 [(.int .i64 ((((L.take (k + 1))[j]'hltj).r).ln)), (.slice us_36_1a (((((L.take (k + 1))[j]'hltj).r).hs).length) us_36_1c), (.int .u8 ((((L.take (k + 1))[j]'hltj).r).cu.k)), (.int .i64 ((((L.take (k + 1))[j]'hltj).r).cu.n)), (.string ((((L.take (k + 1))[j]'hltj).r).cu.t)), (.slice us_36_5a (((((L.take (k + 1))[j]'hltj).r).cu.ns).length) us_36_5c), (.slice us_36_6a (((((L.take (k + 1))[j]'hltj).r).cu.xs).length) us_36_6c)] 87 := own_b2_2
       replace kw := keeps_L kw hk (in_cons (.inl lo_b2_2) in_nil)
       clear hR hk hg
       refine tail_nil (hK35 _ _ ?_)
       refine wp_ret ?_
       refine (show bodyPost Try.prog Try.f56 _ .ret _ _ from retC3 (v := (.agg #[(.int .i64 ((((L.take (k + 1))[j]'hltj).r).ln)), (.slice us_36_1a (((((L.take (k + 1))[j]'hltj).r).hs).length) us_36_1c), (.int .u8 ((((L.take (k + 1))[j]'hltj).r).cu.k)), (.int .i64 ((((L.take (k + 1))[j]'hltj).r).cu.n)), (.string ((((L.take (k + 1))[j]'hltj).r).cu.t)), (.slice us_36_5a (((((L.take (k + 1))[j]'hltj).r).cu.ns).length) us_36_5c), (.slice us_36_6a (((((L.take (k + 1))[j]'hltj).r).cu.xs).length) us_36_6c)])) rfl zz36 e2 own_b2_2 agg87 sz87 rfl (fun h => by cases h) rfl e3 e4 ⟨_, rfl, kw, ?_⟩)
       refine ⟨_, by rw [hwS, hwB], ?_⟩
       rw [hwR]
       exact sf_fr (rdRc_mk D_us_36_1 (rdV_in (x := (((L.take (k + 1))[j]'hltj).r).cu) hb_us_36_4 D_us_36_5 D_us_36_6 : Rd W36 (SF w [b9_31, b6_15, b2_2]) (V.d ((((L.take (k + 1))[j]'hltj).r).cu)) _) : Rd W36 (SF w [b9_31, b6_15, b2_2]) (Rc.d ((((L.take (k + 1))[j]'hltj).r))) _)
      ·
       have hne : ((L.take (k + 1))[j]'hltj).r ≠ (L[k]'hlt).r := fun h => by rw [(sameVo_iff _ _).2 h] at hc; cases hc
       refine wp_skip (hK29 _ _ ?_)
       refine rg mixed y34 zz34 ?_
       refine .i (sp_add (hbs rfl e42) Has.cst (i64_in (by omega))) ?_
       refine .i (sp_move (hlc rfl)) ?_
       refine .done ⟨by kernel_rfl, fun a37 g W37 y37 zz37 hk hg hV hR hP => ?_⟩
       obtain ⟨e42, -, -⟩ := hV
       replace e0 := (hR 0 rfl).trans e0
       replace e2 := (hR 2 rfl).trans e2
       replace e17 := (hR 17 rfl).trans e17
       replace e18 := (hR 18 rfl).trans e18
       replace e19 := (hR 19 rfl).trans e19
       replace e6 := (hR 6 rfl).trans e6
       replace e40 := (hR 40 rfl).trans e40
       replace e41 := (hR 41 rfl).trans e41
       replace D_vv := D_vv.ext hk
       replace D_v23_15_1 := D_v23_15_1.ext hk
       replace D_v23_15_5 := D_v23_15_5.ext hk
       replace D_v23_15_6 := D_v23_15_6.ext hk
       replace D_v7_18 := D_v7_18.ext hk
       replace D_v45_31_1 := D_v45_31_1.ext hk
       replace D_v45_31_5 := D_v45_31_5.ext hk
       replace D_v45_31_6 := D_v45_31_6.ext hk
       replace e42 := e42.q
       replace own_bb := own_bb.ext hk
       replace own_b2_2 := own_b2_2.ext hk
       replace own_b6_15 := own_b6_15.ext hk
       replace own_b9_31 := own_b9_31.ext hk
       replace kw := kw.x hk
       clear hR hk hg hP
       exact tail_nil ⟨hltj, y37, zz37, kw, e0, e2, e6, e17, e18, e19, e40, e41, (e42.trans (congrArg (Value.int .i64) (by simp))), own_bb, own_b2_2, own_b6_15, (sa_less D_vv (ls_skip (ls_keep (ls_keep ls_nil)))), (sa_less D_v23_15_1 (ls_skip (ls_keep (ls_keep ls_nil)))), (sa_less D_v23_15_5 (ls_skip (ls_keep (ls_keep ls_nil)))), (sa_less D_v23_15_6 (ls_skip (ls_keep (ls_keep ls_nil)))), (sa_less D_v7_18 (ls_skip (ls_keep (ls_keep ls_nil)))), fun i h hi => by rcases Nat.lt_succ_iff_lt_or_eq.1 hi with h1 | h1; exact hnn i h h1; subst h1; exact hne⟩
     ·
      exfalso
      have hjj := of_decide_eq_false hc
      have hj2 : j = k + 1 := by omega
      exact hnn k (by omega) (by omega) (by simp)
   ·
    have hge0 : ¬ k < L.length := by simpa using hc
    have hge : k = L.length := by omega
    have hfin : wonO want L = none := by rw [hin, hge, Nat.sub_self]; rfl
    have hwS : wonS want L = ⟨#[]⟩ := by rw [wonS, hfin]
    have hwB : wonB want L = false := by rw [wonB, hfin]; rfl
    have hwR : wonR want L = Rc.zero := by rw [wonR, hfin]
    refine wp_exit (hK6 _ _ ?_)
    refine wp_seq_k fun K38 hK38 => ?_
    refine rg mixed y11 zz11 ?_
    refine .i (v := (.agg #[(.int .i64 (0)), (.slice none 0 0), (.int .u8 (0)), (.int .i64 (0)), (.string (⟨#[]⟩)), (.slice none 0 0), (.slice none 0 0)])) (sp_build (vs := []) Try.underlying87 z87 (pl87 Try.underlying87) trivial rfl) ?_
    refine .done ⟨by kernel_rfl, fun a39 g W39 y39 zz39 hk hg hV hR hP => ?_⟩
    obtain ⟨e57, -⟩ := hV
    replace e2 := (hR 2 rfl).trans e2
    replace D_vv := D_vv.ext hk
    replace e57 := e57.q
    replace own_bb := own_bb.ext hk
    replace own_b2_2 := own_b2_2.ext hk
    replace kw := kw.x hk
    clear hR hk hg hP
    refine tail_store (b := b2_2) (o := 0) (v := (.agg #[(.int .i64 (0)), (.slice none 0 0), (.int .u8 (0)), (.int .i64 (0)), (.string (⟨#[]⟩)), (.slice none 0 0), (.slice none 0 0)])) e2 e57 sz87 rfl own_b2_2 (lbr rfl) (all_cons rfl (all_cons rfl (all_cons rfl (all_cons rfl (all_cons rfl (all_cons rfl (all_cons rfl all_nil))))))) (fun W40 hs own_b2_2 => ?_)
    have own_b2_2 : Own W40 b2_2 [(.int .i64 (0)), (.slice none 0 0), (.int .u8 (0)), (.int .i64 (0)), (.string (⟨#[]⟩)), (.slice none 0 0), (.slice none 0 0)] 87 := own_b2_2
    replace own_bb := own_store own_bb hs ne_bb_b2_2
    replace D_vv := sa_store D_vv hs (by simp)
    replace kw := keeps_store kw hs lo_b2_2
    clear hs
    refine tail_assign (v := (.string (⟨#[]⟩))) rfl (by rw [y39]; exact Nat.le_of_ble_eq_true rfl) (fun a41 y41 zz41 e3 hr => ?_)
    replace y41 := y41.trans y39; replace zz41 := zz41.trans zz39
    replace e2 := (hr 2 (by decide)).trans e2
    replace e57 := (hr 57 (by decide)).trans e57
    clear hr
    refine tail_assign (v := (.bool (false))) rfl (by rw [y41]; exact Nat.le_of_ble_eq_true rfl) (fun a42 y42 zz42 e4 hr => ?_)
    replace y42 := y42.trans y41; replace zz42 := zz42.trans zz41
    replace e2 := (hr 2 (by decide)).trans e2
    replace e57 := (hr 57 (by decide)).trans e57
    replace e3 := (hr 3 (by decide)).trans e3
    clear hr
    refine tail_nil (hK38 _ _ ?_)
    refine wp_ret ?_
    refine (show bodyPost Try.prog Try.f56 _ .ret _ _ from retC3 (v := (.agg #[(.int .i64 (0)), (.slice none 0 0), (.int .u8 (0)), (.int .i64 (0)), (.string (⟨#[]⟩)), (.slice none 0 0), (.slice none 0 0)])) rfl zz42 e2 own_b2_2 agg87 sz87 rfl (fun h => by cases h) rfl e3 e4 ⟨_, rfl, kw, ?_⟩)
    refine ⟨_, by rw [hwS, hwB], ?_⟩
    rw [hwR]
    exact sf_fr (rdRc_mk (rd_nil _) (rdV_mk (lbr rfl) (rd_nil _) (rd_nil _) : Rd W40 (SF w [b2_2]) (V.d (V.mk (0) (0) (⟨#[]⟩) ([]) ([]))) _) : Rd W40 (SF w [b2_2]) (Rc.d (Rc.mk (0) ([]) (V.mk (0) (0) (⟨#[]⟩) ([]) ([])))) _)
end Go.Proofs.Ytnobijngkpflcaa
namespace Go.Eng
structure Ro where
  v : V
  e : Int
def Ro.d (a : Ro) : D := .agg [a.v.d, .int .i64 a.e]
def ung : Nat → List Oper → List Oper
  | 0, l => l
  | _ + 1, [] => []
  | n + 1, o :: l => { o with guard := none } :: ung n l
theorem obrun_ung {P : Program} {ops : Array Oper} {o : Oper} {a : Act} {W : World} {R : Value → World → Prop} {gi t : Nat} {want : Bool} (hg : o.guard = some (gi, want)) (ht : (ops[gi]?).bind (·.dst) = some t) (hs : sl a t = .bool want)
    (h : ObRun P ops { o with guard := none } a W R) : ObRun P ops o a W R := by
  have hy : yielded ops a.tmps gi = some want := by
    unfold yielded; rw [ht]
    unfold sl at hs
    cases h2 : a.tmps[t]? with
    | none => simp [h2] at hs; cases hs
    | some x => simp [h2] at hs; subst hs; simp [h2]
  unfold ObRun at h ⊢
  rw [if_pos (by simp [Region.wanted])] at h
  rw [if_pos (by simp [Region.wanted, hg, hy])]
  exact h
theorem tail_ung {P : Program} {ops : Array Oper} {Q : Exit → Act → World → Prop} (gi t : Nat) (want : Bool) (ht : (ops[gi]?).bind (·.dst) = some t) : ∀ (n : Nat) {l : List Oper} {a : Act} {W : World}
    (_ : ((l.take n).all fun o => o.guard == some (gi, want) && o.dst != some t) = true) (_ : sl a t = .bool want) (_ : runTail P ops Q (ung n l) a W), runTail P ops Q l a W
  | 0, _, _, _, _, _, h => h
  | _ + 1, [], _, _, _, _, h => h
  | n + 1, o :: l, a, W, hg, hs, h => by
    simp only [List.take_succ_cons, List.all_cons, Bool.and_eq_true, beq_iff_eq, bne_iff_ne] at hg
    refine obrun_ung hg.1.1 ht hs ?_
    exact ObRun.mono h fun v W' h' => tail_ung gi t want ht n hg.2 (by rw [sl_put_ne hg.1.2]; exact hs) h'
end Go.Eng
namespace Go.Eng
def CW (n : Nat) : BSet := fun b o => b < n ∧ Cln o
section
variable {w wc W W' W1 : World} {S G : BSet} {M M' Mc Mc' L news : List Nat} {d : D} {v : Value} {S0 : Nat → Prop} {lo sz n : Nat} {e T : TypeId} {ds : List D} {hd hd' : Option Nat}
theorem sc_more (h : Rd W (CW n) d v) (k : Ext W W') (_news : List Nat) (_ : ∀ b ∈ _news, W.heap.size ≤ b) : Rd W' (CW n) d v := h.ext k
theorem sc_end {g : Gh} (h : IsD (CW n) d g v W') (_ : Ext W W') (nl : List Nat) (_ : ∀ b ∈ nl, ∃ t, (t, b) ∈ g) : Rd W' (CW n) d v := h.mono fun _ _ hb _ => hb.1
theorem sc_store {b : Nat} (h : Rd W (CW n) d v) (k : Keeps (fun x => x ≠ b) W W') (hb : n ≤ b) : Rd W' (CW n) d v := h.keeps k fun x _ hx e => by have := hx.1; omega
theorem rd_cw (h : Rd w ClnS d v) : Rd w (CW w.heap.size) d v := h.mono fun _ _ hb hlt => ⟨hlt, hb⟩
theorem sf_cln : ∀ b o, SF w M b o → Cln o := fun _ _ h => h.2.1
theorem sub_nv (hM : ∀ b ∈ L, b ∈ M) : ∀ b o, SA w S M b o → b ∉ L := fun b _ h hh => h.2.2 (hM b hh)
theorem row_inF (A : Arr W lo e sz (SF wc Mc) ds v hd) (hM : ∀ b ∈ M, b ∈ Mc) : Arr W lo e sz (SA W (SF wc Mc) M) ds v hd := A.mono fun b _ hb _ => ⟨fun _ => hb, fun _ => hb.2.1, fun hm => hb.2.2 (hM b hm)⟩
theorem row_inA (hG : ∀ b o, G b o → Cln o) (A : Arr W lo e sz (SA wc G Mc) ds v hd) (hM : ∀ b ∈ M, b ∈ Mc) : Arr W lo e sz (SA W (SA wc G Mc) M) ds v hd := A.mono fun b _ hb _ => ⟨fun _ => hb, fun _ => sa_cln hG _ _ hb, fun hm => hb.2.2 (hM b hm)⟩
theorem row_outF (A : Arr W' lo e sz (SA W1 (SF wc Mc) M') ds v hd') (hs : wc.heap.size ≤ W1.heap.size) (hlt : ∀ b ∈ Mc, b < W1.heap.size) (hr : ∀ b ∈ Mc', b ∈ Mc ∨ b ∈ M') : Arr W' lo e sz (SF wc Mc') ds v hd' := A.mono fun b o hb _ => by
  rcases Nat.lt_or_ge b W1.heap.size with hl | hl
  · have h := hb.1 hl
    exact ⟨h.1, h.2.1, fun hm => (hr b hm).elim h.2.2 hb.2.2⟩
  · exact ⟨Nat.le_trans hs hl, hb.2.1 hl, fun hm => (hr b hm).elim (fun h1 => by have := hlt b h1; omega) hb.2.2⟩
theorem row_outA (A : Arr W' lo e sz (SA W1 (SA wc G Mc) M') ds v hd') (hs : wc.heap.size ≤ W1.heap.size) (hlt : ∀ b ∈ Mc, b < W1.heap.size) (hr : ∀ b ∈ Mc', b ∈ Mc ∨ b ∈ M') : Arr W' lo e sz (SA wc G Mc') ds v hd' := A.mono fun b o hb _ => by
  rcases Nat.lt_or_ge b W1.heap.size with hl | hl
  · have h := hb.1 hl
    exact ⟨h.1, h.2.1, fun hm => (hr b hm).elim h.2.2 hb.2.2⟩
  · exact ⟨fun h1 => by omega, fun _ => hb.2.1 hl, fun hm => (hr b hm).elim (fun h1 => by have := hlt b h1; omega) hb.2.2⟩
def BoxV (T e : TypeId) (W : World) (lo : Nat) (X : List Nat → BSet) (bb : Nat) (want : Int) (L : List Vo) (hd0 : Option Nat) (n : Nat) : Prop :=
  ∃ v' hd', Own W bb [.int .i64 want, v'] T ∧ Arr W lo e 8 (X (bb :: (blks hd' ++ []))) (L.map Vo.d) v' hd' ∧ bb ∉ blks hd' ∧ ∀ b ∈ blks hd', b ∈ blks hd0 ∨ n ≤ b
def AddV (T e : TypeId) (W0 W : World) (lo : Nat) (G : BSet) (bb : Nat) (want : Int) (L : List Vo) (hd0 : Option Nat) : Prop :=
  ∃ W1, W0.heap.size ≤ W1.heap.size ∧ BoxV T e W lo (SA W1 G) bb want L hd0 W1.heap.size
theorem nin_boxA {b b2 : Nat} (h1 : b ≠ b2) (h2 : b ∉ blks hd) : b ∉ b2 :: (blks hd ++ []) := fun h => (List.mem_cons.1 h).elim h1 (fun h => h2 (by simpa using h))
theorem stE_addV {W0 : World} {bb : Nat} {want : Int} {L : List Vo} : StableE fun W => AddV T e W0 W lo G bb want L hd := fun _ _ k ⟨W1, h, v', hd', h1, h2, h3, h4⟩ => ⟨W1, h, v', hd', h1.ext k, h2.ext k, h3, h4⟩
theorem stE_boxR {bb : Nat} {cs : List Value} {X : BSet} : StableE fun W => Own W bb cs T ∧ Arr W lo e sz X ds v hd := fun _ _ k h => ⟨h.1.ext k, h.2.ext k⟩
theorem keeps_appN (h : Keeps S0 w W) (k : Keeps (fun x => x ∉ L) W W') (hb : ∀ b ∈ L, ¬ S0 b) : Keeps S0 w W' := keeps_L h k fun b hm => .inr (hb b hm)
end
section
variable {P : Program} {ops : Array Oper} {S : Nat → Prop} {w0 : World} {a0 : Act} {Γ : Ctx}
variable {d : Option Tmp} {ty : TypeId} {pos : String} {af : Array Edge}
variable {K : List Oper → Ctx → (World → Prop) → List Bool → Prop} {l : List Oper} {Ψ Ψ' : World → Prop} {ms : List Bool}
theorem Chain.callL5 {f : FuncId} {x y z q r : Operand} {ts : Array TypeId} {φ1 φ2 φ3 φ4 φ5 φ : Fact} (hf : Enters P f) (hx : Has S w0 a0 Γ x φ1) (hy : Has S w0 a0 Γ y φ2) (hz : Has S w0 a0 Γ z φ3) (hq : Has S w0 a0 Γ q φ4) (hr : Has S w0 a0 Γ r φ5) (hst : Stable S φ) (hst' : StableE Ψ')
    (hc : ∀ g u1 u2 u3 u4 u5 W, Keeps S w0 W → GOk w0 W g → φ1 g u1 W → φ2 g u2 W → φ3 g u3 W → φ4 g u4 W → φ5 g u5 W → Ψ W → Calls P f #[u1, u2, u3, u4, u5] W fun e W' => ∃ v, e = .returned v ∧ Keeps S W W' ∧ φ g v W' ∧ Ψ' W')
    (h : Chain P ops S w0 a0 K false l ((d, φ) :: Γ) Ψ' (true :: ms)) : Chain P ops S w0 a0 K false (⟨d, .call ⟨.value (.func f), #[x, y, z, q, r], ts⟩, ty, pos, af, none⟩ :: l) Γ Ψ ms :=
  Chain.callL hf hst hst' (fun a g W hk hg he hψ => by simpa using hc g _ _ _ _ _ W hk hg (hx.of_env hk hg he (by simp [Op.operands, Call.operands])) (hy.of_env hk hg he (by simp [Op.operands, Call.operands])) (hz.of_env hk hg he (by simp [Op.operands, Call.operands])) (hq.of_env hk hg he (by simp [Op.operands, Call.operands])) (hr.of_env hk hg he (by simp [Op.operands, Call.operands])) hψ) h
theorem sp_call5 {gd : Option (Nat × Bool)} {f : FuncId} {x y z x4 x5 : Operand} {ts : Array TypeId} {φ1 φ2 φ3 φ4 φ5 φ : Fact} (hf : Enters P f) (hx : Has S w0 a0 Γ x φ1) (hy : Has S w0 a0 Γ y φ2) (hz : Has S w0 a0 Γ z φ3) (h4 : Has S w0 a0 Γ x4 φ4) (h5 : Has S w0 a0 Γ x5 φ5)
    (hc : ∀ g u1 u2 u3 u4 u5 W, Keeps S w0 W → GOk w0 W g → φ1 g u1 W → φ2 g u2 W → φ3 g u3 W → φ4 g u4 W → φ5 g u5 W → Calls P f #[u1, u2, u3, u4, u5] W (Ret W (φ g))) :
    Spec P ops S w0 a0 Γ ⟨d, .call ⟨.value (.func f), #[x, y, z, x4, x5], ts⟩, ty, pos, af, gd⟩ φ := sp_call hf fun a g W hk hg he => by
  simpa using hc g _ _ _ _ _ W hk hg (hx.of_env hk hg he (by simp [Op.operands, Call.operands])) (hy.of_env hk hg he (by simp [Op.operands, Call.operands])) (hz.of_env hk hg he (by simp [Op.operands, Call.operands])) (h4.of_env hk hg he (by simp [Op.operands, Call.operands])) (h5.of_env hk hg he (by simp [Op.operands, Call.operands]))
end
def NBox (w0 W : World) (cs : List Value) (T : TypeId) (u : Value) : Prop := ∃ bo, u = .pointer (some ⟨bo, 0, none⟩) ∧ w0.heap.size ≤ bo ∧ Own W bo cs T
def IsNB (w0 : World) (cs : List Value) (T : TypeId) : Fact := fun _ u W => NBox w0 W cs T u
theorem st_nb {w0 : World} {cs : List Value} {T : TypeId} : Stable All (IsNB w0 cs T) := ⟨fun _ _ _ _ k ⟨bo, h1, h2, h3⟩ => ⟨bo, h1, h2, h3.ext k⟩, fun _ _ _ _ _ _ h => h⟩
theorem nb_up {w0 W W' : World} {cs : List Value} {T : TypeId} {u : Value} (k : Keeps All w0 W) (h : NBox W W' cs T u) : NBox w0 W' cs T u := by
  obtain ⟨bo, h1, h2, h3⟩ := h
  exact ⟨bo, h1, Nat.le_trans k.size h2, h3⟩
theorem frG_nin {W W0 : World} {g : Gh} {L : List Nat} (h : ∀ b ∈ L, b < W0.heap.size) (hs : W0.heap.size ≤ W.heap.size) : ∀ b ∈ L, ∀ o, ¬ ((fun b o => Fr W0 b o ∧ Out g b) b o) := fun b hb o hf => by
  have h1 := h b hb; have h2 := hf.1.1; omega
def oneR (rot : Bool) : Rc := ⟨1, [⟨⟨#[115, 104, 97, 50, 53, 54]⟩, ⟨#[48, 48]⟩⟩], if rot then ⟨1, 1, ⟨#[]⟩, [], []⟩ else V.zero⟩
theorem oneR_may (rot : Bool) : mayR (oneR rot) = true := by cases rot <;> kernel_rfl
theorem oneR_wt (rot : Bool) : (oneR rot).cu.wt ≤ 1000000000 := by cases rot <;> exact Nat.le_of_ble_eq_true (by kernel_rfl)
theorem oneR_hs (rot : Bool) : (oneR rot).hs.length ≤ 1073741824 := by cases rot <;> exact Nat.le_of_ble_eq_true rfl
def okVo (x : Vo) : Bool := decide (x.r.cu.wt ≤ 1000000000) && decide (x.r.hs.length ≤ 1073741824)
theorem okV_wt {L : List Vo} (h : L.all okVo = true) : ∀ x ∈ L, x.r.cu.wt ≤ 1073741824 := fun x hx => by
  have := List.all_eq_true.1 h x hx
  simp only [okVo, Bool.and_eq_true, decide_eq_true_eq] at this
  omega
theorem okV_hs {L : List Vo} (h : L.all okVo = true) : ∀ x ∈ L, x.r.hs.length ≤ 1073741824 := fun x hx => by
  have := List.all_eq_true.1 h x hx
  simp only [okVo, Bool.and_eq_true, decide_eq_true_eq] at this
  omega
end Go.Eng
namespace Go.Proofs.Ytnobijngkpflcaa
open Go.Eng
set_option maxRecDepth 100000 in
theorem New_ok (n : Int) (h1 : 1 ≤ n) (h8 : n ≤ 8) (w : World) : Calls Try.prog 54 #[.int .i64 n] w (Ret w fun u W => ∃ b, u = .tuple #[.pointer (some ⟨b, 0, none⟩), .int .i64 0] ∧ w.heap.size ≤ b ∧ Own W b [.int .i64 n, .slice none 0 0] 104) := by
  refine enter Try.func54 rfl Try.ntmps54 (lbr rfl) fun a0 y0 zz0 harg => ?_
  have e0 : sl a0 0 = (.int .i64 (n)) := harg 0 (lbr rfl)
  have kw := Keeps.refl All w
  clear harg
  refine wp_seq_k fun K1 hK1 => ?_
  refine rg mixed y0 zz0 ?_
  refine .i (sp_assign Has.cst) ?_
  refine .i (sp_assign Has.cst) ?_
  refine .done ⟨by kernel_rfl, fun a2 g W2 y2 zz2 hk hg hV hR hP => ?_⟩
  obtain ⟨-, -, -⟩ := hV
  replace e0 := (hR 0 rfl).trans e0
  replace kw := kw.x hk
  clear hR hk hg hP
  refine tail_nil (hK1 _ _ ?_)
  refine wp_seq_k fun K3 hK3 => ?_
  refine wp_seq_k fun K4 hK4 => ?_
  refine rg mixed y2 zz2 ?_
  refine .i (sp_move (hbs rfl e0)) ?_
  refine .i (sp_lss (hlc rfl) Has.cst) ?_
  refine .i (sp_move (hlc rfl)) ?_
  refine .e (t := 6) rfl (hlc rfl) (fun hg => sp_move (hbs rfl e0)) ?_
  refine .e (t := 6) rfl (hlc rfl) (fun hg => sp_gtr ((hlc rfl).undE hg) Has.cst) ?_
  refine .i (sp_or (hlc rfl) ((hlc rfl).weak fun hq => hq)) ?_
  refine .done ⟨by kernel_rfl, fun a5 g W5 y5 zz5 hk hg hV hR hP => ?_⟩
  obtain ⟨e9, -, -, -, -, -, -⟩ := hV
  replace e0 := (hR 0 rfl).trans e0
  replace e9 := e9.q
  replace kw := kw.x hk
  clear hR hk hg hP
  refine tail_nil (hK4 _ _ ?_)
  refine wp_cond_split e9 (fun hc => ?_) (fun hc => ?_)
  ·
   exfalso
   simp at hc
   omega
  ·
   refine wp_skip (hK3 _ _ ?_)
   refine wp_seq_k fun K6 hK6 => ?_
   refine rg mixed y5 zz5 ?_
   refine .i (sp_move (hbs rfl e0)) ?_
   refine .i (v := (.agg #[(.int .i64 (n)), (.slice none 0 0)])) (sp_build (vs := [(0, (.int .i64 (n)))]) Try.underlying104 z104 (pl104 Try.underlying104) ⟨rfl, (hlc rfl), trivial⟩ rfl) ?_
   refine .boxOp (v := (.agg #[(.int .i64 (n)), (.slice none 0 0)])) (hlc rfl) ?_
   refine .done ⟨by kernel_rfl, fun a7 g W7 y7 zz7 hk hg hV hR hP => ?_⟩
   obtain ⟨⟨b12_7, e12, hb12, own_b12_7⟩, -, -, -⟩ := hV
   have lo_b12_7 : w.heap.size ≤ b12_7 := Nat.le_trans kw.size (hg.lo _ _ hb12)
   have own_b12_7 : Own W7 b12_7 [(.int .i64 (n)), (.slice none 0 0)] 104 := own_b12_7
   replace kw := kw.x hk
   clear hR hk hg hP hb12
   refine tail_assign (v := (.pointer (some ⟨b12_7, 0, none⟩))) e12 (by rw [y7]; exact Nat.le_of_ble_eq_true rfl) (fun a8 y8 zz8 e2 hr => ?_)
   replace y8 := y8.trans y7; replace zz8 := zz8.trans zz7
   replace e12 := (hr 12 (by decide)).trans e12
   clear hr
   refine tail_assign (v := (.int .i64 (0))) rfl (by rw [y8]; exact Nat.le_of_ble_eq_true rfl) (fun a9 y9 zz9 e3 hr => ?_)
   replace y9 := y9.trans y8; replace zz9 := zz9.trans zz8
   replace e12 := (hr 12 (by decide)).trans e12
   replace e2 := (hr 2 (by decide)).trans e2
   clear hr
   refine tail_nil (hK6 _ _ ?_)
   refine wp_ret ?_
   refine (show bodyPost Try.prog Try.f54 _ .ret _ _ from ret2 rfl zz9 e2 e3 ⟨_, rfl, kw, ?_⟩)
   exact ⟨_, rfl, lo_b12_7, own_b12_7⟩
set_option maxRecDepth 100000 in
theorem AddNo7_ok (want : Int) (L : List Vo) (w : World) (S : BSet) (vv : Value) (bb : Nat) (own_bb : Own w bb [.int .i64 want, vv] 104) (hw : 0 < want) (repo : ByteArray) (hrp : repo.size ≤ maxLen) (r : Rc) (hcu : r.cu.wt ≤ 1000000000) (hn : r.hs.length ≤ 1073741824) (hro : roleB repo = true) (hma : mayR r = true) (hex : ∃ x ∈ L, x.repo = repo) (hS : ∀ b o, S b o → Cln o) (hv : Rd w S (vosD L) vv) (v : Value) (hr : Rd w S r.d v) : Calls Try.prog 55 #[.pointer (some ⟨bb, 0, none⟩), .string repo, v] w (Ret w fun u _ => u = .tuple #[.int .i64 0, .int .i64 7]) := by
  have hmx : L.length ≤ maxLen := rdVos_len hv
  simp only [maxLen] at hmx
  obtain ⟨p2_1a, p2_1c, p2_5a, p2_5c, p2_6a, p2_6c, ev, hb_p2_4, D_p2_1, D_p2_5, D_p2_6⟩ := rdRc_out (rd_arg hr)
  subst ev
  obtain ⟨vva, vvc, ev, D_vv⟩ := rdVos_out (rd_arg hv)
  subst ev
  refine enter Try.func55 rfl Try.ntmps55 (lbr rfl) fun a0 y0 zz0 harg => ?_
  have e0 : sl a0 0 = (.pointer (some ⟨bb, 0, none⟩)) := harg 0 (lbr rfl)
  have e1 : sl a0 1 = (.string (repo)) := harg 1 (lbr rfl)
  have e2 : sl a0 2 = (.agg #[(.int .i64 (r.ln)), (.slice p2_1a (r.hs.length) p2_1c), (.int .u8 (r.cu.k)), (.int .i64 (r.cu.n)), (.string (r.cu.t)), (.slice p2_5a (r.cu.ns.length) p2_5c), (.slice p2_6a (r.cu.xs.length) p2_6c)]) := harg 2 (lbr rfl)
  have kw := Keeps.refl All w
  clear harg
  refine wp_seq_k fun K1 hK1 => ?_
  refine rg mixed y0 zz0 ?_
  refine .boxOp (v := (.agg #[(.int .i64 (r.ln)), (.slice p2_1a (r.hs.length) p2_1c), (.int .u8 (r.cu.k)), (.int .i64 (r.cu.n)), (.string (r.cu.t)), (.slice p2_5a (r.cu.ns.length) p2_5c), (.slice p2_6a (r.cu.xs.length) p2_6c)])) (hbs rfl e2) ?_
  refine .i (sp_assign Has.cst) ?_
  refine .i (sp_assign Has.cst) ?_
  refine .done ⟨by kernel_rfl, fun a2 g W2 y2 zz2 hk hg hV hR hP => ?_⟩
  obtain ⟨-, -, ⟨b5_2, e5, hb5, own_b5_2⟩, -⟩ := hV
  have lo_b5_2 : w.heap.size ≤ b5_2 := Nat.le_trans kw.size (hg.lo _ _ hb5)
  have ne_bb_b5_2 : bb ≠ b5_2 := Nat.ne_of_lt (Nat.lt_of_lt_of_le own_bb.lt (hg.lo _ _ hb5))
  have own_b5_2 : Own W2 b5_2 [(.int .i64 (r.ln)), (.slice p2_1a (r.hs.length) p2_1c), (.int .u8 (r.cu.k)), (.int .i64 (r.cu.n)), (.string (r.cu.t)), (.slice p2_5a (r.cu.ns.length) p2_5c), (.slice p2_6a (r.cu.xs.length) p2_6c)] 87 := own_b5_2
  replace e0 := (hR 0 rfl).trans e0
  replace e1 := (hR 1 rfl).trans e1
  replace D_p2_1 := sa_more D_p2_1 hk [b5_2] (in_cons (hg.lo _ _ hb5) in_nil)
  replace D_p2_5 := sa_more D_p2_5 hk [b5_2] (in_cons (hg.lo _ _ hb5) in_nil)
  replace D_p2_6 := sa_more D_p2_6 hk [b5_2] (in_cons (hg.lo _ _ hb5) in_nil)
  replace D_vv := sa_more D_vv hk [b5_2] (in_cons (hg.lo _ _ hb5) in_nil)
  replace own_bb := own_bb.ext hk
  replace kw := kw.x hk
  clear hR hk hg hP hb5
  refine tail_nil (hK1 _ _ ?_)
  refine wp_seq_k fun K3 hK3 => ?_
  refine wp_seq_k fun K4 hK4 => ?_
  refine rg mixed y2 zz2 ?_
  refine .i (sp_move (hbs rfl e0)) ?_
  refine .i (v := (.bool (decide (0 < want)))) (sp_call1 (φ1 := Is (.pointer (some ⟨bb, 0, none⟩))) ent115 (hlc rfl) (fun g u1 W hk hgk h1 => by have h1 : u1 = _ := h1; subst u1; exact made_ok (want) W _ _ (own_bb.ext hk))) ?_
  refine .i (sp_not (hlc rfl)) ?_
  refine .done ⟨by kernel_rfl, fun a5 g W5 y5 zz5 hk hg hV hR hP => ?_⟩
  obtain ⟨e12, -, -, -⟩ := hV
  replace e0 := (hR 0 rfl).trans e0
  replace e1 := (hR 1 rfl).trans e1
  replace e5 := (hR 5 rfl).trans e5
  replace D_p2_1 := D_p2_1.ext hk
  replace D_p2_5 := D_p2_5.ext hk
  replace D_p2_6 := D_p2_6.ext hk
  replace D_vv := D_vv.ext hk
  have e12 : sl a5 12 = (.bool (!(decide (0 < want)))) := e12
  replace own_bb := own_bb.ext hk
  replace own_b5_2 := own_b5_2.ext hk
  replace kw := kw.x hk
  clear hR hk hg hP
  refine tail_nil (hK4 _ _ ?_)
  refine wp_cond_split e12 (fun hc => ?_) (fun hc => ?_)
  ·
   exfalso
   simp [hw] at hc
  ·
   refine wp_skip (hK3 _ _ ?_)
   refine wp_seq_k fun K6 hK6 => ?_
   refine wp_seq_k fun K7 hK7 => ?_
   refine rg mixed y5 zz5 ?_
   refine .i (sp_move (hbs rfl e1)) ?_
   refine .i (v := (.bool (roleB repo))) (sp_call1 (φ1 := Is (.string (repo))) ent116 (hlc rfl) (fun g u1 W hk hgk h1 => by have h1 : u1 = _ := h1; subst u1; exact Role_ok (repo) hrp W)) ?_
   refine .i (sp_not (hlc rfl)) ?_
   refine .i (sp_move (hlc rfl)) ?_
   refine .e (t := 16) (v := (.agg #[(.int .i64 (r.ln)), (.slice p2_1a (r.hs.length) p2_1c), (.int .u8 (r.cu.k)), (.int .i64 (r.cu.n)), (.string (r.cu.t)), (.slice p2_5a (r.cu.ns.length) p2_5c), (.slice p2_6a (r.cu.xs.length) p2_6c)])) rfl (hlc rfl) (fun hg => loA (hbs rfl e5) own_b5_2 trivial agg87 sz87 rfl rfl) ?_
   refine .e (t := 16) (v := (.bool (mayR r))) rfl (hlc rfl) (fun hg => sp_call1 (φ1 := IsD (SA w S [b5_2]) (Rc.d (r))) ent70 (((hlc rfl).undE hg).dat (rdRc_mk D_p2_1 (rdV_in (x := r.cu) hb_p2_4 D_p2_5 D_p2_6 : Rd W5 (SA w S [b5_2]) (V.d (r.cu)) _) : Rd W5 (SA w S [b5_2]) (Rc.d (r)) _) sub_all) (fun g u1 W hk hgk h1 => MayR_ok (r) hcu W _ _ (fun b o h => sa_cln hS b o h.1) h1)) ?_
   refine .e (t := 16) rfl (hlc rfl) (fun hg => sp_not ((hlc rfl).undE hg)) ?_
   refine .i (sp_or (hlc rfl) ((hlc rfl).weak fun hq => hq)) ?_
   refine .done ⟨by kernel_rfl, fun a8 g W8 y8 zz8 hk hg hV hR hP => ?_⟩
   obtain ⟨e20, -, -, -, -, -, -, -, -⟩ := hV
   replace e0 := (hR 0 rfl).trans e0
   replace e1 := (hR 1 rfl).trans e1
   replace e5 := (hR 5 rfl).trans e5
   replace D_p2_1 := D_p2_1.ext hk
   replace D_p2_5 := D_p2_5.ext hk
   replace D_p2_6 := D_p2_6.ext hk
   replace D_vv := D_vv.ext hk
   have e20 : sl a8 20 = (.bool ((!(roleB repo)) || (!(mayR r)))) := e20
   replace own_bb := own_bb.ext hk
   replace own_b5_2 := own_b5_2.ext hk
   replace kw := kw.x hk
   clear hR hk hg hP
   refine tail_nil (hK7 _ _ ?_)
   refine wp_cond_split e20 (fun hc => ?_) (fun hc => ?_)
   ·
    exfalso
    rw [hro, hma] at hc
    cases hc
   ·
    refine wp_skip (hK6 _ _ ?_)
    refine wp_seq_k fun K9 hK9 => ?_
    refine wp_seq_k fun K10 hK10 => ?_
    refine rg mixed y8 zz8 ?_
    refine .i (sp_move (hbs rfl e0)) ?_
    refine .i (sp_nilP (hlc rfl)) ?_
    refine .i (fo 1 (hlc rfl) Try.underlying104 rfl sz102 rfl) ?_
    refine .i (lo1 (hlc rfl) own_bb trivial agg102 sz102 rfl) ?_
    refine .i (sp_lenL Try.underlying102 ((hlc rfl).dat D_vv sub_all)) ?_
    refine .i (sp_move Has.cst) ?_
    refine .done ⟨by kernel_rfl, fun a11 g W11 y11 zz11 hk hg hV hR hP => ?_⟩
    obtain ⟨e26, e25, e24, -, -, -, -⟩ := hV
    replace e0 := (hR 0 rfl).trans e0
    replace e1 := (hR 1 rfl).trans e1
    replace e5 := (hR 5 rfl).trans e5
    replace D_p2_1 := D_p2_1.ext hk
    replace D_p2_5 := D_p2_5.ext hk
    replace D_p2_6 := D_p2_6.ext hk
    replace D_vv := D_vv.ext hk
    have e24 : sl a11 24 = (.slice vva (L.length) vvc) := e24
    have e25 : sl a11 25 = (.int .i64 (L.length)) := e25
    have e26 : sl a11 26 = (.int .i64 (0)) := e26
    replace own_bb := own_bb.ext hk
    replace own_b5_2 := own_b5_2.ext hk
    replace kw := kw.x hk
    clear hR hk hg hP
    refine tail_nil (hK10 _ _ ?_)
    refine wp_block ?_
    refine wp_for (L.length) (fun k a W => a.tmps.size = 60 ∧ a.defers = [] ∧ Keeps All w W ∧ sl a 0 = (.pointer (some ⟨bb, 0, none⟩)) ∧ sl a 1 = (.string (repo)) ∧ sl a 5 = (.pointer (some ⟨b5_2, 0, none⟩)) ∧ sl a 24 = (.slice vva (L.length) vvc) ∧ sl a 25 = (.int .i64 (L.length)) ∧ sl a 26 = (.int .i64 ((k : Nat))) ∧ Own W bb [(.int .i64 (want)), (.slice vva (L.length) vvc)] 104 ∧ Own W b5_2 [(.int .i64 (r.ln)), (.slice p2_1a (r.hs.length) p2_1c), (.int .u8 (r.cu.k)), (.int .i64 (r.cu.n)), (.string (r.cu.t)), (.slice p2_5a (r.cu.ns.length) p2_5c), (.slice p2_6a (r.cu.xs.length) p2_6c)] 87 ∧ Rd W (SA w S [b5_2]) (hssD (r.hs)) (.slice p2_1a (r.hs.length) p2_1c) ∧ Rd W (SA w S [b5_2]) (strsD (r.cu.ns)) (.slice p2_5a (r.cu.ns.length) p2_5c) ∧ Rd W (SA w S [b5_2]) (valsD (r.cu.xs)) (.slice p2_6a (r.cu.xs.length) p2_6c) ∧ Rd W (SA w S [b5_2]) (vosD (L)) (.slice vva (L.length) vvc) ∧ (∀ i (h : i < L.length), i < k → ¬ (L[i]).repo = repo)) ⟨y11, zz11, kw, e0, e1, e5, e24, e25, (e26.trans (congrArg (Value.int .i64) (rfl))), own_bb, own_b5_2, D_p2_1, D_p2_5, D_p2_6, D_vv, fun i h hi => absurd hi (by omega)⟩ ?_
    clear kw e0 e1 e5 e24 e25 e26 own_bb own_b5_2 D_p2_1 D_p2_5 D_p2_6 D_vv
    rintro k a12 W12 hkk ⟨y12, zz12, kw, e0, e1, e5, e24, e25, e26, own_bb, own_b5_2, D_p2_1, D_p2_5, D_p2_6, D_vv, hall⟩
    refine wp_seq_k fun K13 hK13 => ?_
    refine rg mixed y12 zz12 ?_
    refine .i (sp_lss (hbs rfl e26) (hbs rfl e25)) ?_
    refine .done ⟨by kernel_rfl, fun a14 g W14 y14 zz14 hk hg hV hR hP => ?_⟩
    obtain ⟨e27, -⟩ := hV
    replace e0 := (hR 0 rfl).trans e0
    replace e1 := (hR 1 rfl).trans e1
    replace e5 := (hR 5 rfl).trans e5
    replace e24 := (hR 24 rfl).trans e24
    replace e25 := (hR 25 rfl).trans e25
    replace e26 := (hR 26 rfl).trans e26
    replace D_p2_1 := D_p2_1.ext hk
    replace D_p2_5 := D_p2_5.ext hk
    replace D_p2_6 := D_p2_6.ext hk
    replace D_vv := D_vv.ext hk
    replace e27 := e27.q
    replace own_bb := own_bb.ext hk
    replace own_b5_2 := own_b5_2.ext hk
    replace kw := kw.x hk
    clear hR hk hg hP
    refine tail_nil (hK13 _ _ ?_)
    refine wp_seq_k fun K15 hK15 => ?_
    refine wp_cond_split e27 (fun hc => ?_) (fun hc => ?_)
    ·
     have hlt : k < L.length := by simpa using hc
     refine wp_skip (hK15 _ _ ?_)
     refine wp_seq_k fun K16 hK16 => ?_
     refine wp_block ?_
     refine wp_seq_k fun K17 hK17 => ?_
     refine rg mixed y14 zz14 ?_
     refine .rf (X := SA w S [b5_2]) (e := Vo.d (L[k]'hlt)) (sp_indexL (i := k) ((hbs rfl e24).dat D_vv sub_all) (hbs rfl e26) Try.underlying102 sz156 rfl hlt) ?_
     refine .da (X := SA w S [b5_2]) (e := Vo.d (L[k]'hlt)) (sp_loadR (hlc rfl) agg156 sz156 (width_Vo _)) ?_
     refine .alloc z156 ?_
     refine .done ⟨by kernel_rfl, fun a18 g W18 y18 zz18 hk hg hV hR hP => ?_⟩
     obtain ⟨⟨b9_18, e9, hb9, own_b9_18⟩, e29, -, -⟩ := hV
     have lo_b9_18 : w.heap.size ≤ b9_18 := Nat.le_trans kw.size (hg.lo _ _ hb9)
     have ne_bb_b9_18 : bb ≠ b9_18 := Nat.ne_of_lt (Nat.lt_of_lt_of_le own_bb.lt (hg.lo _ _ hb9))
     have ne_b5_2_b9_18 : b5_2 ≠ b9_18 := Nat.ne_of_lt (Nat.lt_of_lt_of_le own_b5_2.lt (hg.lo _ _ hb9))
     have own_b9_18 : Own W18 b9_18 [(.int .i64 (0)), (.slice none 0 0), (.int .u8 (0)), (.int .i64 (0)), (.string (⟨#[]⟩)), (.slice none 0 0), (.slice none 0 0), (.string (⟨#[]⟩))] 156 := own_b9_18
     replace e0 := (hR 0 rfl).trans e0
     replace e1 := (hR 1 rfl).trans e1
     replace e5 := (hR 5 rfl).trans e5
     replace e24 := (hR 24 rfl).trans e24
     replace e25 := (hR 25 rfl).trans e25
     replace e26 := (hR 26 rfl).trans e26
     replace D_p2_1 := sa_more D_p2_1 hk [b9_18] (in_cons (hg.lo _ _ hb9) in_nil)
     replace D_p2_5 := sa_more D_p2_5 hk [b9_18] (in_cons (hg.lo _ _ hb9) in_nil)
     replace D_p2_6 := sa_more D_p2_6 hk [b9_18] (in_cons (hg.lo _ _ hb9) in_nil)
     replace D_vv := sa_more D_vv hk [b9_18] (in_cons (hg.lo _ _ hb9) in_nil)
     obtain ⟨v29_18, ev⟩ : ∃ v, sl a18 29 = v := ⟨_, rfl⟩
     rw [ev] at e29
     have D_v29_18 : Rd W18 (SA w S [b9_18, b5_2]) (Vo.d (L[k]'hlt)) v29_18 := sa_end e29 hk [b9_18] (in_cons ⟨_, hb9⟩ in_nil)
     replace e29 := ev; clear ev
     obtain ⟨v29_18_1a, v29_18_1c, v29_18_5a, v29_18_5c, v29_18_6a, v29_18_6c, ev, hb_v29_18_4, hb_v29_18_7, D_v29_18_1, D_v29_18_5, D_v29_18_6⟩ := rdVo_out D_v29_18
     subst ev; clear D_v29_18
     replace own_bb := own_bb.ext hk
     replace own_b5_2 := own_b5_2.ext hk
     replace kw := kw.x hk
     clear hR hk hg hP hb9
     refine tail_store (b := b9_18) (o := 0) (v := (.agg #[(.int .i64 ((L[k]'hlt).r.ln)), (.slice v29_18_1a (((L[k]'hlt).r.hs).length) v29_18_1c), (.int .u8 ((L[k]'hlt).r.cu.k)), (.int .i64 ((L[k]'hlt).r.cu.n)), (.string ((L[k]'hlt).r.cu.t)), (.slice v29_18_5a (((L[k]'hlt).r.cu.ns).length) v29_18_5c), (.slice v29_18_6a (((L[k]'hlt).r.cu.xs).length) v29_18_6c), (.string ((L[k]'hlt).repo))])) e9 e29 sz156 rfl own_b9_18 (lbr rfl) (all_cons rfl (all_cons rfl (all_cons rfl (all_cons rfl (all_cons rfl (all_cons rfl (all_cons rfl (all_cons rfl all_nil)))))))) (fun W19 hs own_b9_18 => ?_)
     have own_b9_18 : Own W19 b9_18 [(.int .i64 ((L[k]'hlt).r.ln)), (.slice v29_18_1a (((L[k]'hlt).r.hs).length) v29_18_1c), (.int .u8 ((L[k]'hlt).r.cu.k)), (.int .i64 ((L[k]'hlt).r.cu.n)), (.string ((L[k]'hlt).r.cu.t)), (.slice v29_18_5a (((L[k]'hlt).r.cu.ns).length) v29_18_5c), (.slice v29_18_6a (((L[k]'hlt).r.cu.xs).length) v29_18_6c), (.string ((L[k]'hlt).repo))] 156 := own_b9_18
     replace own_bb := own_store own_bb hs ne_bb_b9_18
     replace own_b5_2 := own_store own_b5_2 hs ne_b5_2_b9_18
     replace D_p2_1 := sa_store D_p2_1 hs (by simp)
     replace D_p2_5 := sa_store D_p2_5 hs (by simp)
     replace D_p2_6 := sa_store D_p2_6 hs (by simp)
     replace D_vv := sa_store D_vv hs (by simp)
     replace D_v29_18_1 := sa_store D_v29_18_1 hs (by simp)
     replace D_v29_18_5 := sa_store D_v29_18_5 hs (by simp)
     replace D_v29_18_6 := sa_store D_v29_18_6 hs (by simp)
     replace kw := keeps_store kw hs lo_b9_18
     clear hs
     refine tail_nil (hK17 _ _ ?_)
     refine wp_seq_k fun K20 hK20 => ?_
     refine rg mixed y18 zz18 ?_
     refine .i (fo 7 (hbs rfl e9) Try.underlying156 rfl sz9 rfl) ?_
     refine .i (lo1 (hlc rfl) own_b9_18 trivial agg9 sz9 rfl) ?_
     refine .i (sp_move (hbs rfl e1)) ?_
     refine .i (sp_sEql (hlc rfl) (hlc rfl)) ?_
     refine .done ⟨by kernel_rfl, fun a21 g W21 y21 zz21 hk hg hV hR hP => ?_⟩
     obtain ⟨e33, -, -, -, -⟩ := hV
     replace e0 := (hR 0 rfl).trans e0
     replace e1 := (hR 1 rfl).trans e1
     replace e5 := (hR 5 rfl).trans e5
     replace e24 := (hR 24 rfl).trans e24
     replace e25 := (hR 25 rfl).trans e25
     replace e26 := (hR 26 rfl).trans e26
     replace D_p2_1 := D_p2_1.ext hk
     replace D_p2_5 := D_p2_5.ext hk
     replace D_p2_6 := D_p2_6.ext hk
     replace D_vv := D_vv.ext hk
     replace D_v29_18_1 := D_v29_18_1.ext hk
     replace D_v29_18_5 := D_v29_18_5.ext hk
     replace D_v29_18_6 := D_v29_18_6.ext hk
     replace e33 := e33.q
     replace own_bb := own_bb.ext hk
     replace own_b5_2 := own_b5_2.ext hk
     replace own_b9_18 := own_b9_18.ext hk
     replace kw := kw.x hk
     clear hR hk hg hP
     refine tail_nil (hK20 _ _ ?_)
     refine wp_cond_split e33 (fun hc => ?_) (fun hc => ?_)
     ·
      refine wp_seq_k fun K22 hK22 => ?_
      refine rg mixed y21 zz21 ?_
      refine .i (sp_assign Has.cst) ?_
      refine .i (sp_assign Has.cst) ?_
      refine .done ⟨by kernel_rfl, fun a23 g W23 y23 zz23 hk hg hV hR hP => ?_⟩
      obtain ⟨e7, e6, -⟩ := hV
      replace D_p2_1 := D_p2_1.ext hk
      replace D_p2_5 := D_p2_5.ext hk
      replace D_p2_6 := D_p2_6.ext hk
      replace D_vv := D_vv.ext hk
      have e6 : sl a23 6 = (.int .i64 (0)) := e6
      have e7 : sl a23 7 = (.int .i64 (7)) := e7
      replace own_bb := own_bb.ext hk
      replace own_b5_2 := own_b5_2.ext hk
      replace own_b9_18 := own_b9_18.ext hk
      replace kw := kw.x hk
      clear hR hk hg hP
      refine tail_nil (hK22 _ _ ?_)
      refine wp_ret ?_
      refine (show bodyPost Try.prog Try.f55 _ .ret _ _ from ret2 rfl zz23 e6 e7 ⟨_, rfl, kw, ?_⟩)
      exact rfl
     ·
      have hne : ¬ (L[k]'hlt).repo = repo := by simpa using hc
      refine wp_skip (hK16 _ _ ?_)
      refine rg mixed y21 zz21 ?_
      refine .i (sp_add (hbs rfl e26) Has.cst (i64_in (by omega))) ?_
      refine .i (sp_move (hlc rfl)) ?_
      refine .done ⟨by kernel_rfl, fun a24 g W24 y24 zz24 hk hg hV hR hP => ?_⟩
      obtain ⟨e26, -, -⟩ := hV
      replace e0 := (hR 0 rfl).trans e0
      replace e1 := (hR 1 rfl).trans e1
      replace e5 := (hR 5 rfl).trans e5
      replace e24 := (hR 24 rfl).trans e24
      replace e25 := (hR 25 rfl).trans e25
      replace D_p2_1 := D_p2_1.ext hk
      replace D_p2_5 := D_p2_5.ext hk
      replace D_p2_6 := D_p2_6.ext hk
      replace D_vv := D_vv.ext hk
      replace e26 := e26.q
      replace own_bb := own_bb.ext hk
      replace own_b5_2 := own_b5_2.ext hk
      replace own_b9_18 := own_b9_18.ext hk
      replace kw := kw.x hk
      clear hR hk hg hP
      exact tail_nil ⟨hlt, y24, zz24, kw, e0, e1, e5, e24, e25, (e26.trans (congrArg (Value.int .i64) (by simp))), own_bb, own_b5_2, (sa_less D_p2_1 (ls_skip (ls_keep ls_nil))), (sa_less D_p2_5 (ls_skip (ls_keep ls_nil))), (sa_less D_p2_6 (ls_skip (ls_keep ls_nil))), (sa_less D_vv (ls_skip (ls_keep ls_nil))), fun i h hi => by rcases Nat.lt_succ_iff_lt_or_eq.1 hi with h1 | h1; exact hall i h h1; subst h1; exact hne⟩
    ·
     have hge0 : ¬ k < L.length := by simpa using hc
     have hge : k = L.length := by omega
     exfalso
     obtain ⟨x, hx, hxr⟩ := hex
     obtain ⟨i, hi, rfl⟩ := List.getElem_of_mem hx
     exact hall i hi (by omega) hxr
set_option maxRecDepth 100000 in
theorem AddOk_ok (want : Int) (L : List Vo) (w : World) (S G : BSet) (lo : Nat) (vv : Value) (hd : Option Nat) (bb : Nat) (own_bb : Own w bb [.int .i64 want, vv] 104) (A_ar : Arr w lo 156 8 (SA w G (bb :: (blks hd ++ []))) (L.map Vo.d) vv hd) (nb : bb ∉ blks hd) (hlo : lo ≤ w.heap.size) (hG : ∀ b o, G b o → Cln o) (hw : 0 < want) (hL : ∀ x ∈ L, x.r.cu.wt ≤ 1073741824) (repo : ByteArray) (hrp : repo.size ≤ maxLen) (r : Rc) (hcu : r.cu.wt ≤ 1000000000) (hn : r.hs.length ≤ 1073741824) (hro : roleB repo = true) (hma : mayR r = true) (hnr : ∀ x ∈ L, x.repo ≠ repo) (hlen : L.length < 8) (hS : ∀ b o, S b o → Cln o) (hM : ∀ b ∈ bb :: (blks hd ++ []), ∀ o, ¬ S b o) (v : Value) (hr : Rd w S r.d v) : Calls Try.prog 55 #[.pointer (some ⟨bb, 0, none⟩), .string repo, v] w (RetL w (bb :: (blks hd ++ [])) fun u W => u = .tuple #[.int .i64 ((cntV (L ++ [Vo.mk r repo]) r : Nat) : Int), .int .i64 0] ∧ BoxV 104 156 W lo (SA w G) bb want (L ++ [Vo.mk r repo]) hd w.heap.size) := by
  have hmx : L.length ≤ maxLen := rdVos_len (arr_rdC A_ar (sa_cln hG))
  simp only [maxLen] at hmx
  obtain ⟨p2_1a, p2_1c, p2_5a, p2_5c, p2_6a, p2_6c, ev, hb_p2_4, D_p2_1, D_p2_5, D_p2_6⟩ := rdRc_out (rd_argM (M := (bb :: (blks hd ++ []))) hr hM)
  subst ev
  obtain ⟨vva, vvc, ev, D_vv⟩ := rdVos_out (rd_cw (arr_rdC A_ar (sa_cln hG)))
  subst ev
  refine enter Try.func55 rfl Try.ntmps55 (lbr rfl) fun a0 y0 zz0 harg => ?_
  have e0 : sl a0 0 = (.pointer (some ⟨bb, 0, none⟩)) := harg 0 (lbr rfl)
  have e1 : sl a0 1 = (.string (repo)) := harg 1 (lbr rfl)
  have e2 : sl a0 2 = (.agg #[(.int .i64 (r.ln)), (.slice p2_1a (r.hs.length) p2_1c), (.int .u8 (r.cu.k)), (.int .i64 (r.cu.n)), (.string (r.cu.t)), (.slice p2_5a (r.cu.ns.length) p2_5c), (.slice p2_6a (r.cu.xs.length) p2_6c)]) := harg 2 (lbr rfl)
  have kw := Keeps.refl (fun k => k ∉ (bb :: (blks hd ++ []))) w
  clear harg
  refine wp_seq_k fun K1 hK1 => ?_
  refine rg mixed y0 zz0 ?_
  refine .boxOp (v := (.agg #[(.int .i64 (r.ln)), (.slice p2_1a (r.hs.length) p2_1c), (.int .u8 (r.cu.k)), (.int .i64 (r.cu.n)), (.string (r.cu.t)), (.slice p2_5a (r.cu.ns.length) p2_5c), (.slice p2_6a (r.cu.xs.length) p2_6c)])) (hbs rfl e2) ?_
  refine .i (sp_assign Has.cst) ?_
  refine .i (sp_assign Has.cst) ?_
  refine .done ⟨by kernel_rfl, fun a2 g W2 y2 zz2 hk hg hV hR hP => ?_⟩
  obtain ⟨-, -, ⟨b5_2, e5, hb5, own_b5_2⟩, -⟩ := hV
  have lo_b5_2 : w.heap.size ≤ b5_2 := Nat.le_trans kw.size (hg.lo _ _ hb5)
  have ne_bb_b5_2 : bb ≠ b5_2 := Nat.ne_of_lt (Nat.lt_of_lt_of_le own_bb.lt (hg.lo _ _ hb5))
  have own_b5_2 : Own W2 b5_2 [(.int .i64 (r.ln)), (.slice p2_1a (r.hs.length) p2_1c), (.int .u8 (r.cu.k)), (.int .i64 (r.cu.n)), (.string (r.cu.t)), (.slice p2_5a (r.cu.ns.length) p2_5c), (.slice p2_6a (r.cu.xs.length) p2_6c)] 87 := own_b5_2
  replace e0 := (hR 0 rfl).trans e0
  replace e1 := (hR 1 rfl).trans e1
  have nb_b5_2_ar : b5_2 ∉ blks hd := nb_lt A_ar.lt (hg.lo _ _ hb5)
  replace A_ar : Arr W2 lo 156 8 (SA w G (b5_2 :: (bb :: (blks hd ++ [])))) (List.map Vo.d (L)) (.slice vva L.length vvc) hd := arrA_more A_ar hk [b5_2] (in_cons (hg.lo _ _ hb5) in_nil)
  replace D_p2_1 : Rd W2 (SA w S (b5_2 :: (bb :: (blks hd ++ [])))) (hssD (r.hs)) (.slice p2_1a (r.hs.length) p2_1c) := sa_more D_p2_1 hk [b5_2] (in_cons (hg.lo _ _ hb5) in_nil)
  replace D_p2_5 : Rd W2 (SA w S (b5_2 :: (bb :: (blks hd ++ [])))) (strsD (r.cu.ns)) (.slice p2_5a (r.cu.ns.length) p2_5c) := sa_more D_p2_5 hk [b5_2] (in_cons (hg.lo _ _ hb5) in_nil)
  replace D_p2_6 : Rd W2 (SA w S (b5_2 :: (bb :: (blks hd ++ [])))) (valsD (r.cu.xs)) (.slice p2_6a (r.cu.xs.length) p2_6c) := sa_more D_p2_6 hk [b5_2] (in_cons (hg.lo _ _ hb5) in_nil)
  replace D_vv : Rd W2 (CW w.heap.size) (vosD (L)) (.slice vva (L.length) vvc) := sc_more D_vv hk [b5_2] (in_cons (hg.lo _ _ hb5) in_nil)
  replace own_bb := own_bb.ext hk
  replace kw := kw.x hk
  clear hR hk hg hP hb5
  refine tail_nil (hK1 _ _ ?_)
  refine wp_seq_k fun K3 hK3 => ?_
  refine wp_seq_k fun K4 hK4 => ?_
  refine rg mixed y2 zz2 ?_
  refine .i (sp_move (hbs rfl e0)) ?_
  refine .i (v := (.bool (decide (0 < want)))) (sp_call1 (φ1 := Is (.pointer (some ⟨bb, 0, none⟩))) ent115 (hlc rfl) (fun g u1 W hk hgk h1 => by have h1 : u1 = _ := h1; subst u1; exact made_ok (want) W _ _ (own_bb.ext hk))) ?_
  refine .i (sp_not (hlc rfl)) ?_
  refine .done ⟨by kernel_rfl, fun a5 g W5 y5 zz5 hk hg hV hR hP => ?_⟩
  obtain ⟨e12, -, -, -⟩ := hV
  replace e0 := (hR 0 rfl).trans e0
  replace e1 := (hR 1 rfl).trans e1
  replace e5 := (hR 5 rfl).trans e5
  replace A_ar := A_ar.ext hk
  replace D_p2_1 := D_p2_1.ext hk
  replace D_p2_5 := D_p2_5.ext hk
  replace D_p2_6 := D_p2_6.ext hk
  replace D_vv := D_vv.ext hk
  have e12 : sl a5 12 = (.bool (!(decide (0 < want)))) := e12
  replace own_bb := own_bb.ext hk
  replace own_b5_2 := own_b5_2.ext hk
  replace kw := kw.x hk
  clear hR hk hg hP
  refine tail_nil (hK4 _ _ ?_)
  refine wp_cond_split e12 (fun hc => ?_) (fun hc => ?_)
  ·
   exfalso
   simp [hw] at hc
  ·
   refine wp_skip (hK3 _ _ ?_)
   refine wp_seq_k fun K6 hK6 => ?_
   refine wp_seq_k fun K7 hK7 => ?_
   refine rg mixed y5 zz5 ?_
   refine .i (sp_move (hbs rfl e1)) ?_
   refine .i (v := (.bool (roleB repo))) (sp_call1 (φ1 := Is (.string (repo))) ent116 (hlc rfl) (fun g u1 W hk hgk h1 => by have h1 : u1 = _ := h1; subst u1; exact Role_ok (repo) hrp W)) ?_
   refine .i (sp_not (hlc rfl)) ?_
   refine .i (sp_move (hlc rfl)) ?_
   refine .e (t := 16) (v := (.agg #[(.int .i64 (r.ln)), (.slice p2_1a (r.hs.length) p2_1c), (.int .u8 (r.cu.k)), (.int .i64 (r.cu.n)), (.string (r.cu.t)), (.slice p2_5a (r.cu.ns.length) p2_5c), (.slice p2_6a (r.cu.xs.length) p2_6c)])) rfl (hlc rfl) (fun hg => loA (hbs rfl e5) own_b5_2 trivial agg87 sz87 rfl rfl) ?_
   refine .e (t := 16) (v := (.bool (mayR r))) rfl (hlc rfl) (fun hg => sp_call1 (φ1 := IsD (SA w S (b5_2 :: (bb :: (blks hd ++ [])))) (Rc.d (r))) ent70 (((hlc rfl).undE hg).dat (rdRc_mk D_p2_1 (rdV_in (x := r.cu) hb_p2_4 D_p2_5 D_p2_6 : Rd W5 (SA w S (b5_2 :: (bb :: (blks hd ++ [])))) (V.d (r.cu)) _) : Rd W5 (SA w S (b5_2 :: (bb :: (blks hd ++ [])))) (Rc.d (r)) _) sub_all) (fun g u1 W hk hgk h1 => MayR_ok (r) hcu W _ _ (fun b o h => sa_cln hS b o h.1) h1)) ?_
   refine .e (t := 16) rfl (hlc rfl) (fun hg => sp_not ((hlc rfl).undE hg)) ?_
   refine .i (sp_or (hlc rfl) ((hlc rfl).weak fun hq => hq)) ?_
   refine .done ⟨by kernel_rfl, fun a8 g W8 y8 zz8 hk hg hV hR hP => ?_⟩
   obtain ⟨e20, -, -, -, -, -, -, -, -⟩ := hV
   replace e0 := (hR 0 rfl).trans e0
   replace e1 := (hR 1 rfl).trans e1
   replace e5 := (hR 5 rfl).trans e5
   replace A_ar := A_ar.ext hk
   replace D_p2_1 := D_p2_1.ext hk
   replace D_p2_5 := D_p2_5.ext hk
   replace D_p2_6 := D_p2_6.ext hk
   replace D_vv := D_vv.ext hk
   have e20 : sl a8 20 = (.bool ((!(roleB repo)) || (!(mayR r)))) := e20
   replace own_bb := own_bb.ext hk
   replace own_b5_2 := own_b5_2.ext hk
   replace kw := kw.x hk
   clear hR hk hg hP
   refine tail_nil (hK7 _ _ ?_)
   refine wp_cond_split e20 (fun hc => ?_) (fun hc => ?_)
   ·
    exfalso
    rw [hro, hma] at hc
    cases hc
   ·
    refine wp_skip (hK6 _ _ ?_)
    refine wp_seq_k fun K9 hK9 => ?_
    refine wp_seq_k fun K10 hK10 => ?_
    refine rg mixed y8 zz8 ?_
    refine .i (sp_move (hbs rfl e0)) ?_
    refine .i (sp_nilP (hlc rfl)) ?_
    refine .i (fo 1 (hlc rfl) Try.underlying104 rfl sz102 rfl) ?_
    refine .i (lo1 (hlc rfl) own_bb trivial agg102 sz102 rfl) ?_
    refine .i (sp_lenL Try.underlying102 ((hlc rfl).dat D_vv sub_all)) ?_
    refine .i (sp_move Has.cst) ?_
    refine .done ⟨by kernel_rfl, fun a11 g W11 y11 zz11 hk hg hV hR hP => ?_⟩
    obtain ⟨e26, e25, e24, -, -, -, -⟩ := hV
    replace e0 := (hR 0 rfl).trans e0
    replace e1 := (hR 1 rfl).trans e1
    replace e5 := (hR 5 rfl).trans e5
    replace A_ar := A_ar.ext hk
    replace D_p2_1 := D_p2_1.ext hk
    replace D_p2_5 := D_p2_5.ext hk
    replace D_p2_6 := D_p2_6.ext hk
    replace D_vv := D_vv.ext hk
    have e24 : sl a11 24 = (.slice vva (L.length) vvc) := e24
    have e25 : sl a11 25 = (.int .i64 (L.length)) := e25
    have e26 : sl a11 26 = (.int .i64 (0)) := e26
    replace own_bb := own_bb.ext hk
    replace own_b5_2 := own_b5_2.ext hk
    replace kw := kw.x hk
    clear hR hk hg hP
    refine tail_nil (hK10 _ _ ?_)
    refine wp_block ?_
    refine wp_for (L.length) (fun k a W => a.tmps.size = 60 ∧ a.defers = [] ∧ Keeps (fun k => k ∉ (bb :: (blks hd ++ []))) w W ∧ sl a 0 = (.pointer (some ⟨bb, 0, none⟩)) ∧ sl a 1 = (.string (repo)) ∧ sl a 5 = (.pointer (some ⟨b5_2, 0, none⟩)) ∧ sl a 24 = (.slice vva (L.length) vvc) ∧ sl a 25 = (.int .i64 (L.length)) ∧ sl a 26 = (.int .i64 ((k : Nat))) ∧ Own W bb [(.int .i64 (want)), (.slice vva (L.length) vvc)] 104 ∧ Own W b5_2 [(.int .i64 (r.ln)), (.slice p2_1a (r.hs.length) p2_1c), (.int .u8 (r.cu.k)), (.int .i64 (r.cu.n)), (.string (r.cu.t)), (.slice p2_5a (r.cu.ns.length) p2_5c), (.slice p2_6a (r.cu.xs.length) p2_6c)] 87 ∧ Rd W (SA w S (b5_2 :: (bb :: (blks hd ++ [])))) (hssD (r.hs)) (.slice p2_1a (r.hs.length) p2_1c) ∧ Rd W (SA w S (b5_2 :: (bb :: (blks hd ++ [])))) (strsD (r.cu.ns)) (.slice p2_5a (r.cu.ns.length) p2_5c) ∧ Rd W (SA w S (b5_2 :: (bb :: (blks hd ++ [])))) (valsD (r.cu.xs)) (.slice p2_6a (r.cu.xs.length) p2_6c) ∧ Rd W (CW w.heap.size) (vosD (L)) (.slice vva (L.length) vvc) ∧ Arr W lo 156 8 (SA w G (b5_2 :: (bb :: (blks hd ++ [])))) (List.map Vo.d (L)) (.slice vva L.length vvc) hd ∧ bb ∉ blks hd ∧ b5_2 ∉ blks hd) ⟨y11, zz11, kw, e0, e1, e5, e24, e25, (e26.trans (congrArg (Value.int .i64) (rfl))), own_bb, own_b5_2, D_p2_1, D_p2_5, D_p2_6, D_vv, A_ar, nb, nb_b5_2_ar⟩ ?_
    clear kw e0 e1 e5 e24 e25 e26 own_bb own_b5_2 D_p2_1 D_p2_5 D_p2_6 D_vv A_ar
    rintro k a12 W12 hkk ⟨y12, zz12, kw, e0, e1, e5, e24, e25, e26, own_bb, own_b5_2, D_p2_1, D_p2_5, D_p2_6, D_vv, Af_ar_12, nb_bb_ar_12, nb_b5_2_ar_12⟩
    refine wp_seq_k fun K13 hK13 => ?_
    refine rg mixed y12 zz12 ?_
    refine .i (sp_lss (hbs rfl e26) (hbs rfl e25)) ?_
    refine .done ⟨by kernel_rfl, fun a14 g W14 y14 zz14 hk hg hV hR hP => ?_⟩
    obtain ⟨e27, -⟩ := hV
    replace e0 := (hR 0 rfl).trans e0
    replace e1 := (hR 1 rfl).trans e1
    replace e5 := (hR 5 rfl).trans e5
    replace e24 := (hR 24 rfl).trans e24
    replace e25 := (hR 25 rfl).trans e25
    replace e26 := (hR 26 rfl).trans e26
    replace Af_ar_12 := Af_ar_12.ext hk
    replace D_p2_1 := D_p2_1.ext hk
    replace D_p2_5 := D_p2_5.ext hk
    replace D_p2_6 := D_p2_6.ext hk
    replace D_vv := D_vv.ext hk
    replace e27 := e27.q
    replace own_bb := own_bb.ext hk
    replace own_b5_2 := own_b5_2.ext hk
    replace kw := kw.x hk
    clear hR hk hg hP
    refine tail_nil (hK13 _ _ ?_)
    refine wp_seq_k fun K15 hK15 => ?_
    refine wp_cond_split e27 (fun hc => ?_) (fun hc => ?_)
    ·
     have hlt : k < L.length := by simpa using hc
     refine wp_skip (hK15 _ _ ?_)
     refine wp_seq_k fun K16 hK16 => ?_
     refine wp_block ?_
     refine wp_seq_k fun K17 hK17 => ?_
     refine rg mixed y14 zz14 ?_
     refine .rf (X := CW w.heap.size) (e := Vo.d (L[k]'hlt)) (sp_indexL (i := k) ((hbs rfl e24).dat D_vv sub_all) (hbs rfl e26) Try.underlying102 sz156 rfl hlt) ?_
     refine .da (X := CW w.heap.size) (e := Vo.d (L[k]'hlt)) (sp_loadR (hlc rfl) agg156 sz156 (width_Vo _)) ?_
     refine .alloc z156 ?_
     refine .done ⟨by kernel_rfl, fun a18 g W18 y18 zz18 hk hg hV hR hP => ?_⟩
     obtain ⟨⟨b9_18, e9, hb9, own_b9_18⟩, e29, -, -⟩ := hV
     have lo_b9_18 : w.heap.size ≤ b9_18 := Nat.le_trans kw.size (hg.lo _ _ hb9)
     have ne_bb_b9_18 : bb ≠ b9_18 := Nat.ne_of_lt (Nat.lt_of_lt_of_le own_bb.lt (hg.lo _ _ hb9))
     have ne_b5_2_b9_18 : b5_2 ≠ b9_18 := Nat.ne_of_lt (Nat.lt_of_lt_of_le own_b5_2.lt (hg.lo _ _ hb9))
     have own_b9_18 : Own W18 b9_18 [(.int .i64 (0)), (.slice none 0 0), (.int .u8 (0)), (.int .i64 (0)), (.string (⟨#[]⟩)), (.slice none 0 0), (.slice none 0 0), (.string (⟨#[]⟩))] 156 := own_b9_18
     replace e0 := (hR 0 rfl).trans e0
     replace e1 := (hR 1 rfl).trans e1
     replace e5 := (hR 5 rfl).trans e5
     replace e24 := (hR 24 rfl).trans e24
     replace e25 := (hR 25 rfl).trans e25
     replace e26 := (hR 26 rfl).trans e26
     have hMx : ∀ b ∈ (b5_2 :: (bb :: (blks hd ++ []))), b < W14.heap.size := (in_cons own_b5_2.lt (in_cons own_bb.lt (in_app Af_ar_12.lt in_nil)))
     have nb_b9_18_ar : b9_18 ∉ blks hd := nb_lt Af_ar_12.lt (hg.lo _ _ hb9)
     replace Af_ar_12 : Arr W18 lo 156 8 (SA w G (b9_18 :: (b5_2 :: (bb :: (blks hd ++ []))))) (List.map Vo.d (L)) (.slice vva L.length vvc) hd := arrA_more Af_ar_12 hk [b9_18] (in_cons (hg.lo _ _ hb9) in_nil)
     replace D_p2_1 : Rd W18 (SA w S (b9_18 :: (b5_2 :: (bb :: (blks hd ++ []))))) (hssD (r.hs)) (.slice p2_1a (r.hs.length) p2_1c) := sa_more D_p2_1 hk [b9_18] (in_cons (hg.lo _ _ hb9) in_nil)
     replace D_p2_5 : Rd W18 (SA w S (b9_18 :: (b5_2 :: (bb :: (blks hd ++ []))))) (strsD (r.cu.ns)) (.slice p2_5a (r.cu.ns.length) p2_5c) := sa_more D_p2_5 hk [b9_18] (in_cons (hg.lo _ _ hb9) in_nil)
     replace D_p2_6 : Rd W18 (SA w S (b9_18 :: (b5_2 :: (bb :: (blks hd ++ []))))) (valsD (r.cu.xs)) (.slice p2_6a (r.cu.xs.length) p2_6c) := sa_more D_p2_6 hk [b9_18] (in_cons (hg.lo _ _ hb9) in_nil)
     replace D_vv : Rd W18 (CW w.heap.size) (vosD (L)) (.slice vva (L.length) vvc) := sc_more D_vv hk [b9_18] (in_cons (hg.lo _ _ hb9) in_nil)
     obtain ⟨v29_18, ev⟩ : ∃ v, sl a18 29 = v := ⟨_, rfl⟩
     rw [ev] at e29
     have D_v29_18 : Rd W18 (CW w.heap.size) (Vo.d (L[k]'hlt)) v29_18 := sc_end e29 hk [b9_18] (in_cons ⟨_, hb9⟩ in_nil)
     replace e29 := ev; clear ev
     obtain ⟨v29_18_1a, v29_18_1c, v29_18_5a, v29_18_5c, v29_18_6a, v29_18_6c, ev, hb_v29_18_4, hb_v29_18_7, D_v29_18_1, D_v29_18_5, D_v29_18_6⟩ := rdVo_out D_v29_18
     subst ev; clear D_v29_18
     replace own_bb := own_bb.ext hk
     replace own_b5_2 := own_b5_2.ext hk
     replace kw := kw.x hk
     clear hR hk hg hP hb9
     refine tail_store (b := b9_18) (o := 0) (v := (.agg #[(.int .i64 ((L[k]'hlt).r.ln)), (.slice v29_18_1a (((L[k]'hlt).r.hs).length) v29_18_1c), (.int .u8 ((L[k]'hlt).r.cu.k)), (.int .i64 ((L[k]'hlt).r.cu.n)), (.string ((L[k]'hlt).r.cu.t)), (.slice v29_18_5a (((L[k]'hlt).r.cu.ns).length) v29_18_5c), (.slice v29_18_6a (((L[k]'hlt).r.cu.xs).length) v29_18_6c), (.string ((L[k]'hlt).repo))])) e9 e29 sz156 rfl own_b9_18 (lbr rfl) (all_cons rfl (all_cons rfl (all_cons rfl (all_cons rfl (all_cons rfl (all_cons rfl (all_cons rfl (all_cons rfl all_nil)))))))) (fun W19 hs own_b9_18 => ?_)
     have own_b9_18 : Own W19 b9_18 [(.int .i64 ((L[k]'hlt).r.ln)), (.slice v29_18_1a (((L[k]'hlt).r.hs).length) v29_18_1c), (.int .u8 ((L[k]'hlt).r.cu.k)), (.int .i64 ((L[k]'hlt).r.cu.n)), (.string ((L[k]'hlt).r.cu.t)), (.slice v29_18_5a (((L[k]'hlt).r.cu.ns).length) v29_18_5c), (.slice v29_18_6a (((L[k]'hlt).r.cu.xs).length) v29_18_6c), (.string ((L[k]'hlt).repo))] 156 := own_b9_18
     replace own_bb := own_store own_bb hs ne_bb_b9_18
     replace own_b5_2 := own_store own_b5_2 hs ne_b5_2_b9_18
     replace D_p2_1 := sa_store D_p2_1 hs (by simp)
     replace D_p2_5 := sa_store D_p2_5 hs (by simp)
     replace D_p2_6 := sa_store D_p2_6 hs (by simp)
     replace D_vv := sc_store D_vv hs lo_b9_18
     replace D_v29_18_1 := sc_store D_v29_18_1 hs lo_b9_18
     replace D_v29_18_5 := sc_store D_v29_18_5 hs lo_b9_18
     replace D_v29_18_6 := sc_store D_v29_18_6 hs lo_b9_18
     replace Af_ar_12 := arrA_store Af_ar_12 hs (by simp) nb_b9_18_ar
     replace kw := keeps_store kw hs lo_b9_18
     clear hs
     refine tail_nil (hK17 _ _ ?_)
     refine wp_seq_k fun K20 hK20 => ?_
     refine rg mixed y18 zz18 ?_
     refine .i (fo 7 (hbs rfl e9) Try.underlying156 rfl sz9 rfl) ?_
     refine .i (lo1 (hlc rfl) own_b9_18 trivial agg9 sz9 rfl) ?_
     refine .i (sp_move (hbs rfl e1)) ?_
     refine .i (sp_sEql (hlc rfl) (hlc rfl)) ?_
     refine .done ⟨by kernel_rfl, fun a21 g W21 y21 zz21 hk hg hV hR hP => ?_⟩
     obtain ⟨e33, -, -, -, -⟩ := hV
     replace e0 := (hR 0 rfl).trans e0
     replace e1 := (hR 1 rfl).trans e1
     replace e5 := (hR 5 rfl).trans e5
     replace e24 := (hR 24 rfl).trans e24
     replace e25 := (hR 25 rfl).trans e25
     replace e26 := (hR 26 rfl).trans e26
     replace Af_ar_12 := Af_ar_12.ext hk
     replace D_p2_1 := D_p2_1.ext hk
     replace D_p2_5 := D_p2_5.ext hk
     replace D_p2_6 := D_p2_6.ext hk
     replace D_vv := D_vv.ext hk
     replace D_v29_18_1 := D_v29_18_1.ext hk
     replace D_v29_18_5 := D_v29_18_5.ext hk
     replace D_v29_18_6 := D_v29_18_6.ext hk
     replace e33 := e33.q
     replace own_bb := own_bb.ext hk
     replace own_b5_2 := own_b5_2.ext hk
     replace own_b9_18 := own_b9_18.ext hk
     replace kw := kw.x hk
     clear hR hk hg hP
     refine tail_nil (hK20 _ _ ?_)
     refine wp_cond_split e33 (fun hc => ?_) (fun hc => ?_)
     ·
      exfalso
      have heq : (L[k]'hlt).repo = repo := by simpa using hc
      exact hnr _ (List.getElem_mem _) heq
     ·
      refine wp_skip (hK16 _ _ ?_)
      refine rg mixed y21 zz21 ?_
      refine .i (sp_add (hbs rfl e26) Has.cst (i64_in (by omega))) ?_
      refine .i (sp_move (hlc rfl)) ?_
      refine .done ⟨by kernel_rfl, fun a22 g W22 y22 zz22 hk hg hV hR hP => ?_⟩
      obtain ⟨e26, -, -⟩ := hV
      replace e0 := (hR 0 rfl).trans e0
      replace e1 := (hR 1 rfl).trans e1
      replace e5 := (hR 5 rfl).trans e5
      replace e24 := (hR 24 rfl).trans e24
      replace e25 := (hR 25 rfl).trans e25
      replace Af_ar_12 := Af_ar_12.ext hk
      replace D_p2_1 := D_p2_1.ext hk
      replace D_p2_5 := D_p2_5.ext hk
      replace D_p2_6 := D_p2_6.ext hk
      replace D_vv := D_vv.ext hk
      replace e26 := e26.q
      replace own_bb := own_bb.ext hk
      replace own_b5_2 := own_b5_2.ext hk
      replace own_b9_18 := own_b9_18.ext hk
      replace kw := kw.x hk
      clear hR hk hg hP
      exact tail_nil ⟨hlt, y22, zz22, kw, e0, e1, e5, e24, e25, (e26.trans (congrArg (Value.int .i64) (by simp))), own_bb, own_b5_2, (sa_less D_p2_1 (ls_skip (ls_keep (ls_keep (ls_keepA ls_nil))))), (sa_less D_p2_5 (ls_skip (ls_keep (ls_keep (ls_keepA ls_nil))))), (sa_less D_p2_6 (ls_skip (ls_keep (ls_keep (ls_keepA ls_nil))))), D_vv, (arrA_less Af_ar_12 (ls_skip (ls_keep (ls_keep (ls_keepA ls_nil))))), nb_bb_ar_12, nb_b5_2_ar_12⟩
    ·
     have hge0 : ¬ k < L.length := by simpa using hc
     have hge : k = L.length := by omega
     refine wp_exit (hK9 _ _ ?_)
     refine wp_seq_k fun K23 hK23 => ?_
     refine wp_seq_k fun K24 hK24 => ?_
     refine rg mixed y14 zz14 ?_
     refine .i (sp_move (hbs rfl e0)) ?_
     refine .i (sp_nilP (hlc rfl)) ?_
     refine .i (fo 1 (hlc rfl) Try.underlying104 rfl sz102 rfl) ?_
     refine .i (lo1 (hlc rfl) own_bb trivial agg102 sz102 rfl) ?_
     refine .i (sp_lenL Try.underlying102 ((hlc rfl).dat D_vv sub_all)) ?_
     refine .i (sp_geq (hlc rfl) Has.cst) ?_
     refine .done ⟨by kernel_rfl, fun a25 g W25 y25 zz25 hk hg hV hR hP => ?_⟩
     obtain ⟨e40, -, -, -, -, -, -⟩ := hV
     replace e0 := (hR 0 rfl).trans e0
     replace e1 := (hR 1 rfl).trans e1
     replace e5 := (hR 5 rfl).trans e5
     replace Af_ar_12 := Af_ar_12.ext hk
     replace D_p2_1 := D_p2_1.ext hk
     replace D_p2_5 := D_p2_5.ext hk
     replace D_p2_6 := D_p2_6.ext hk
     replace D_vv := D_vv.ext hk
     replace e40 := e40.q
     replace own_bb := own_bb.ext hk
     replace own_b5_2 := own_b5_2.ext hk
     replace kw := kw.x hk
     clear hR hk hg hP
     refine tail_nil (hK24 _ _ ?_)
     refine wp_cond_split e40 (fun hc => ?_) (fun hc => ?_)
     ·
      exfalso
      have := of_decide_eq_true hc
      omega
     ·
      refine wp_skip (hK23 _ _ ?_)
      refine wp_seq_k fun K26 hK26 => ?_
      have hws : w.heap.size ≤ W25.heap.size := kw.size
      refine wp_reg (fun k => k ∉ blks hd) (Ψ := fun W => Arr W lo 156 8 (SA w G (b5_2 :: (bb :: (blks hd ++ [])))) (List.map Vo.d (L)) (.slice vva L.length vvc) hd) mixed y25 zz25 (fun W W' k h => h.ext k) Af_ar_12 ?_
      refine .i (sp_move (hbs rfl e0)) ?_
      refine .i (sp_move (hbs rfl e0)) ?_
      refine .i (sp_nilP (hlc rfl)) ?_
      refine .i (fo 1 (hlc rfl) Try.underlying104 rfl sz102 rfl) ?_
      refine .i (lo1 (hlc rfl) own_bb nb_bb_ar_12 agg102 sz102 rfl) ?_
      refine .i (v := (.agg #[(.int .i64 (r.ln)), (.slice p2_1a (r.hs.length) p2_1c), (.int .u8 (r.cu.k)), (.int .i64 (r.cu.n)), (.string (r.cu.t)), (.slice p2_5a (r.cu.ns.length) p2_5c), (.slice p2_6a (r.cu.xs.length) p2_6c)])) (loA (hbs rfl e5) own_b5_2 nb_b5_2_ar_12 agg87 sz87 rfl rfl) ?_
      refine .op (φ := IsD (Fr W25) (Rc.d (r))) (st_d (sub_frnb (fun b hb => Af_ar_12.lt b hb))) (sp_call1 (φ1 := IsD (SA w S (b5_2 :: (bb :: (blks hd ++ [])))) (Rc.d (r))) ent117 ((hlc rfl).dat (rdRc_mk D_p2_1 (rdV_in (x := r.cu) hb_p2_4 D_p2_5 D_p2_6 : Rd W25 (SA w S (b5_2 :: (bb :: (blks hd ++ [])))) (V.d (r.cu)) _) : Rd W25 (SA w S (b5_2 :: (bb :: (blks hd ++ [])))) (Rc.d (r)) _) (sub_nb (fun b hb => List.mem_cons_of_mem _ (List.mem_cons_of_mem _ (List.mem_append_left _ hb))))) (fun g u1 W hk hgk h1 => (CopyR_ok (r) (Nat.le_trans hcu (by decide)) hn W _ _ (fun b o h => sa_cln hS b o h.1) h1).mono (ret_fr hk hgk))) ?_
      refine .i (sp_move (hbs rfl e1)) ?_
      refine .op (φ := IsD (Fr W25) (Vo.d (Vo.mk (r) (repo)))) (st_d (sub_frnb (fun b hb => Af_ar_12.lt b hb))) (sp_buildD (zd := [Rc.d Rc.zero, D.str ⟨#[]⟩]) (es := [(0, Rc.d (r)), (1, D.str (repo))]) Try.underlying156 z156 (pl156 Try.underlying156) ⟨rfl, (hlc rfl), ⟨rfl, (hlc rfl).str hrp, trivial⟩⟩ zVo (by first | rfl | simp [plOf, width, width_V, hssD]) (by simp [fits, width, strsD, valsD, hssD, width_V, width_Rc]) rfl) ?_
      refine .op (φ := IsD (SA w G (b5_2 :: (bb :: (blks hd ++ [])))) (vosD ([Vo.mk (r) (repo)]))) (st_d (sub_nb (fun b hb => List.mem_cons_of_mem _ (List.mem_cons_of_mem _ (List.mem_append_left _ hb))))) (sp_bsl (ds := [Vo.d (Vo.mk (r) (repo))]) Try.underlying102 sz156 z156 (lbr rfl) (lbr rfl) ⟨rfl, ((hlc rfl).sup (fr_sa kw (in_cons own_b5_2.lt (in_cons own_bb.lt (in_app Af_ar_12.lt in_nil))))), trivial⟩ rfl (by intro e he; simp at he; rcases he with rfl <;> exact width_Vo _) (fr_sa kw (in_cons own_b5_2.lt (in_cons own_bb.lt (in_app Af_ar_12.lt in_nil))))) ?_
      refine .appB (ds := List.map Vo.d (L)) (es := [Vo.d (Vo.mk (r) (repo))]) (X := SA w G (b5_2 :: (bb :: (blks hd ++ [])))) Try.underlying102 inf156 (lbr rfl) (hlc rfl) (hlc rfl) (sub_nb (fun b hb => List.mem_cons_of_mem _ (List.mem_cons_of_mem _ (List.mem_append_left _ hb)))) (by simp [maxLen]; omega) (by simp; omega) (Nat.le_trans hlo kw.size) ?_
      refine .i (sp_nilP (hlc rfl)) ?_
      refine .i (fo 1 (hlc rfl) Try.underlying104 rfl sz102 rfl) ?_
      refine .done ⟨by kernel_rfl, fun a27 g W27 y27 zz27 hk hg hV hR hP => ?_⟩
      obtain ⟨e53, -, e51, -, -, -, -, -, -, -, -, -, -, -⟩ := hV
      replace e0 := (hR 0 rfl).trans e0
      replace e5 := (hR 5 rfl).trans e5
      clear D_vv
      obtain ⟨v51_27, ev⟩ : ∃ v, sl a27 51 = v := ⟨_, rfl⟩
      rw [ev] at e51
      obtain ⟨hd51_27, A_51_27, hf51_27⟩ := e51
      have e51 := ev; clear ev
      obtain ⟨v51_27a, v51_27n, v51_27c, ev⟩ := arr_sl A_51_27; subst ev
      replace A_51_27 := arrA_new (M' := (b5_2 :: (bb :: (blks hd51_27 ++ [])))) A_51_27 (rep_cons (rep_cons (rep_app (rep_q fun _ h => h) rep_nil)))
      replace A_51_27 : Arr W27 lo 156 8 (SA w G (b5_2 :: (bb :: (blks hd51_27 ++ [])))) (List.map Vo.d (L ++ [Vo.mk (r) (repo)])) (.slice v51_27a v51_27n v51_27c) hd51_27 := by first | exact A_51_27 | (rw [List.map_append]; exact A_51_27)
      have nb_bb_27 : bb ∉ blks hd51_27 := nb_new nb_bb_ar_12 own_bb.lt hf51_27
      have nb_b5_2_27 : b5_2 ∉ blks hd51_27 := nb_new nb_b5_2_ar_12 own_b5_2.lt hf51_27
      replace D_p2_1 := sa_app (M' := (b5_2 :: (bb :: (blks hd51_27 ++ [])))) D_p2_1 hk (fun b hb => List.mem_cons_of_mem _ (List.mem_cons_of_mem _ (List.mem_append_left _ hb))) (rep_cons (rep_cons (rep_app hf51_27 rep_nil)))
      replace D_p2_5 := sa_app (M' := (b5_2 :: (bb :: (blks hd51_27 ++ [])))) D_p2_5 hk (fun b hb => List.mem_cons_of_mem _ (List.mem_cons_of_mem _ (List.mem_append_left _ hb))) (rep_cons (rep_cons (rep_app hf51_27 rep_nil)))
      replace D_p2_6 := sa_app (M' := (b5_2 :: (bb :: (blks hd51_27 ++ [])))) D_p2_6 hk (fun b hb => List.mem_cons_of_mem _ (List.mem_cons_of_mem _ (List.mem_append_left _ hb))) (rep_cons (rep_cons (rep_app hf51_27 rep_nil)))
      replace own_bb := own_app own_bb hk nb_bb_ar_12
      replace own_b5_2 := own_app own_b5_2 hk nb_b5_2_ar_12
      replace kw := keeps_appN kw hk (fun b hb hn => hn (by simp [hb]))
      have e53 : sl a27 53 = (.pointer (some ⟨bb, 1, none⟩)) := e53
      clear hR hk hg hP  Af_ar_12
      refine tail_store (b := bb) (o := 1) (v := (.slice v51_27a v51_27n v51_27c)) e53 e51 sz102 rfl own_bb (lbr rfl) (all_cons rfl all_nil) (fun W28 hs own_bb => ?_)
      have own_bb : Own W28 bb [(.int .i64 (want)), (.slice v51_27a v51_27n v51_27c)] 104 := own_bb
      replace own_b5_2 := own_store own_b5_2 hs ne_bb_b5_2.symm
      replace D_p2_1 := sa_store D_p2_1 hs (by simp)
      replace D_p2_5 := sa_store D_p2_5 hs (by simp)
      replace D_p2_6 := sa_store D_p2_6 hs (by simp)
      replace A_51_27 := arrA_store A_51_27 hs (by simp) nb_bb_27
      replace kw := keeps_storeN kw hs (by simp)
      clear hs
      have D_v51_27 := rd_cw (arr_rdC A_51_27 (sa_cln hG))
      obtain ⟨xa, xc, ev, D2⟩ := rdVos_out D_v51_27
      injection ev with h1 h2 h3; subst h1 h2 h3; replace D_v51_27 := D2; clear D2
      have hlL : (L ++ [Vo.mk (r) (repo)]).length ≤ maxLen := rdVos_len D_v51_27
      have hcuL : ∀ x ∈ L ++ [Vo.mk (r) (repo)], x.r.cu.wt ≤ 1073741824 := fun x hx => (List.mem_append.1 hx).elim (hL x) (fun h => by simp at h; subst h; exact Nat.le_trans hcu (by decide))
      have kw13 := kw
      refine tail_nil (hK26 _ _ ?_)
      refine wp_seq_k fun K29 hK29 => ?_
      refine rg mixed y27 zz27 ?_
      refine .i (sp_move (hbs rfl e0)) ?_
      refine .i (sp_nilP (hlc rfl)) ?_
      refine .i (fo 1 (hlc rfl) Try.underlying104 rfl sz102 rfl) ?_
      refine .i (lo1 (hlc rfl) own_bb trivial agg102 sz102 rfl) ?_
      refine .i (v := (.agg #[(.int .i64 (r.ln)), (.slice p2_1a (r.hs.length) p2_1c), (.int .u8 (r.cu.k)), (.int .i64 (r.cu.n)), (.string (r.cu.t)), (.slice p2_5a (r.cu.ns.length) p2_5c), (.slice p2_6a (r.cu.xs.length) p2_6c)])) (loA (hbs rfl e5) own_b5_2 trivial agg87 sz87 rfl rfl) ?_
      refine .i (v := (.int .i64 (((cntV (L ++ [Vo.mk (r) (repo)]) r : Nat) : Int)))) (sp_call2 (φ1 := IsD (CW W28.heap.size) (vosD (L ++ [Vo.mk (r) (repo)]))) (φ2 := IsD (SA w S (b5_2 :: (bb :: (blks hd51_27 ++ [])))) (Rc.d (r))) ent118 ((hlc rfl).dat D_v51_27 sub_all) ((hlc rfl).dat (rdRc_mk D_p2_1 (rdV_in (x := r.cu) hb_p2_4 D_p2_5 D_p2_6 : Rd W28 (SA w S (b5_2 :: (bb :: (blks hd51_27 ++ [])))) (V.d (r.cu)) _) : Rd W28 (SA w S (b5_2 :: (bb :: (blks hd51_27 ++ [])))) (Rc.d (r)) _) sub_all) (fun g u1 u2 W hk hgk h1 h2 => count30_ok (L ++ [Vo.mk (r) (repo)]) (r) hcuL (Nat.le_trans hcu (by decide)) W _ _ _ clnS_cln (rd_cln h1 (fun b o h => h.1.2)) (rd_cln h2 (fun b o h => sa_cln hS b o h.1)))) ?_
      refine .i (sp_assign (hlc rfl)) ?_
      refine .i (sp_assign Has.cst) ?_
      refine .done ⟨by kernel_rfl, fun a30 g W30 y30 zz30 hk hg hV hR hP => ?_⟩
      obtain ⟨e7, e6, -, -, -, -, -, -, -⟩ := hV
      replace A_51_27 := A_51_27.ext hk
      replace D_p2_1 := D_p2_1.ext hk
      replace D_p2_5 := D_p2_5.ext hk
      replace D_p2_6 := D_p2_6.ext hk
      replace D_v51_27 := D_v51_27.ext hk
      replace e6 := e6.q
      have e7 : sl a30 7 = (.int .i64 (0)) := e7
      replace own_bb := own_bb.ext hk
      replace own_b5_2 := own_b5_2.ext hk
      replace kw := kw.x hk
      clear hR hk hg hP
      refine tail_nil (hK29 _ _ ?_)
      refine wp_ret ?_
      refine (show bodyPost Try.prog Try.f55 _ .ret _ _ from ret2 rfl zz30 e6 e7 ⟨_, rfl, kw, ?_⟩)
      exact ⟨rfl, _, _, own_bb, (arrA_less A_51_27 (ls_skip (ls_keep (ls_keepA ls_nil)))), nb_bb_27, fun b hb => (hf51_27 b hb).imp id (Nat.le_trans hws)⟩
end Go.Proofs.Ytnobijngkpflcaa
namespace Go.Proofs.Ytnobijngkpflcaa
open Go.Eng
set_option maxRecDepth 100000 in
theorem one_ok (rot : Bool) (w : World) : Calls Try.prog 122 #[.bool rot] w (Ret w fun u W => Rd W (Fr w) (oneR rot).d u) := by
  refine enter Try.func122 rfl Try.ntmps122 (lbr rfl) fun a0 y0 zz0 harg => ?_
  have e0 : sl a0 0 = (.bool (rot)) := harg 0 (lbr rfl)
  have kw := Keeps.refl All w
  clear harg
  refine wp_seq_k fun K1 hK1 => ?_
  refine rg mixed y0 zz0 ?_
  refine .alloc z87 ?_
  refine .done ⟨by kernel_rfl, fun a2 g W2 y2 zz2 hk hg hV hR hP => ?_⟩
  obtain ⟨⟨b2_2, e2, hb2, own_b2_2⟩, -⟩ := hV
  have lo_b2_2 : w.heap.size ≤ b2_2 := Nat.le_trans kw.size (hg.lo _ _ hb2)
  have own_b2_2 : Own W2 b2_2 [(.int .i64 (0)), (.slice none 0 0), (.int .u8 (0)), (.int .i64 (0)), (.string (⟨#[]⟩)), (.slice none 0 0), (.slice none 0 0)] 87 := own_b2_2
  replace e0 := (hR 0 rfl).trans e0
  replace kw := kw.x hk
  clear hR hk hg hP hb2
  refine tail_nil (hK1 _ _ ?_)
  refine wp_seq_k fun K3 hK3 => ?_
  refine rg mixed y2 zz2 ?_
  refine .i (v := (.agg #[(.string (⟨#[115, 104, 97, 50, 53, 54]⟩)), (.string (⟨#[48, 48]⟩))])) (sp_build (vs := [(0, (.string (⟨#[115, 104, 97, 50, 53, 54]⟩))), (1, (.string (⟨#[48, 48]⟩)))]) Try.underlying114 z114 (pl114 Try.underlying114) ⟨rfl, Has.cst, rfl, Has.cst, trivial⟩ rfl) ?_
  refine .da (X := SF w [b2_2]) (e := hssD ([Hs.mk (⟨#[115, 104, 97, 50, 53, 54]⟩) (⟨#[48, 48]⟩)])) (sp_bsl (ds := [Hs.d (Hs.mk (⟨#[115, 104, 97, 50, 53, 54]⟩) (⟨#[48, 48]⟩))]) Try.underlying85 sz114 z114 (lbr rfl) (lbr rfl) ⟨rfl, ((hlc rfl).dat (rdHs_mk (lbr rfl) (lbr rfl) : Rd W2 (SF w [b2_2]) (Hs.d (Hs.mk (⟨#[115, 104, 97, 50, 53, 54]⟩) (⟨#[48, 48]⟩))) _) sub_all), trivial⟩ rfl (by intro e he; simp at he; rcases he with rfl <;> exact width_Hs _) (fr_sf kw (in_cons own_b2_2.lt in_nil))) ?_
  refine .da (X := SF w [b2_2]) (e := Rc.d (Rc.mk (1) ([Hs.mk (⟨#[115, 104, 97, 50, 53, 54]⟩) (⟨#[48, 48]⟩)]) (V.zero))) (sp_buildD (zd := [D.int .i64 0, hssD [], V.d V.zero]) (es := [(0, D.int .i64 (1)), (1, hssD ([Hs.mk (⟨#[115, 104, 97, 50, 53, 54]⟩) (⟨#[48, 48]⟩)]))]) Try.underlying87 z87 (pl87 Try.underlying87) ⟨rfl, Has.cst.int, ⟨rfl, (hlc rfl), trivial⟩⟩ zRc (by first | rfl | simp [plOf, width, width_V, hssD]) (by simp [fits, width, strsD, valsD, hssD, width_V]) rfl) ?_
  refine .alloc z87 ?_
  refine .done ⟨by kernel_rfl, fun a4 g W4 y4 zz4 hk hg hV hR hP => ?_⟩
  obtain ⟨⟨b3_4, e3, hb3, own_b3_4⟩, e6, -, -, -⟩ := hV
  have lo_b3_4 : w.heap.size ≤ b3_4 := Nat.le_trans kw.size (hg.lo _ _ hb3)
  have ne_b2_2_b3_4 : b2_2 ≠ b3_4 := Nat.ne_of_lt (Nat.lt_of_lt_of_le own_b2_2.lt (hg.lo _ _ hb3))
  have own_b3_4 : Own W4 b3_4 [(.int .i64 (0)), (.slice none 0 0), (.int .u8 (0)), (.int .i64 (0)), (.string (⟨#[]⟩)), (.slice none 0 0), (.slice none 0 0)] 87 := own_b3_4
  replace e0 := (hR 0 rfl).trans e0
  replace e2 := (hR 2 rfl).trans e2
  obtain ⟨v6_4, ev⟩ : ∃ v, sl a4 6 = v := ⟨_, rfl⟩
  rw [ev] at e6
  have D_v6_4 : Rd W4 (SF w [b3_4, b2_2]) (Rc.d (Rc.mk (1) ([Hs.mk (⟨#[115, 104, 97, 50, 53, 54]⟩) (⟨#[48, 48]⟩)]) (V.zero))) v6_4 := sf_end e6 hk [b3_4] (in_cons ⟨_, hb3⟩ in_nil)
  replace e6 := ev; clear ev
  obtain ⟨v6_4_1a, v6_4_1c, v6_4_5a, v6_4_5c, v6_4_6a, v6_4_6c, ev, hb_v6_4_4, D_v6_4_1, D_v6_4_5, D_v6_4_6⟩ := rdRc_out D_v6_4
  subst ev; clear D_v6_4
  replace own_b2_2 := own_b2_2.ext hk
  replace kw := kw.x hk
  clear hR hk hg hP hb3
  refine tail_store (b := b3_4) (o := 0) (v := (.agg #[(.int .i64 ((Rc.mk (1) ([Hs.mk (⟨#[115, 104, 97, 50, 53, 54]⟩) (⟨#[48, 48]⟩)]) (V.zero)).ln)), (.slice v6_4_1a (((Rc.mk (1) ([Hs.mk (⟨#[115, 104, 97, 50, 53, 54]⟩) (⟨#[48, 48]⟩)]) (V.zero)).hs).length) v6_4_1c), (.int .u8 ((Rc.mk (1) ([Hs.mk (⟨#[115, 104, 97, 50, 53, 54]⟩) (⟨#[48, 48]⟩)]) (V.zero)).cu.k)), (.int .i64 ((Rc.mk (1) ([Hs.mk (⟨#[115, 104, 97, 50, 53, 54]⟩) (⟨#[48, 48]⟩)]) (V.zero)).cu.n)), (.string ((Rc.mk (1) ([Hs.mk (⟨#[115, 104, 97, 50, 53, 54]⟩) (⟨#[48, 48]⟩)]) (V.zero)).cu.t)), (.slice v6_4_5a (((Rc.mk (1) ([Hs.mk (⟨#[115, 104, 97, 50, 53, 54]⟩) (⟨#[48, 48]⟩)]) (V.zero)).cu.ns).length) v6_4_5c), (.slice v6_4_6a (((Rc.mk (1) ([Hs.mk (⟨#[115, 104, 97, 50, 53, 54]⟩) (⟨#[48, 48]⟩)]) (V.zero)).cu.xs).length) v6_4_6c)])) e3 e6 sz87 rfl own_b3_4 (lbr rfl) (all_cons rfl (all_cons rfl (all_cons rfl (all_cons rfl (all_cons rfl (all_cons rfl (all_cons rfl all_nil))))))) (fun W5 hs own_b3_4 => ?_)
  have own_b3_4 : Own W5 b3_4 [(.int .i64 ((Rc.mk (1) ([Hs.mk (⟨#[115, 104, 97, 50, 53, 54]⟩) (⟨#[48, 48]⟩)]) (V.zero)).ln)), (.slice v6_4_1a (((Rc.mk (1) ([Hs.mk (⟨#[115, 104, 97, 50, 53, 54]⟩) (⟨#[48, 48]⟩)]) (V.zero)).hs).length) v6_4_1c), (.int .u8 ((Rc.mk (1) ([Hs.mk (⟨#[115, 104, 97, 50, 53, 54]⟩) (⟨#[48, 48]⟩)]) (V.zero)).cu.k)), (.int .i64 ((Rc.mk (1) ([Hs.mk (⟨#[115, 104, 97, 50, 53, 54]⟩) (⟨#[48, 48]⟩)]) (V.zero)).cu.n)), (.string ((Rc.mk (1) ([Hs.mk (⟨#[115, 104, 97, 50, 53, 54]⟩) (⟨#[48, 48]⟩)]) (V.zero)).cu.t)), (.slice v6_4_5a (((Rc.mk (1) ([Hs.mk (⟨#[115, 104, 97, 50, 53, 54]⟩) (⟨#[48, 48]⟩)]) (V.zero)).cu.ns).length) v6_4_5c), (.slice v6_4_6a (((Rc.mk (1) ([Hs.mk (⟨#[115, 104, 97, 50, 53, 54]⟩) (⟨#[48, 48]⟩)]) (V.zero)).cu.xs).length) v6_4_6c)] 87 := own_b3_4
  replace own_b2_2 := own_store own_b2_2 hs ne_b2_2_b3_4
  replace D_v6_4_1 := sf_store D_v6_4_1 hs (by simp)
  replace D_v6_4_5 := sf_store D_v6_4_5 hs (by simp)
  replace D_v6_4_6 := sf_store D_v6_4_6 hs (by simp)
  replace kw := keeps_store kw hs lo_b3_4
  clear hs
  refine tail_nil (hK3 _ _ ?_)
  refine wp_seq_k fun K6 hK6 => ?_
  refine wp_seq_k fun K7 hK7 => ?_
  refine rg mixed y4 zz4 ?_
  refine .i (sp_move (hbs rfl e0)) ?_
  refine .done ⟨by kernel_rfl, fun a8 g W8 y8 zz8 hk hg hV hR hP => ?_⟩
  obtain ⟨e7, -⟩ := hV
  replace e2 := (hR 2 rfl).trans e2
  replace e3 := (hR 3 rfl).trans e3
  replace D_v6_4_1 := D_v6_4_1.ext hk
  replace D_v6_4_5 := D_v6_4_5.ext hk
  replace D_v6_4_6 := D_v6_4_6.ext hk
  have e7 : sl a8 7 = (.bool (rot)) := e7
  replace own_b2_2 := own_b2_2.ext hk
  replace own_b3_4 := own_b3_4.ext hk
  replace kw := kw.x hk
  clear hR hk hg hP
  refine tail_nil (hK7 _ _ ?_)
  refine wp_cond_split e7 (fun hc => ?_) (fun hc => ?_)
  ·
   have hrt : rot = true := hc
   refine rg mixed y8 zz8 ?_
   refine .i (v := (.agg #[(.int .u8 (1)), (.int .i64 (1)), (.string (⟨#[]⟩)), (.slice none 0 0), (.slice none 0 0)])) (sp_build (vs := [(0, (.int .u8 (1))), (1, (.int .i64 (1)))]) Try.underlying33 z33 (pl33 Try.underlying33) ⟨rfl, Has.cst, rfl, Has.cst, trivial⟩ rfl) ?_
   refine .i (fo 2 (hbs rfl e3) Try.underlying87 rfl sz33 rfl) ?_
   refine .done ⟨by kernel_rfl, fun a9 g W9 y9 zz9 hk hg hV hR hP => ?_⟩
   obtain ⟨e9, e8, -⟩ := hV
   replace e2 := (hR 2 rfl).trans e2
   replace e3 := (hR 3 rfl).trans e3
   replace D_v6_4_1 := D_v6_4_1.ext hk
   replace D_v6_4_5 := D_v6_4_5.ext hk
   replace D_v6_4_6 := D_v6_4_6.ext hk
   replace e8 := e8.q
   have e9 : sl a9 9 = (.pointer (some ⟨b3_4, 2, none⟩)) := e9
   replace own_b2_2 := own_b2_2.ext hk
   replace own_b3_4 := own_b3_4.ext hk
   replace kw := kw.x hk
   clear hR hk hg hP
   refine tail_store (b := b3_4) (o := 2) (v := (.agg #[(.int .u8 (1)), (.int .i64 (1)), (.string (⟨#[]⟩)), (.slice none 0 0), (.slice none 0 0)])) e9 e8 sz33 rfl own_b3_4 (lbr rfl) (all_cons rfl (all_cons rfl (all_cons rfl (all_cons rfl (all_cons rfl all_nil))))) (fun W10 hs own_b3_4 => ?_)
   have own_b3_4 : Own W10 b3_4 [(.int .i64 ((Rc.mk (1) ([Hs.mk (⟨#[115, 104, 97, 50, 53, 54]⟩) (⟨#[48, 48]⟩)]) (V.zero)).ln)), (.slice v6_4_1a (((Rc.mk (1) ([Hs.mk (⟨#[115, 104, 97, 50, 53, 54]⟩) (⟨#[48, 48]⟩)]) (V.zero)).hs).length) v6_4_1c), (.int .u8 (1)), (.int .i64 (1)), (.string (⟨#[]⟩)), (.slice none 0 0), (.slice none 0 0)] 87 := own_b3_4
   replace own_b2_2 := own_store own_b2_2 hs ne_b2_2_b3_4
   replace D_v6_4_1 := sf_store D_v6_4_1 hs (by simp)
   replace D_v6_4_5 := sf_store D_v6_4_5 hs (by simp)
   replace D_v6_4_6 := sf_store D_v6_4_6 hs (by simp)
   replace kw := keeps_store kw hs lo_b3_4
   clear hs
   refine tail_nil (hK6 _ _ ?_)
   refine wp_seq_k fun K11 hK11 => ?_
   refine rg mixed y9 zz9 ?_
   refine .i (v := (.agg #[(.int .i64 ((Rc.mk (1) ([Hs.mk (⟨#[115, 104, 97, 50, 53, 54]⟩) (⟨#[48, 48]⟩)]) (V.zero)).ln)), (.slice v6_4_1a (((Rc.mk (1) ([Hs.mk (⟨#[115, 104, 97, 50, 53, 54]⟩) (⟨#[48, 48]⟩)]) (V.zero)).hs).length) v6_4_1c), (.int .u8 (1)), (.int .i64 (1)), (.string (⟨#[]⟩)), (.slice none 0 0), (.slice none 0 0)])) (loA (hbs rfl e3) own_b3_4 trivial agg87 sz87 rfl rfl) ?_
   refine .done ⟨by kernel_rfl, fun a12 g W12 y12 zz12 hk hg hV hR hP => ?_⟩
   obtain ⟨e10, -⟩ := hV
   replace e2 := (hR 2 rfl).trans e2
   replace D_v6_4_1 := D_v6_4_1.ext hk
   replace e10 := e10.q
   replace own_b2_2 := own_b2_2.ext hk
   replace own_b3_4 := own_b3_4.ext hk
   replace kw := kw.x hk
   clear hR hk hg hP
   refine tail_store (b := b2_2) (o := 0) (v := (.agg #[(.int .i64 ((Rc.mk (1) ([Hs.mk (⟨#[115, 104, 97, 50, 53, 54]⟩) (⟨#[48, 48]⟩)]) (V.zero)).ln)), (.slice v6_4_1a (((Rc.mk (1) ([Hs.mk (⟨#[115, 104, 97, 50, 53, 54]⟩) (⟨#[48, 48]⟩)]) (V.zero)).hs).length) v6_4_1c), (.int .u8 (1)), (.int .i64 (1)), (.string (⟨#[]⟩)), (.slice none 0 0), (.slice none 0 0)])) e2 e10 sz87 rfl own_b2_2 (lbr rfl) (all_cons rfl (all_cons rfl (all_cons rfl (all_cons rfl (all_cons rfl (all_cons rfl (all_cons rfl all_nil))))))) (fun W13 hs own_b2_2 => ?_)
   have own_b2_2 : Own W13 b2_2 [(.int .i64 ((Rc.mk (1) ([Hs.mk (⟨#[115, 104, 97, 50, 53, 54]⟩) (⟨#[48, 48]⟩)]) (V.zero)).ln)), (.slice v6_4_1a (((Rc.mk (1) ([Hs.mk (⟨#[115, 104, 97, 50, 53, 54]⟩) (⟨#[48, 48]⟩)]) (V.zero)).hs).length) v6_4_1c), (.int .u8 (1)), (.int .i64 (1)), (.string (⟨#[]⟩)), (.slice none 0 0), (.slice none 0 0)] 87 := own_b2_2
   replace own_b3_4 := own_store own_b3_4 hs ne_b2_2_b3_4.symm
   replace D_v6_4_1 := sf_store D_v6_4_1 hs (by simp)
   replace kw := keeps_store kw hs lo_b2_2
   clear hs
   refine tail_nil (hK11 _ _ ?_)
   refine wp_ret ?_
   refine (show bodyPost Try.prog Try.f122 _ .ret _ _ from retC (v := (.agg #[(.int .i64 ((Rc.mk (1) ([Hs.mk (⟨#[115, 104, 97, 50, 53, 54]⟩) (⟨#[48, 48]⟩)]) (V.zero)).ln)), (.slice v6_4_1a (((Rc.mk (1) ([Hs.mk (⟨#[115, 104, 97, 50, 53, 54]⟩) (⟨#[48, 48]⟩)]) (V.zero)).hs).length) v6_4_1c), (.int .u8 (1)), (.int .i64 (1)), (.string (⟨#[]⟩)), (.slice none 0 0), (.slice none 0 0)])) rfl zz12 e2 own_b2_2 agg87 sz87 rfl (fun h => by cases h) rfl ⟨_, rfl, kw, ?_⟩)
   subst hrt
   have hq := sf_fr (rdRc_mk D_v6_4_1 (rdV_mk (lbr rfl) (rd_nil _) (rd_nil _) : Rd W13 (SF w [b3_4, b2_2]) (V.d (V.mk (1) (1) (⟨#[]⟩) ([]) ([]))) _) : Rd W13 (SF w [b3_4, b2_2]) (Rc.d (Rc.mk ((Rc.mk (1) ([Hs.mk (⟨#[115, 104, 97, 50, 53, 54]⟩) (⟨#[48, 48]⟩)]) (V.zero)).ln) ((Rc.mk (1) ([Hs.mk (⟨#[115, 104, 97, 50, 53, 54]⟩) (⟨#[48, 48]⟩)]) (V.zero)).hs) (V.mk (1) (1) (⟨#[]⟩) ([]) ([])))) _)
   exact hq
  ·
   have hrt : rot = false := by simpa using hc
   refine wp_skip (hK6 _ _ ?_)
   refine wp_seq_k fun K14 hK14 => ?_
   refine rg mixed y8 zz8 ?_
   refine .i (v := (.agg #[(.int .i64 ((Rc.mk (1) ([Hs.mk (⟨#[115, 104, 97, 50, 53, 54]⟩) (⟨#[48, 48]⟩)]) (V.zero)).ln)), (.slice v6_4_1a (((Rc.mk (1) ([Hs.mk (⟨#[115, 104, 97, 50, 53, 54]⟩) (⟨#[48, 48]⟩)]) (V.zero)).hs).length) v6_4_1c), (.int .u8 ((Rc.mk (1) ([Hs.mk (⟨#[115, 104, 97, 50, 53, 54]⟩) (⟨#[48, 48]⟩)]) (V.zero)).cu.k)), (.int .i64 ((Rc.mk (1) ([Hs.mk (⟨#[115, 104, 97, 50, 53, 54]⟩) (⟨#[48, 48]⟩)]) (V.zero)).cu.n)), (.string ((Rc.mk (1) ([Hs.mk (⟨#[115, 104, 97, 50, 53, 54]⟩) (⟨#[48, 48]⟩)]) (V.zero)).cu.t)), (.slice v6_4_5a (((Rc.mk (1) ([Hs.mk (⟨#[115, 104, 97, 50, 53, 54]⟩) (⟨#[48, 48]⟩)]) (V.zero)).cu.ns).length) v6_4_5c), (.slice v6_4_6a (((Rc.mk (1) ([Hs.mk (⟨#[115, 104, 97, 50, 53, 54]⟩) (⟨#[48, 48]⟩)]) (V.zero)).cu.xs).length) v6_4_6c)])) (loA (hbs rfl e3) own_b3_4 trivial agg87 sz87 rfl rfl) ?_
   refine .done ⟨by kernel_rfl, fun a15 g W15 y15 zz15 hk hg hV hR hP => ?_⟩
   obtain ⟨e10, -⟩ := hV
   replace e2 := (hR 2 rfl).trans e2
   replace D_v6_4_1 := D_v6_4_1.ext hk
   replace D_v6_4_5 := D_v6_4_5.ext hk
   replace D_v6_4_6 := D_v6_4_6.ext hk
   replace e10 := e10.q
   replace own_b2_2 := own_b2_2.ext hk
   replace own_b3_4 := own_b3_4.ext hk
   replace kw := kw.x hk
   clear hR hk hg hP
   refine tail_store (b := b2_2) (o := 0) (v := (.agg #[(.int .i64 ((Rc.mk (1) ([Hs.mk (⟨#[115, 104, 97, 50, 53, 54]⟩) (⟨#[48, 48]⟩)]) (V.zero)).ln)), (.slice v6_4_1a (((Rc.mk (1) ([Hs.mk (⟨#[115, 104, 97, 50, 53, 54]⟩) (⟨#[48, 48]⟩)]) (V.zero)).hs).length) v6_4_1c), (.int .u8 ((Rc.mk (1) ([Hs.mk (⟨#[115, 104, 97, 50, 53, 54]⟩) (⟨#[48, 48]⟩)]) (V.zero)).cu.k)), (.int .i64 ((Rc.mk (1) ([Hs.mk (⟨#[115, 104, 97, 50, 53, 54]⟩) (⟨#[48, 48]⟩)]) (V.zero)).cu.n)), (.string ((Rc.mk (1) ([Hs.mk (⟨#[115, 104, 97, 50, 53, 54]⟩) (⟨#[48, 48]⟩)]) (V.zero)).cu.t)), (.slice v6_4_5a (((Rc.mk (1) ([Hs.mk (⟨#[115, 104, 97, 50, 53, 54]⟩) (⟨#[48, 48]⟩)]) (V.zero)).cu.ns).length) v6_4_5c), (.slice v6_4_6a (((Rc.mk (1) ([Hs.mk (⟨#[115, 104, 97, 50, 53, 54]⟩) (⟨#[48, 48]⟩)]) (V.zero)).cu.xs).length) v6_4_6c)])) e2 e10 sz87 rfl own_b2_2 (lbr rfl) (all_cons rfl (all_cons rfl (all_cons rfl (all_cons rfl (all_cons rfl (all_cons rfl (all_cons rfl all_nil))))))) (fun W16 hs own_b2_2 => ?_)
   have own_b2_2 : Own W16 b2_2 [(.int .i64 ((Rc.mk (1) ([Hs.mk (⟨#[115, 104, 97, 50, 53, 54]⟩) (⟨#[48, 48]⟩)]) (V.zero)).ln)), (.slice v6_4_1a (((Rc.mk (1) ([Hs.mk (⟨#[115, 104, 97, 50, 53, 54]⟩) (⟨#[48, 48]⟩)]) (V.zero)).hs).length) v6_4_1c), (.int .u8 ((Rc.mk (1) ([Hs.mk (⟨#[115, 104, 97, 50, 53, 54]⟩) (⟨#[48, 48]⟩)]) (V.zero)).cu.k)), (.int .i64 ((Rc.mk (1) ([Hs.mk (⟨#[115, 104, 97, 50, 53, 54]⟩) (⟨#[48, 48]⟩)]) (V.zero)).cu.n)), (.string ((Rc.mk (1) ([Hs.mk (⟨#[115, 104, 97, 50, 53, 54]⟩) (⟨#[48, 48]⟩)]) (V.zero)).cu.t)), (.slice v6_4_5a (((Rc.mk (1) ([Hs.mk (⟨#[115, 104, 97, 50, 53, 54]⟩) (⟨#[48, 48]⟩)]) (V.zero)).cu.ns).length) v6_4_5c), (.slice v6_4_6a (((Rc.mk (1) ([Hs.mk (⟨#[115, 104, 97, 50, 53, 54]⟩) (⟨#[48, 48]⟩)]) (V.zero)).cu.xs).length) v6_4_6c)] 87 := own_b2_2
   replace own_b3_4 := own_store own_b3_4 hs ne_b2_2_b3_4.symm
   replace D_v6_4_1 := sf_store D_v6_4_1 hs (by simp)
   replace D_v6_4_5 := sf_store D_v6_4_5 hs (by simp)
   replace D_v6_4_6 := sf_store D_v6_4_6 hs (by simp)
   replace kw := keeps_store kw hs lo_b2_2
   clear hs
   refine tail_nil (hK14 _ _ ?_)
   refine wp_ret ?_
   refine (show bodyPost Try.prog Try.f122 _ .ret _ _ from retC (v := (.agg #[(.int .i64 ((Rc.mk (1) ([Hs.mk (⟨#[115, 104, 97, 50, 53, 54]⟩) (⟨#[48, 48]⟩)]) (V.zero)).ln)), (.slice v6_4_1a (((Rc.mk (1) ([Hs.mk (⟨#[115, 104, 97, 50, 53, 54]⟩) (⟨#[48, 48]⟩)]) (V.zero)).hs).length) v6_4_1c), (.int .u8 ((Rc.mk (1) ([Hs.mk (⟨#[115, 104, 97, 50, 53, 54]⟩) (⟨#[48, 48]⟩)]) (V.zero)).cu.k)), (.int .i64 ((Rc.mk (1) ([Hs.mk (⟨#[115, 104, 97, 50, 53, 54]⟩) (⟨#[48, 48]⟩)]) (V.zero)).cu.n)), (.string ((Rc.mk (1) ([Hs.mk (⟨#[115, 104, 97, 50, 53, 54]⟩) (⟨#[48, 48]⟩)]) (V.zero)).cu.t)), (.slice v6_4_5a (((Rc.mk (1) ([Hs.mk (⟨#[115, 104, 97, 50, 53, 54]⟩) (⟨#[48, 48]⟩)]) (V.zero)).cu.ns).length) v6_4_5c), (.slice v6_4_6a (((Rc.mk (1) ([Hs.mk (⟨#[115, 104, 97, 50, 53, 54]⟩) (⟨#[48, 48]⟩)]) (V.zero)).cu.xs).length) v6_4_6c)])) rfl zz15 e2 own_b2_2 agg87 sz87 rfl (fun h => by cases h) rfl ⟨_, rfl, kw, ?_⟩)
   subst hrt
   have hq := sf_fr (rdRc_mk D_v6_4_1 (rdV_in (x := (Rc.mk (1) ([Hs.mk (⟨#[115, 104, 97, 50, 53, 54]⟩) (⟨#[48, 48]⟩)]) (V.zero)).cu) hb_v6_4_4 D_v6_4_5 D_v6_4_6 : Rd W16 (SF w [b3_4, b2_2]) (V.d ((Rc.mk (1) ([Hs.mk (⟨#[115, 104, 97, 50, 53, 54]⟩) (⟨#[48, 48]⟩)]) (V.zero)).cu)) _) : Rd W16 (SF w [b3_4, b2_2]) (Rc.d ((Rc.mk (1) ([Hs.mk (⟨#[115, 104, 97, 50, 53, 54]⟩) (⟨#[48, 48]⟩)]) (V.zero)))) _)
   exact hq
set_option maxRecDepth 100000 in
theorem addsNo_ok (p : Value) (repo : ByteArray) (rot : Bool) (e : Int) (w : World) (hadd : ∀ W v, Ext w W → Rd W (Fr w) (oneR rot).d v → Calls Try.prog 55 #[p, .string repo, v] W (Ret W fun u _ => u = .tuple #[.int .i64 0, .int .i64 e])) : Calls Try.prog 60 #[p, .string repo, .bool rot, .int .i64 0, .int .i64 e] w (Ret w fun u _ => u = .bool true) := by
  refine enter Try.func60 rfl Try.ntmps60 (lbr rfl) fun a0 y0 zz0 harg => ?_
  have e0 : sl a0 0 = p := harg 0 (lbr rfl)
  have e1 : sl a0 1 = (.string (repo)) := harg 1 (lbr rfl)
  have e2 : sl a0 2 = (.bool (rot)) := harg 2 (lbr rfl)
  have e3 : sl a0 3 = (.int .i64 (0)) := harg 3 (lbr rfl)
  have e4 : sl a0 4 = (.int .i64 (e)) := harg 4 (lbr rfl)
  have kw := Keeps.refl All w
  clear harg
  refine wp_seq_k fun K1 hK1 => ?_
  refine rg mixed y0 zz0 ?_
  refine .i (sp_assign Has.cst) ?_
  refine .done ⟨by kernel_rfl, fun a2 g W2 y2 zz2 hk hg hV hR hP => ?_⟩
  obtain ⟨-, -⟩ := hV
  replace e0 := (hR 0 rfl).trans e0
  replace e1 := (hR 1 rfl).trans e1
  replace e2 := (hR 2 rfl).trans e2
  replace e3 := (hR 3 rfl).trans e3
  replace e4 := (hR 4 rfl).trans e4
  replace kw := kw.x hk
  clear hR hk hg hP
  refine tail_nil (hK1 _ _ ?_)
  refine wp_seq_k fun K3 hK3 => ?_
  refine rg mixed y2 zz2 ?_
  refine .i (sp_move (hbs rfl e0)) ?_
  refine .i (sp_move (hbs rfl e1)) ?_
  refine .i (sp_move (hbs rfl e2)) ?_
  refine .da (X := Fr W2) (e := Rc.d (oneR rot)) (sp_call1 (φ1 := Is (.bool (rot))) ent122 (hlc rfl) (fun g u1 W hk hgk h1 => by have h1 : u1 = _ := h1; subst u1; exact (one_ok rot W).mono (ret_fr hk hgk))) ?_
  refine .i (v := (.tuple #[(.int .i64 (0)), (.int .i64 (e))])) (sp_call3 (φ1 := Is p) (φ2 := Is (.string (repo))) (φ3 := IsD (Fr W2) (Rc.d (oneR rot))) ent55 (hlc rfl) (hlc rfl) (hlc rfl) (fun g u1 u2 u3 W hk hgk h1 h2 h3 => by have h1 : u1 = _ := h1; subst u1; have h2 : u2 = _ := h2; subst u2; exact hadd W _ (Keeps.trans kw hk) (h3.mono fun b o hb _ => ⟨Nat.le_trans kw.size hb.1.1, hb.1.2⟩))) ?_
  refine .i (sp_move (hlc rfl)) ?_
  refine .i (v := (.int .i64 (0))) (sp_extT (hlc rfl) rfl) ?_
  refine .i (v := (.int .i64 (e))) (sp_extT (hlc rfl) rfl) ?_
  refine .i (sp_assign (hlc rfl)) ?_
  refine .i (sp_assign (hlc rfl)) ?_
  refine .done ⟨by kernel_rfl, fun a4 g W4 y4 zz4 hk hg hV hR hP => ?_⟩
  obtain ⟨e12, e11, -, -, -, -, -, -, -, -, -⟩ := hV
  replace e3 := (hR 3 rfl).trans e3
  replace e4 := (hR 4 rfl).trans e4
  have e11 : sl a4 11 = (.int .i64 (0)) := e11
  have e12 : sl a4 12 = (.int .i64 (e)) := e12
  replace kw := kw.x hk
  clear hR hk hg hP
  refine tail_nil (hK3 _ _ ?_)
  refine wp_seq_k fun K5 hK5 => ?_
  refine rg mixed y4 zz4 ?_
  refine .i (sp_move (hbs rfl e11)) ?_
  refine .i (sp_move (hbs rfl e3)) ?_
  refine .i (sp_eql (hlc rfl) (hlc rfl)) ?_
  refine .i (sp_move (hlc rfl)) ?_
  refine .e (t := 24) rfl (hlc rfl) (fun hg => sp_move (hbs rfl e12)) ?_
  refine .e (t := 24) rfl (hlc rfl) (fun hg => sp_move (hbs rfl e4)) ?_
  refine .e (t := 24) rfl (hlc rfl) (fun hg => sp_eql ((hlc rfl).undE hg) ((hlc rfl).undE hg)) ?_
  refine .i (sp_and (hlc rfl) ((hlc rfl).weak fun hq => hq)) ?_
  refine .i (sp_assign (hlc rfl)) ?_
  refine .done ⟨by kernel_rfl, fun a6 g W6 y6 zz6 hk hg hV hR hP => ?_⟩
  obtain ⟨e10, -, -, -, -, -, -, -, -, -⟩ := hV
  replace e10 := e10.q
  replace kw := kw.x hk
  clear hR hk hg hP
  refine tail_nil (hK5 _ _ ?_)
  refine wp_ret ?_
  refine (show bodyPost Try.prog Try.f60 _ .ret _ _ from ret1 rfl zz6 e10 ⟨_, rfl, kw, ?_⟩)
  simp
set_option maxRecDepth 100000 in
theorem adds_ok (want : Int) (L : List Vo) (w : World) (G : BSet) (lo : Nat) (vv : Value) (hd : Option Nat) (bb : Nat) (own_bb : Own w bb [.int .i64 want, vv] 104) (A_ar : Arr w lo 156 8 (SA w G (bb :: (blks hd ++ []))) (L.map Vo.d) vv hd) (nb : bb ∉ blks hd) (hlo : lo ≤ w.heap.size) (hG : ∀ b o, G b o → Cln o) (hw : 0 < want) (hL : ∀ x ∈ L, x.r.cu.wt ≤ 1073741824) (repo : ByteArray) (hrp : repo.size ≤ maxLen) (rot : Bool) (hro : roleB repo = true) (hnr : ∀ x ∈ L, x.repo ≠ repo) (hlen : L.length < 8) (n : Int) (hcn : ((cntV (L ++ [Vo.mk (oneR rot) repo]) (oneR rot) : Nat) : Int) = n) : Calls Try.prog 60 #[.pointer (some ⟨bb, 0, none⟩), .string repo, .bool rot, .int .i64 n, .int .i64 0] w (RetL w (bb :: (blks hd ++ [])) fun u W => u = .bool true ∧ BoxV 104 156 W lo (SA w G) bb want (L ++ [Vo.mk (oneR rot) repo]) hd w.heap.size) := by
  have hmx : L.length ≤ maxLen := rdVos_len (arr_rdC A_ar (sa_cln hG))
  simp only [maxLen] at hmx
  obtain ⟨vva, vvc, ev, D_vv⟩ := rdVos_out (rd_cw (arr_rdC A_ar (sa_cln hG)))
  subst ev
  refine enter Try.func60 rfl Try.ntmps60 (lbr rfl) fun a0 y0 zz0 harg => ?_
  have e0 : sl a0 0 = (.pointer (some ⟨bb, 0, none⟩)) := harg 0 (lbr rfl)
  have e1 : sl a0 1 = (.string (repo)) := harg 1 (lbr rfl)
  have e2 : sl a0 2 = (.bool (rot)) := harg 2 (lbr rfl)
  have e3 : sl a0 3 = (.int .i64 (n)) := harg 3 (lbr rfl)
  have e4 : sl a0 4 = (.int .i64 (0)) := harg 4 (lbr rfl)
  have kw := Keeps.refl (fun k => k ∉ (bb :: (blks hd ++ []))) w
  clear harg
  refine wp_seq_k fun K1 hK1 => ?_
  refine rg mixed y0 zz0 ?_
  refine .i (sp_assign Has.cst) ?_
  refine .done ⟨by kernel_rfl, fun a2 g W2 y2 zz2 hk hg hV hR hP => ?_⟩
  obtain ⟨-, -⟩ := hV
  replace e0 := (hR 0 rfl).trans e0
  replace e1 := (hR 1 rfl).trans e1
  replace e2 := (hR 2 rfl).trans e2
  replace e3 := (hR 3 rfl).trans e3
  replace e4 := (hR 4 rfl).trans e4
  replace A_ar := A_ar.ext hk
  replace D_vv := D_vv.ext hk
  replace own_bb := own_bb.ext hk
  replace kw := kw.x hk
  clear hR hk hg hP
  refine tail_nil (hK1 _ _ ?_)
  refine wp_seq_k fun K3 hK3 => ?_
  have hws : w.heap.size ≤ W2.heap.size := kw.size
  refine wp_reg (fun k => k ∉ (bb :: (blks hd ++ []))) (Ψ := fun W => Own W bb [(.int .i64 (want)), (.slice vva (L.length) vvc)] 104 ∧ Arr W lo 156 8 (SA w G (bb :: (blks hd ++ []))) (List.map Vo.d (L)) (.slice vva L.length vvc) hd) mixed y2 zz2 stE_boxR ⟨own_bb, A_ar⟩ ?_
  refine .i (sp_move (hbs rfl e0)) ?_
  refine .i (sp_move (hbs rfl e1)) ?_
  refine .i (sp_move (hbs rfl e2)) ?_
  refine .op (φ := IsD (Fr W2) (Rc.d (oneR rot))) (st_d (sub_frnl (in_cons own_bb.lt (in_app A_ar.lt in_nil)))) (sp_call1 (φ1 := Is (.bool (rot))) ent122 (hlc rfl) (fun g u1 W hk hgk h1 => by have h1 : u1 = _ := h1; subst u1; exact (one_ok rot W).mono (ret_fr hk hgk))) ?_
  refine .callL3 (φ1 := Is (.pointer (some ⟨bb, 0, none⟩))) (φ2 := Is (.string (repo))) (φ3 := IsD (Fr W2) (Rc.d (oneR rot))) (φ := Is (.tuple #[(.int .i64 (((cntV (L ++ [Vo.mk (oneR rot) repo]) (oneR rot) : Nat) : Int))), (.int .i64 (0))])) (Ψ' := fun W => AddV 104 156 W2 W lo (SA w G (bb :: (blks hd ++ []))) bb want (L ++ [Vo.mk (oneR rot) repo]) hd) ent55 (hlc rfl) (hlc rfl) (hlc rfl) (st_is _) stE_addV (fun g u1 u2 u3 W hk hg h1 h2 h3 hP => by have h1 : u1 = _ := h1; subst u1; have h2 : u2 = _ := h2; subst u2; exact (AddOk_ok (want) (L) W _ _ _ _ _ bb hP.1 (row_inA hG hP.2 (fun b hb => by first | exact hb | (simp only [List.mem_cons, List.mem_append, List.not_mem_nil, or_false] at hb ⊢; rcases hb with h | h <;> simp [h]))) nb (Nat.le_trans hlo (Nat.le_trans kw.size hk.size)) (sa_cln hG) hw hL (repo) hrp (oneR rot) (oneR_wt rot) (oneR_hs rot) hro (oneR_may rot) hnr hlen (fun b o h => h.1.2) (frG_nin (in_cons own_bb.lt (in_app A_ar.lt in_nil)) hk.size) _ h3).mono fun e W' ⟨u, h1, h2, h3, h4⟩ => ⟨u, h1, h2, h3, W, hk.size, h4⟩) ?_
  refine .i (sp_move (hlc rfl)) ?_
  refine .i (v := (.int .i64 (((cntV (L ++ [Vo.mk (oneR rot) repo]) (oneR rot) : Nat) : Int)))) (sp_extT (hlc rfl) rfl) ?_
  refine .i (v := (.int .i64 (0))) (sp_extT (hlc rfl) rfl) ?_
  refine .i (sp_assign (hlc rfl)) ?_
  refine .i (sp_assign (hlc rfl)) ?_
  refine .done ⟨by kernel_rfl, fun a4 g W4 y4 zz4 hk hg hV hR hP => ?_⟩
  obtain ⟨e12, e11, -, -, -, -, -, -, -, -, -⟩ := hV
  replace e3 := (hR 3 rfl).trans e3
  replace e4 := (hR 4 rfl).trans e4
  clear D_vv
  have hMlt : ∀ b ∈ (bb :: (blks hd ++ [])), b < W2.heap.size := (in_cons own_bb.lt (in_app A_ar.lt in_nil))
  obtain ⟨W1, hW1, v_4, hd_4, own_bb, A_4, nb_4, hf_4⟩ := hP
  replace hf_4 : ∀ b ∈ blks hd_4, b ∈ blks hd ∨ W2.heap.size ≤ b := fun b hb => (hf_4 b hb).imp id (Nat.le_trans hW1)
  obtain ⟨v_4a, v_4n, v_4c, ev⟩ := arr_sl A_4; subst ev
  replace A_4 : Arr W4 lo 156 8 (SA w G (bb :: (blks hd_4 ++ []))) (List.map Vo.d (L ++ [Vo.mk (oneR rot) repo])) (.slice v_4a v_4n v_4c) hd_4 := row_outA A_4 (Nat.le_trans kw.size hW1) (fun b hb => Nat.lt_of_lt_of_le (hMlt b hb) hW1) (fun b hb => by simp only [List.mem_cons, List.mem_append, List.not_mem_nil, or_false] at hb ⊢; rcases hb with h | h <;> simp [h])
  replace e11 := e11.q
  have e12 : sl a4 12 = (.int .i64 (0)) := e12
  replace own_bb : Own W4 bb [(.int .i64 (want)), (.slice v_4a v_4n v_4c)] 104 := own_bb
  replace kw := keeps_L kw hk (fun b hb => .inr (fun hn => hn hb))
  clear hR hk hg hMlt hW1 A_ar
  refine tail_nil (hK3 _ _ ?_)
  refine wp_seq_k fun K5 hK5 => ?_
  refine rg mixed y4 zz4 ?_
  refine .i (sp_move (hbs rfl e11)) ?_
  refine .i (sp_move (hbs rfl e3)) ?_
  refine .i (sp_eql (hlc rfl) (hlc rfl)) ?_
  refine .i (sp_move (hlc rfl)) ?_
  refine .e (t := 24) rfl (hlc rfl) (fun hg => sp_move (hbs rfl e12)) ?_
  refine .e (t := 24) rfl (hlc rfl) (fun hg => sp_move (hbs rfl e4)) ?_
  refine .e (t := 24) rfl (hlc rfl) (fun hg => sp_eql ((hlc rfl).undE hg) ((hlc rfl).undE hg)) ?_
  refine .i (sp_and (hlc rfl) ((hlc rfl).weak fun hq => hq)) ?_
  refine .i (sp_assign (hlc rfl)) ?_
  refine .done ⟨by kernel_rfl, fun a6 g W6 y6 zz6 hk hg hV hR hP => ?_⟩
  obtain ⟨e10, -, -, -, -, -, -, -, -, -⟩ := hV
  replace A_4 := A_4.ext hk
  replace e10 := e10.q
  replace own_bb := own_bb.ext hk
  replace kw := kw.x hk
  clear hR hk hg hP
  refine tail_nil (hK5 _ _ ?_)
  refine wp_ret ?_
  refine (show bodyPost Try.prog Try.f60 _ .ret _ _ from ret1 rfl zz6 e10 ⟨_, rfl, kw, ?_⟩)
  refine ⟨?_, _, _, own_bb, A_4, nb_4, fun b hb => (hf_4 b hb).imp id (Nat.le_trans hws)⟩
  rw [hcn]
  simp
end Go.Proofs.Ytnobijngkpflcaa
namespace Go.Proofs.Ytnobijngkpflcaa
open Go.Eng
set_option maxRecDepth 100000 in
theorem awake30_ok (w : World) : Calls Try.prog 53 #[] w (Ret w fun u _ => u = .bool true) := by
  refine enter Try.func53 rfl Try.ntmps53 (lbr rfl) fun a0 y0 zz0 harg => ?_
  have kw := Keeps.refl All w
  clear harg
  refine wp_seq_k fun K1 hK1 => ?_
  refine rg mixed y0 zz0 ?_
  refine .i (sp_assign Has.cst) ?_
  refine .done ⟨by kernel_rfl, fun a2 g W2 y2 zz2 hk hg hV hR hP => ?_⟩
  obtain ⟨-, -⟩ := hV
  replace kw := kw.x hk
  clear hR hk hg hP
  refine tail_nil (hK1 _ _ ?_)
  refine wp_seq_k fun K3 hK3 => ?_
  refine rg mixed y2 zz2 ?_
  refine .op (φ := IsT (IsNB W2 [(.int .i64 (2)), (.slice none 0 0)] 104) (Is (.int .i64 (0)))) (st_t st_nb (st_is _)) (sp_call1 (φ1 := Is (.int .i64 (2))) ent54 Has.cst (fun g u1 W hk hgk h1 => by have h1 : u1 = _ := h1; subst u1; exact (New_ok 2 (by decide) (by decide) W).mono (fun _ _ ⟨v, h1, h2, b, h3, h4, h5⟩ => ⟨v, h1, h2, _, _, h3, nb_up hk ⟨b, rfl, h4, h5⟩, rfl⟩))) ?_
  refine .op (φ := IsT (IsNB W2 [(.int .i64 (2)), (.slice none 0 0)] 104) (Is (.int .i64 (0)))) (st_t st_nb (st_is _)) (sp_move (hlc rfl)) ?_
  refine .op (φ := IsNB W2 [(.int .i64 (2)), (.slice none 0 0)] 104) st_nb (sp_ext2 (hlc rfl) rfl) ?_
  refine .i (v := (.int .i64 (0))) (sp_ext2' (hlc rfl) rfl) ?_
  refine .done ⟨by kernel_rfl, fun a4 g W4 y4 zz4 hk hg hV hR hP => ?_⟩
  obtain ⟨e12, e11, -, -, -⟩ := hV
  obtain ⟨bo11_4, e11, lr_bo11_4, own_bo11_4⟩ := e11
  have e11 : sl a4 11 = (.pointer (some ⟨bo11_4, 0, none⟩)) := e11
  have lo_bo11_4 : w.heap.size ≤ bo11_4 := Nat.le_trans kw.size lr_bo11_4
  have own_bo11_4 : Own W4 bo11_4 [(.int .i64 (2)), (.slice none 0 0)] 104 := own_bo11_4
  have e12 : sl a4 12 = (.int .i64 (0)) := e12
  replace kw := kw.x hk
  clear hR hk hg hP lr_bo11_4
  refine tail_assign (v := (.pointer (some ⟨bo11_4, 0, none⟩))) e11 (by rw [y4]; exact Nat.le_of_ble_eq_true rfl) (fun a5 y5 zz5 e1 hr => ?_)
  replace y5 := y5.trans y4; replace zz5 := zz5.trans zz4
  replace e12 := (hr 12 (by decide)).trans e12
  replace e11 := (hr 11 (by decide)).trans e11
  clear hr
  refine tail_assign (v := (.int .i64 (0))) e12 (by rw [y5]; exact Nat.le_of_ble_eq_true rfl) (fun a6 y6 zz6 e2 hr => ?_)
  replace y6 := y6.trans y5; replace zz6 := zz6.trans zz5
  replace e12 := (hr 12 (by decide)).trans e12
  replace e11 := (hr 11 (by decide)).trans e11
  replace e1 := (hr 1 (by decide)).trans e1
  clear hr
  refine tail_nil (hK3 _ _ ?_)
  refine wp_seq_k fun K7 hK7 => ?_
  refine wp_seq_k fun K8 hK8 => ?_
  have A_ar9 : Arr W4 w.heap.size 156 8 (SF w (blks none ++ (bo11_4 :: []))) (List.map Vo.d ([])) (.slice none 0 0) none := arr_nil _ _ _ _ _
  refine rg mixed y6 zz6 ?_
  refine .i (sp_move (hbs rfl e2)) ?_
  refine .i (sp_neq (hlc rfl) Has.cst) ?_
  refine .i (sp_move (hlc rfl)) ?_
  refine .done ⟨by kernel_rfl, fun a10 g W10 y10 zz10 hk hg hV hR hP => ?_⟩
  obtain ⟨e15, -, -, -⟩ := hV
  replace e1 := (hR 1 rfl).trans e1
  replace A_ar9 := A_ar9.ext hk
  have e15 : sl a10 15 = (.bool ((0 : Int) != (0 : Int))) := e15
  replace own_bo11_4 := own_bo11_4.ext hk
  replace kw := kw.x hk
  clear hR hk hg hP
  refine tail_ung 2 15 false rfl 3 rfl (e15.trans (congrArg Value.bool (by decide))) ?_
  refine tail_reg 2 (fun k => k ∉ (bo11_4 :: (blks none ++ []))) (Ψ := fun W => Own W bo11_4 [(.int .i64 (2)), (.slice none 0 0)] 104 ∧ Arr W w.heap.size 156 8 (SF w (blks none ++ (bo11_4 :: []))) (List.map Vo.d ([])) (.slice none 0 0) none) y10 zz10 stE_boxR ⟨own_bo11_4, A_ar9⟩ rfl ?_
  refine .i (sp_move (hbs rfl e1)) ?_
  refine .callL5 (φ1 := Is (.pointer (some ⟨bo11_4, 0, none⟩))) (φ2 := Is (.string (⟨#[97]⟩))) (φ3 := Is (.bool (false))) (φ4 := Is (.int .i64 (1))) (φ5 := Is (.int .i64 (0))) (φ := Is (.bool (true))) (Ψ' := fun W => AddV 104 156 W10 W w.heap.size (SF w (blks none ++ (bo11_4 :: []))) bo11_4 2 (([]) ++ [Vo.mk (oneR false) ⟨#[97]⟩]) none) ent60 (hlc rfl) Has.cst Has.cst Has.cst Has.cst (st_is _) stE_addV (fun g u1 u2 u3 u4 u5 W hk hg h1 h2 h3 h4 h5 hP => by have h1 : u1 = _ := h1; subst u1; have h2 : u2 = _ := h2; subst u2; have h3 : u3 = _ := h3; subst u3; have h4 : u4 = _ := h4; subst u4; have h5 : u5 = _ := h5; subst u5; exact (adds_ok (2) ([]) W _ _ _ _ bo11_4 hP.1 (row_inF hP.2 (fun b hb => by first | exact hb | (simp only [List.mem_cons, List.mem_append, List.not_mem_nil, or_false] at hb ⊢; rcases hb with h | h <;> simp [h]))) nb_none (Nat.le_trans kw.size hk.size) sf_cln (by decide) (okV_wt (by kernel_rfl)) ⟨#[97]⟩ ((by decide)) false (by kernel_rfl) (by decide) (by decide) (1) (by kernel_rfl)).mono fun e W' ⟨u, h1, h2, h3, h4⟩ => ⟨u, h1, h2, h3, W, hk.size, h4⟩) ?_
  refine .done ⟨by kernel_rfl, fun a11 g W11 y11 zz11 hk hg hV hR hP => ?_⟩
  refine tail_nil ?_
  show runTail _ _ _ _ _ _
  obtain ⟨e17, -, -⟩ := hV
  replace e1 := (hR 1 rfl).trans e1
  replace e15 := (hR 15 rfl).trans e15
  have hMlt : ∀ b ∈ (blks none ++ (bo11_4 :: [])), b < W10.heap.size := (in_app A_ar9.lt (in_cons own_bo11_4.lt in_nil))
  obtain ⟨W1, hW1, v_11, hd_11, own_bo11_4, A_11, nb_11, hf_11⟩ := hP
  replace hf_11 : ∀ b ∈ blks hd_11, b ∈ blks none ∨ W10.heap.size ≤ b := fun b hb => (hf_11 b hb).imp id (Nat.le_trans hW1)
  obtain ⟨v_11a, v_11n, v_11c, ev⟩ := arr_sl A_11; subst ev
  replace A_11 : Arr W11 w.heap.size 156 8 (SF w (blks hd_11 ++ (bo11_4 :: []))) (List.map Vo.d (([]) ++ [Vo.mk (oneR false) ⟨#[97]⟩])) (.slice v_11a v_11n v_11c) hd_11 := row_outF A_11 (Nat.le_trans kw.size hW1) (fun b hb => Nat.lt_of_lt_of_le (hMlt b hb) hW1) (fun b hb => by simp only [List.mem_cons, List.mem_append, List.not_mem_nil, or_false] at hb ⊢; rcases hb with h | h <;> simp [h])
  have e17 : sl a11 17 = (.bool (true)) := e17
  replace own_bo11_4 : Own W11 bo11_4 [(.int .i64 (2)), (.slice v_11a v_11n v_11c)] 104 := own_bo11_4
  replace kw := keeps_L kw hk (in_cons (.inl lo_bo11_4) (in_app (fun b hb => .inl (A_ar9.ge b hb)) in_nil))
  clear hR hk hg hMlt hW1 hf_11 A_ar9
  refine tail_reg 3 All y11 zz11 st_tr trivial rfl ?_
  refine .i (sp_not (hbs rfl e17)) ?_
  refine .i (sp_or (hbs rfl e15) ((hlc rfl).toU)) ?_
  refine .i (sp_move (hlc rfl)) ?_
  refine .done ⟨by kernel_rfl, fun a12 g W12 y12 zz12 hk hg hV hR hP => ?_⟩
  refine tail_nil ?_
  show runTail _ _ _ _ _ _
  obtain ⟨e20, -, -, -⟩ := hV
  replace e1 := (hR 1 rfl).trans e1
  replace A_11 := A_11.ext hk
  replace e20 := e20.q
  replace own_bo11_4 := own_bo11_4.ext hk
  replace kw := kw.x hk
  clear hR hk hg hP
  refine tail_ung 7 20 false rfl 3 rfl (e20.trans (congrArg Value.bool (by decide))) ?_
  refine tail_reg 2 (fun k => k ∉ (bo11_4 :: (blks hd_11 ++ []))) (Ψ := fun W => Own W bo11_4 [(.int .i64 (2)), (.slice v_11a v_11n v_11c)] 104 ∧ Arr W w.heap.size 156 8 (SF w (blks hd_11 ++ (bo11_4 :: []))) (List.map Vo.d (([]) ++ [Vo.mk (oneR false) ⟨#[97]⟩])) (.slice v_11a v_11n v_11c) hd_11) y12 zz12 stE_boxR ⟨own_bo11_4, A_11⟩ rfl ?_
  refine .i (sp_move (hbs rfl e1)) ?_
  refine .callL5 (φ1 := Is (.pointer (some ⟨bo11_4, 0, none⟩))) (φ2 := Is (.string (⟨#[98]⟩))) (φ3 := Is (.bool (true))) (φ4 := Is (.int .i64 (1))) (φ5 := Is (.int .i64 (0))) (φ := Is (.bool (true))) (Ψ' := fun W => AddV 104 156 W12 W w.heap.size (SF w (blks hd_11 ++ (bo11_4 :: []))) bo11_4 2 ((([]) ++ [Vo.mk (oneR false) ⟨#[97]⟩]) ++ [Vo.mk (oneR true) ⟨#[98]⟩]) hd_11) ent60 (hlc rfl) Has.cst Has.cst Has.cst Has.cst (st_is _) stE_addV (fun g u1 u2 u3 u4 u5 W hk hg h1 h2 h3 h4 h5 hP => by have h1 : u1 = _ := h1; subst u1; have h2 : u2 = _ := h2; subst u2; have h3 : u3 = _ := h3; subst u3; have h4 : u4 = _ := h4; subst u4; have h5 : u5 = _ := h5; subst u5; exact (adds_ok (2) (([]) ++ [Vo.mk (oneR false) ⟨#[97]⟩]) W _ _ _ _ bo11_4 hP.1 (row_inF hP.2 (fun b hb => by first | exact hb | (simp only [List.mem_cons, List.mem_append, List.not_mem_nil, or_false] at hb ⊢; rcases hb with h | h <;> simp [h]))) nb_11 (Nat.le_trans kw.size hk.size) sf_cln (by decide) (okV_wt (by kernel_rfl)) ⟨#[98]⟩ ((by decide)) true (by kernel_rfl) (by decide) (by decide) (1) (by kernel_rfl)).mono fun e W' ⟨u, h1, h2, h3, h4⟩ => ⟨u, h1, h2, h3, W, hk.size, h4⟩) ?_
  refine .done ⟨by kernel_rfl, fun a13 g W13 y13 zz13 hk hg hV hR hP => ?_⟩
  refine tail_nil ?_
  show runTail _ _ _ _ _ _
  obtain ⟨e22, -, -⟩ := hV
  replace e1 := (hR 1 rfl).trans e1
  replace e20 := (hR 20 rfl).trans e20
  have hMlt : ∀ b ∈ (blks hd_11 ++ (bo11_4 :: [])), b < W12.heap.size := (in_app A_11.lt (in_cons own_bo11_4.lt in_nil))
  obtain ⟨W1, hW1, v_13, hd_13, own_bo11_4, A_13, nb_13, hf_13⟩ := hP
  replace hf_13 : ∀ b ∈ blks hd_13, b ∈ blks hd_11 ∨ W12.heap.size ≤ b := fun b hb => (hf_13 b hb).imp id (Nat.le_trans hW1)
  obtain ⟨v_13a, v_13n, v_13c, ev⟩ := arr_sl A_13; subst ev
  replace A_13 : Arr W13 w.heap.size 156 8 (SF w (blks hd_13 ++ (bo11_4 :: []))) (List.map Vo.d ((([]) ++ [Vo.mk (oneR false) ⟨#[97]⟩]) ++ [Vo.mk (oneR true) ⟨#[98]⟩])) (.slice v_13a v_13n v_13c) hd_13 := row_outF A_13 (Nat.le_trans kw.size hW1) (fun b hb => Nat.lt_of_lt_of_le (hMlt b hb) hW1) (fun b hb => by simp only [List.mem_cons, List.mem_append, List.not_mem_nil, or_false] at hb ⊢; rcases hb with h | h <;> simp [h])
  have e22 : sl a13 22 = (.bool (true)) := e22
  replace own_bo11_4 : Own W13 bo11_4 [(.int .i64 (2)), (.slice v_13a v_13n v_13c)] 104 := own_bo11_4
  replace kw := keeps_L kw hk (in_cons (.inl lo_bo11_4) (in_app (fun b hb => .inl (A_11.ge b hb)) in_nil))
  clear hR hk hg hMlt hW1 hf_13 A_11
  refine tail_reg 2 All y13 zz13 st_tr trivial rfl ?_
  refine .i (sp_not (hbs rfl e22)) ?_
  refine .i (sp_or (hbs rfl e20) ((hlc rfl).toU)) ?_
  refine .done ⟨by kernel_rfl, fun a14 g W14 y14 zz14 hk hg hV hR hP => ?_⟩
  refine tail_nil ?_
  show runTail _ _ _ _ _ _
  obtain ⟨e24, -, -⟩ := hV
  replace e1 := (hR 1 rfl).trans e1
  replace A_13 := A_13.ext hk
  replace e24 := e24.q
  replace own_bo11_4 := own_bo11_4.ext hk
  replace kw := kw.x hk
  clear hR hk hg hP
  refine tail_nil (hK8 _ _ ?_)
  refine wp_cond_false (e24.trans (congrArg Value.bool (by decide))) ?_
  refine wp_skip (hK7 _ _ ?_)
  refine wp_seq_k fun K15 hK15 => ?_
  have hwR2 : wonR (2) ((([]) ++ [Vo.mk (oneR false) ⟨#[97]⟩]) ++ [Vo.mk (oneR true) ⟨#[98]⟩]) = Rc.zero := by kernel_rfl
  have hwS2 : wonS (2) ((([]) ++ [Vo.mk (oneR false) ⟨#[97]⟩]) ++ [Vo.mk (oneR true) ⟨#[98]⟩]) = ⟨#[]⟩ := by kernel_rfl
  have hwB2 : wonB (2) ((([]) ++ [Vo.mk (oneR false) ⟨#[97]⟩]) ++ [Vo.mk (oneR true) ⟨#[98]⟩]) = false := by kernel_rfl
  refine rg mixed y14 zz14 ?_
  refine .i (sp_move (hbs rfl e1)) ?_
  refine .op (φ := IsT3 (IsD (Fr W14) (Rc.d (Rc.zero))) (Is (.string (⟨#[]⟩))) (Is (.bool (false)))) (st_t3 (st_d sub_all) (st_is _) (st_is _)) (sp_call1 (φ1 := Is (.pointer (some ⟨bo11_4, 0, none⟩))) ent56 (hlc rfl) (fun g u1 W hk hgk h1 => by have h1 : u1 = _ := h1; subst u1; exact (Won_ok (2) ((([]) ++ [Vo.mk (oneR false) ⟨#[97]⟩]) ++ [Vo.mk (oneR true) ⟨#[98]⟩]) W _ _ _ (own_bo11_4.ext hk) (by decide) (okV_wt (by kernel_rfl)) (okV_hs (by kernel_rfl)) clnS_cln (arr_rdC (A_13.ext hk) sf_cln)).mono (fun _ _ ⟨v, h1, h2, r1, h3, h4⟩ => ⟨v, h1, h2, r1, _, _, h3, by rw [← hwR2]; exact fresh_d hk hgk h4, congrArg Value.string hwS2, congrArg Value.bool hwB2⟩))) ?_
  refine .op (φ := IsT3 (IsD (Fr W14) (Rc.d (Rc.zero))) (Is (.string (⟨#[]⟩))) (Is (.bool (false)))) (st_t3 (st_d sub_all) (st_is _) (st_is _)) (sp_move (hlc rfl)) ?_
  refine .da (X := Fr W14) (e := Rc.d (Rc.zero)) (sp_ext30 (hlc rfl)) ?_
  refine .i (v := (.string (⟨#[]⟩))) (sp_ext31 (hlc rfl)) ?_
  refine .i (v := (.bool (false))) (sp_ext32 (hlc rfl)) ?_
  refine .alloc z87 ?_
  refine .done ⟨by kernel_rfl, fun a16 g W16 y16 zz16 hk hg hV hR hP => ?_⟩
  obtain ⟨⟨b3_16, e3, hb3, own_b3_16⟩, e30, e29, e28, -, -, -, -⟩ := hV
  have lo_b3_16 : w.heap.size ≤ b3_16 := Nat.le_trans kw.size (hg.lo _ _ hb3)
  have ne_bo11_4_b3_16 : bo11_4 ≠ b3_16 := Nat.ne_of_lt (Nat.lt_of_lt_of_le own_bo11_4.lt (hg.lo _ _ hb3))
  have own_b3_16 : Own W16 b3_16 [(.int .i64 (0)), (.slice none 0 0), (.int .u8 (0)), (.int .i64 (0)), (.string (⟨#[]⟩)), (.slice none 0 0), (.slice none 0 0)] 87 := own_b3_16
  replace e1 := (hR 1 rfl).trans e1
  have hMx : ∀ b ∈ (blks hd_13 ++ (bo11_4 :: [])), b < W14.heap.size := (in_app A_13.lt (in_cons own_bo11_4.lt in_nil))
  have nb_b3_16_ar9 : b3_16 ∉ blks hd_13 := nb_lt A_13.lt (hg.lo _ _ hb3)
  replace A_13 : Arr W16 w.heap.size 156 8 (SF w (b3_16 :: (blks hd_13 ++ (bo11_4 :: [])))) (List.map Vo.d ((([]) ++ [Vo.mk (oneR false) ⟨#[97]⟩]) ++ [Vo.mk (oneR true) ⟨#[98]⟩])) (.slice v_13a v_13n v_13c) hd_13 := arrF_more A_13 hk [b3_16] (in_cons (hg.lo _ _ hb3) in_nil)
  obtain ⟨v28_16, ev⟩ : ∃ v, sl a16 28 = v := ⟨_, rfl⟩
  rw [ev] at e28
  have D_v28_16 : Rd W16 (SF w (b3_16 :: (blks hd_13 ++ (bo11_4 :: [])))) (Rc.d (Rc.zero)) v28_16 := fr_end (M := (blks hd_13 ++ (bo11_4 :: []))) e28 kw [b3_16] (in_cons ⟨_, hb3⟩ in_nil) hMx
  replace e28 := ev; clear ev
  obtain ⟨v28_16_1a, v28_16_1c, v28_16_5a, v28_16_5c, v28_16_6a, v28_16_6c, ev, hb_v28_16_4, D_v28_16_1, D_v28_16_5, D_v28_16_6⟩ := rdRc_out D_v28_16
  subst ev; clear D_v28_16
  have e29 : sl a16 29 = (.string (⟨#[]⟩)) := e29
  have e30 : sl a16 30 = (.bool (false)) := e30
  replace own_bo11_4 := own_bo11_4.ext hk
  replace kw := kw.x hk
  clear hR hk hg hP hb3
  refine tail_store (b := b3_16) (o := 0) (v := (.agg #[(.int .i64 (Rc.zero.ln)), (.slice v28_16_1a (Rc.zero.hs.length) v28_16_1c), (.int .u8 (Rc.zero.cu.k)), (.int .i64 (Rc.zero.cu.n)), (.string (Rc.zero.cu.t)), (.slice v28_16_5a (Rc.zero.cu.ns.length) v28_16_5c), (.slice v28_16_6a (Rc.zero.cu.xs.length) v28_16_6c)])) e3 e28 sz87 rfl own_b3_16 (lbr rfl) (all_cons rfl (all_cons rfl (all_cons rfl (all_cons rfl (all_cons rfl (all_cons rfl (all_cons rfl all_nil))))))) (fun W17 hs own_b3_16 => ?_)
  have own_b3_16 : Own W17 b3_16 [(.int .i64 (Rc.zero.ln)), (.slice v28_16_1a (Rc.zero.hs.length) v28_16_1c), (.int .u8 (Rc.zero.cu.k)), (.int .i64 (Rc.zero.cu.n)), (.string (Rc.zero.cu.t)), (.slice v28_16_5a (Rc.zero.cu.ns.length) v28_16_5c), (.slice v28_16_6a (Rc.zero.cu.xs.length) v28_16_6c)] 87 := own_b3_16
  replace own_bo11_4 := own_store own_bo11_4 hs ne_bo11_4_b3_16
  replace D_v28_16_1 := sf_store D_v28_16_1 hs (by simp)
  replace D_v28_16_5 := sf_store D_v28_16_5 hs (by simp)
  replace D_v28_16_6 := sf_store D_v28_16_6 hs (by simp)
  replace A_13 := arrF_store A_13 hs (by simp) nb_b3_16_ar9
  replace kw := keeps_store kw hs lo_b3_16
  clear hs
  refine tail_assign (v := (.string (⟨#[]⟩))) e29 (by rw [y16]; exact Nat.le_of_ble_eq_true rfl) (fun a18 y18 zz18 e4 hr => ?_)
  replace y18 := y18.trans y16; replace zz18 := zz18.trans zz16
  replace e1 := (hr 1 (by decide)).trans e1
  replace e3 := (hr 3 (by decide)).trans e3
  replace e28 := (hr 28 (by decide)).trans e28
  replace e29 := (hr 29 (by decide)).trans e29
  replace e30 := (hr 30 (by decide)).trans e30
  clear hr
  refine tail_assign (v := (.bool (false))) e30 (by rw [y18]; exact Nat.le_of_ble_eq_true rfl) (fun a19 y19 zz19 e5 hr => ?_)
  replace y19 := y19.trans y18; replace zz19 := zz19.trans zz18
  replace e1 := (hr 1 (by decide)).trans e1
  replace e3 := (hr 3 (by decide)).trans e3
  replace e28 := (hr 28 (by decide)).trans e28
  replace e29 := (hr 29 (by decide)).trans e29
  replace e30 := (hr 30 (by decide)).trans e30
  replace e4 := (hr 4 (by decide)).trans e4
  clear hr
  refine tail_nil (hK15 _ _ ?_)
  refine wp_seq_k fun K20 hK20 => ?_
  refine wp_seq_k fun K21 hK21 => ?_
  refine rg mixed y19 zz19 ?_
  refine .i (sp_move (hbs rfl e5)) ?_
  refine .i (sp_move (hlc rfl)) ?_
  refine .done ⟨by kernel_rfl, fun a22 g W22 y22 zz22 hk hg hV hR hP => ?_⟩
  obtain ⟨e32, -, -⟩ := hV
  replace e1 := (hR 1 rfl).trans e1
  replace A_13 := A_13.ext hk
  have e32 : sl a22 32 = (.bool (false)) := e32
  replace own_bo11_4 := own_bo11_4.ext hk
  replace own_b3_16 := own_b3_16.ext hk
  replace kw := kw.x hk
  clear hR hk hg hP
  refine tail_ung 1 32 false rfl 3 rfl (e32.trans (congrArg Value.bool rfl)) ?_
  refine tail_reg 2 (fun k => k ∉ (bo11_4 :: (blks hd_13 ++ []))) (Ψ := fun W => Own W bo11_4 [(.int .i64 (2)), (.slice v_13a v_13n v_13c)] 104 ∧ Arr W w.heap.size 156 8 (SF w (b3_16 :: (blks hd_13 ++ (bo11_4 :: [])))) (List.map Vo.d ((([]) ++ [Vo.mk (oneR false) ⟨#[97]⟩]) ++ [Vo.mk (oneR true) ⟨#[98]⟩])) (.slice v_13a v_13n v_13c) hd_13) y22 zz22 stE_boxR ⟨own_bo11_4, A_13⟩ rfl ?_
  refine .i (sp_move (hbs rfl e1)) ?_
  refine .callL5 (φ1 := Is (.pointer (some ⟨bo11_4, 0, none⟩))) (φ2 := Is (.string (⟨#[99]⟩))) (φ3 := Is (.bool (false))) (φ4 := Is (.int .i64 (2))) (φ5 := Is (.int .i64 (0))) (φ := Is (.bool (true))) (Ψ' := fun W => AddV 104 156 W22 W w.heap.size (SF w (b3_16 :: (blks hd_13 ++ (bo11_4 :: [])))) bo11_4 2 (((([]) ++ [Vo.mk (oneR false) ⟨#[97]⟩]) ++ [Vo.mk (oneR true) ⟨#[98]⟩]) ++ [Vo.mk (oneR false) ⟨#[99]⟩]) hd_13) ent60 (hlc rfl) Has.cst Has.cst Has.cst Has.cst (st_is _) stE_addV (fun g u1 u2 u3 u4 u5 W hk hg h1 h2 h3 h4 h5 hP => by have h1 : u1 = _ := h1; subst u1; have h2 : u2 = _ := h2; subst u2; have h3 : u3 = _ := h3; subst u3; have h4 : u4 = _ := h4; subst u4; have h5 : u5 = _ := h5; subst u5; exact (adds_ok (2) ((([]) ++ [Vo.mk (oneR false) ⟨#[97]⟩]) ++ [Vo.mk (oneR true) ⟨#[98]⟩]) W _ _ _ _ bo11_4 hP.1 (row_inF hP.2 (fun b hb => by first | exact hb | (simp only [List.mem_cons, List.mem_append, List.not_mem_nil, or_false] at hb ⊢; rcases hb with h | h <;> simp [h]))) nb_13 (Nat.le_trans kw.size hk.size) sf_cln (by decide) (okV_wt (by kernel_rfl)) ⟨#[99]⟩ ((by decide)) false (by kernel_rfl) (by decide) (by decide) (2) (by kernel_rfl)).mono fun e W' ⟨u, h1, h2, h3, h4⟩ => ⟨u, h1, h2, h3, W, hk.size, h4⟩) ?_
  refine .done ⟨by kernel_rfl, fun a23 g W23 y23 zz23 hk hg hV hR hP => ?_⟩
  refine tail_nil ?_
  show runTail _ _ _ _ _ _
  obtain ⟨e34, -, -⟩ := hV
  replace e1 := (hR 1 rfl).trans e1
  replace e32 := (hR 32 rfl).trans e32
  have hMlt : ∀ b ∈ (b3_16 :: (blks hd_13 ++ (bo11_4 :: []))), b < W22.heap.size := (in_cons own_b3_16.lt (in_app A_13.lt (in_cons own_bo11_4.lt in_nil)))
  obtain ⟨W1, hW1, v_23, hd_23, own_bo11_4, A_23, nb_23, hf_23⟩ := hP
  replace hf_23 : ∀ b ∈ blks hd_23, b ∈ blks hd_13 ∨ W22.heap.size ≤ b := fun b hb => (hf_23 b hb).imp id (Nat.le_trans hW1)
  obtain ⟨v_23a, v_23n, v_23c, ev⟩ := arr_sl A_23; subst ev
  replace A_23 : Arr W23 w.heap.size 156 8 (SF w (b3_16 :: (blks hd_23 ++ (bo11_4 :: [])))) (List.map Vo.d (((([]) ++ [Vo.mk (oneR false) ⟨#[97]⟩]) ++ [Vo.mk (oneR true) ⟨#[98]⟩]) ++ [Vo.mk (oneR false) ⟨#[99]⟩])) (.slice v_23a v_23n v_23c) hd_23 := row_outF A_23 (Nat.le_trans kw.size hW1) (fun b hb => Nat.lt_of_lt_of_le (hMlt b hb) hW1) (fun b hb => by simp only [List.mem_cons, List.mem_append, List.not_mem_nil, or_false] at hb ⊢; rcases hb with h | h | h <;> simp [h])
  have e34 : sl a23 34 = (.bool (true)) := e34
  have nb_b3_16_23 : b3_16 ∉ blks hd_23 := nb_new nb_b3_16_ar9 own_b3_16.lt hf_23
  replace own_b3_16 := own_appL own_b3_16 hk (nin_boxA ne_bo11_4_b3_16.symm nb_b3_16_ar9)
  replace own_bo11_4 : Own W23 bo11_4 [(.int .i64 (2)), (.slice v_23a v_23n v_23c)] 104 := own_bo11_4
  replace kw := keeps_L kw hk (in_cons (.inl lo_bo11_4) (in_app (fun b hb => .inl (A_13.ge b hb)) in_nil))
  clear hR hk hg hMlt hW1 hf_23 A_13
  refine tail_reg 3 All y23 zz23 st_tr trivial rfl ?_
  refine .i (sp_not (hbs rfl e34)) ?_
  refine .i (sp_or (hbs rfl e32) ((hlc rfl).toU)) ?_
  refine .i (sp_move (hlc rfl)) ?_
  refine .done ⟨by kernel_rfl, fun a24 g W24 y24 zz24 hk hg hV hR hP => ?_⟩
  refine tail_nil ?_
  show runTail _ _ _ _ _ _
  obtain ⟨e37, -, -, -⟩ := hV
  replace e1 := (hR 1 rfl).trans e1
  replace A_23 := A_23.ext hk
  have e37 : sl a24 37 = (.bool (false || (!true))) := e37
  replace own_bo11_4 := own_bo11_4.ext hk
  replace own_b3_16 := own_b3_16.ext hk
  replace kw := kw.x hk
  clear hR hk hg hP
  refine tail_ung 6 37 false rfl 3 rfl (e37.trans (congrArg Value.bool (by decide))) ?_
  refine tail_reg 4 All y24 zz24 st_tr trivial rfl ?_
  refine .i (sp_move (hbs rfl e1)) ?_
  refine .i (v := (.bool (true))) (sp_call5 (φ1 := Is (.pointer (some ⟨bo11_4, 0, none⟩))) (φ2 := Is (.string (⟨#[97]⟩))) (φ3 := Is (.bool (false))) (φ4 := Is (.int .i64 (0))) (φ5 := Is (.int .i64 (7))) ent60 (hlc rfl) Has.cst Has.cst Has.cst Has.cst (fun g u1 u2 u3 u4 u5 W hk hgk h1 h2 h3 h4 h5 => by have h1 : u1 = _ := h1; subst u1; have h2 : u2 = _ := h2; subst u2; have h3 : u3 = _ := h3; subst u3; have h4 : u4 = _ := h4; subst u4; have h5 : u5 = _ := h5; subst u5; exact addsNo_ok _ ⟨#[97]⟩ false 7 W (fun W2 v k hv => AddNo7_ok (2) (((([]) ++ [Vo.mk (oneR false) ⟨#[97]⟩]) ++ [Vo.mk (oneR true) ⟨#[98]⟩]) ++ [Vo.mk (oneR false) ⟨#[99]⟩]) W2 ClnS _ _ (own_bo11_4.ext (hk.trans k)) (by decide) ⟨#[97]⟩ (by decide) (oneR false) (oneR_wt _) (oneR_hs _) (by kernel_rfl) (oneR_may _) ⟨Vo.mk (oneR false) ⟨#[97]⟩, by simp, rfl⟩ clnS_cln (arr_rdC (A_23.ext (hk.trans k)) sf_cln) _ (rd_cln hv fun b o h => h.2)))) ?_
  refine .i (sp_not (hlc rfl)) ?_
  refine .i (sp_or (hbs rfl e37) ((hlc rfl).toU)) ?_
  refine .done ⟨by kernel_rfl, fun a25 g W25 y25 zz25 hk hg hV hR hP => ?_⟩
  refine tail_nil ?_
  show runTail _ _ _ _ _ _
  obtain ⟨e41, -, -, -, -⟩ := hV
  replace e1 := (hR 1 rfl).trans e1
  replace A_23 := A_23.ext hk
  have e41 : sl a25 41 = (.bool ((false || (!true)) || (!true))) := e41
  replace own_bo11_4 := own_bo11_4.ext hk
  replace own_b3_16 := own_b3_16.ext hk
  replace kw := kw.x hk
  clear hR hk hg hP
  refine tail_nil (hK21 _ _ ?_)
  refine wp_cond_false (e41.trans (congrArg Value.bool (by decide))) ?_
  refine wp_skip (hK20 _ _ ?_)
  refine wp_seq_k fun K26 hK26 => ?_
  have hwR3 : wonR (2) (((([]) ++ [Vo.mk (oneR false) ⟨#[97]⟩]) ++ [Vo.mk (oneR true) ⟨#[98]⟩]) ++ [Vo.mk (oneR false) ⟨#[99]⟩]) = oneR false := by kernel_rfl
  have hwS3 : wonS (2) (((([]) ++ [Vo.mk (oneR false) ⟨#[97]⟩]) ++ [Vo.mk (oneR true) ⟨#[98]⟩]) ++ [Vo.mk (oneR false) ⟨#[99]⟩]) = ⟨#[99]⟩ := by kernel_rfl
  have hwB3 : wonB (2) (((([]) ++ [Vo.mk (oneR false) ⟨#[97]⟩]) ++ [Vo.mk (oneR true) ⟨#[98]⟩]) ++ [Vo.mk (oneR false) ⟨#[99]⟩]) = true := by kernel_rfl
  refine rg mixed y25 zz25 ?_
  refine .i (sp_move (hbs rfl e1)) ?_
  refine .op (φ := IsT3 (IsD (Fr W25) (Rc.d (oneR false))) (Is (.string (⟨#[99]⟩))) (Is (.bool (true)))) (st_t3 (st_d sub_all) (st_is _) (st_is _)) (sp_call1 (φ1 := Is (.pointer (some ⟨bo11_4, 0, none⟩))) ent56 (hlc rfl) (fun g u1 W hk hgk h1 => by have h1 : u1 = _ := h1; subst u1; exact (Won_ok (2) (((([]) ++ [Vo.mk (oneR false) ⟨#[97]⟩]) ++ [Vo.mk (oneR true) ⟨#[98]⟩]) ++ [Vo.mk (oneR false) ⟨#[99]⟩]) W _ _ _ (own_bo11_4.ext hk) (by decide) (okV_wt (by kernel_rfl)) (okV_hs (by kernel_rfl)) clnS_cln (arr_rdC (A_23.ext hk) sf_cln)).mono (fun _ _ ⟨v, h1, h2, r1, h3, h4⟩ => ⟨v, h1, h2, r1, _, _, h3, by rw [← hwR3]; exact fresh_d hk hgk h4, congrArg Value.string hwS3, congrArg Value.bool hwB3⟩))) ?_
  refine .op (φ := IsT3 (IsD (Fr W25) (Rc.d (oneR false))) (Is (.string (⟨#[99]⟩))) (Is (.bool (true)))) (st_t3 (st_d sub_all) (st_is _) (st_is _)) (sp_move (hlc rfl)) ?_
  refine .da (X := Fr W25) (e := Rc.d (oneR false)) (sp_ext30 (hlc rfl)) ?_
  refine .i (v := (.string (⟨#[99]⟩))) (sp_ext31 (hlc rfl)) ?_
  refine .i (v := (.bool (true))) (sp_ext32 (hlc rfl)) ?_
  refine .alloc z87 ?_
  refine .done ⟨by kernel_rfl, fun a27 g W27 y27 zz27 hk hg hV hR hP => ?_⟩
  obtain ⟨⟨b6_27, e6, hb6, own_b6_27⟩, e47, e46, e45, -, -, -, -⟩ := hV
  have lo_b6_27 : w.heap.size ≤ b6_27 := Nat.le_trans kw.size (hg.lo _ _ hb6)
  have ne_bo11_4_b6_27 : bo11_4 ≠ b6_27 := Nat.ne_of_lt (Nat.lt_of_lt_of_le own_bo11_4.lt (hg.lo _ _ hb6))
  have ne_b3_16_b6_27 : b3_16 ≠ b6_27 := Nat.ne_of_lt (Nat.lt_of_lt_of_le own_b3_16.lt (hg.lo _ _ hb6))
  have own_b6_27 : Own W27 b6_27 [(.int .i64 (0)), (.slice none 0 0), (.int .u8 (0)), (.int .i64 (0)), (.string (⟨#[]⟩)), (.slice none 0 0), (.slice none 0 0)] 87 := own_b6_27
  replace e1 := (hR 1 rfl).trans e1
  have hMx : ∀ b ∈ (b3_16 :: (blks hd_23 ++ (bo11_4 :: []))), b < W25.heap.size := (in_cons own_b3_16.lt (in_app A_23.lt (in_cons own_bo11_4.lt in_nil)))
  have nb_b6_27_ar9 : b6_27 ∉ blks hd_23 := nb_lt A_23.lt (hg.lo _ _ hb6)
  replace A_23 : Arr W27 w.heap.size 156 8 (SF w (b6_27 :: (b3_16 :: (blks hd_23 ++ (bo11_4 :: []))))) (List.map Vo.d (((([]) ++ [Vo.mk (oneR false) ⟨#[97]⟩]) ++ [Vo.mk (oneR true) ⟨#[98]⟩]) ++ [Vo.mk (oneR false) ⟨#[99]⟩])) (.slice v_23a v_23n v_23c) hd_23 := arrF_more A_23 hk [b6_27] (in_cons (hg.lo _ _ hb6) in_nil)
  obtain ⟨v45_27, ev⟩ : ∃ v, sl a27 45 = v := ⟨_, rfl⟩
  rw [ev] at e45
  have D_v45_27 : Rd W27 (SF w (b6_27 :: (b3_16 :: (blks hd_23 ++ (bo11_4 :: []))))) (Rc.d (oneR false)) v45_27 := fr_end (M := (b3_16 :: (blks hd_23 ++ (bo11_4 :: [])))) e45 kw [b6_27] (in_cons ⟨_, hb6⟩ in_nil) hMx
  replace e45 := ev; clear ev
  obtain ⟨v45_27_1a, v45_27_1c, v45_27_5a, v45_27_5c, v45_27_6a, v45_27_6c, ev, hb_v45_27_4, D_v45_27_1, D_v45_27_5, D_v45_27_6⟩ := rdRc_out D_v45_27
  subst ev; clear D_v45_27
  have e46 : sl a27 46 = (.string (⟨#[99]⟩)) := e46
  have e47 : sl a27 47 = (.bool (true)) := e47
  replace own_bo11_4 := own_bo11_4.ext hk
  replace own_b3_16 := own_b3_16.ext hk
  replace kw := kw.x hk
  clear hR hk hg hP hb6
  refine tail_store (b := b6_27) (o := 0) (v := (.agg #[(.int .i64 ((oneR false).ln)), (.slice v45_27_1a (((oneR false).hs).length) v45_27_1c), (.int .u8 ((oneR false).cu.k)), (.int .i64 ((oneR false).cu.n)), (.string ((oneR false).cu.t)), (.slice v45_27_5a (((oneR false).cu.ns).length) v45_27_5c), (.slice v45_27_6a (((oneR false).cu.xs).length) v45_27_6c)])) e6 e45 sz87 rfl own_b6_27 (lbr rfl) (all_cons rfl (all_cons rfl (all_cons rfl (all_cons rfl (all_cons rfl (all_cons rfl (all_cons rfl all_nil))))))) (fun W28 hs own_b6_27 => ?_)
  have own_b6_27 : Own W28 b6_27 [(.int .i64 ((oneR false).ln)), (.slice v45_27_1a (((oneR false).hs).length) v45_27_1c), (.int .u8 ((oneR false).cu.k)), (.int .i64 ((oneR false).cu.n)), (.string ((oneR false).cu.t)), (.slice v45_27_5a (((oneR false).cu.ns).length) v45_27_5c), (.slice v45_27_6a (((oneR false).cu.xs).length) v45_27_6c)] 87 := own_b6_27
  replace own_bo11_4 := own_store own_bo11_4 hs ne_bo11_4_b6_27
  replace own_b3_16 := own_store own_b3_16 hs ne_b3_16_b6_27
  replace D_v45_27_1 := sf_store D_v45_27_1 hs (by simp)
  replace D_v45_27_5 := sf_store D_v45_27_5 hs (by simp)
  replace D_v45_27_6 := sf_store D_v45_27_6 hs (by simp)
  replace A_23 := arrF_store A_23 hs (by simp) nb_b6_27_ar9
  replace kw := keeps_store kw hs lo_b6_27
  clear hs
  refine tail_assign (v := (.string (⟨#[99]⟩))) e46 (by rw [y27]; exact Nat.le_of_ble_eq_true rfl) (fun a29 y29 zz29 e7 hr => ?_)
  replace y29 := y29.trans y27; replace zz29 := zz29.trans zz27
  replace e1 := (hr 1 (by decide)).trans e1
  replace e6 := (hr 6 (by decide)).trans e6
  replace e45 := (hr 45 (by decide)).trans e45
  replace e46 := (hr 46 (by decide)).trans e46
  replace e47 := (hr 47 (by decide)).trans e47
  clear hr
  refine tail_assign (v := (.bool (true))) e47 (by rw [y29]; exact Nat.le_of_ble_eq_true rfl) (fun a30 y30 zz30 e8 hr => ?_)
  replace y30 := y30.trans y29; replace zz30 := zz30.trans zz29
  replace e1 := (hr 1 (by decide)).trans e1
  replace e6 := (hr 6 (by decide)).trans e6
  replace e45 := (hr 45 (by decide)).trans e45
  replace e46 := (hr 46 (by decide)).trans e46
  replace e47 := (hr 47 (by decide)).trans e47
  replace e7 := (hr 7 (by decide)).trans e7
  clear hr
  refine tail_nil (hK26 _ _ ?_)
  refine wp_seq_k fun K31 hK31 => ?_
  refine rg mixed y30 zz30 ?_
  refine .i (sp_move (hbs rfl e8)) ?_
  refine .i (sp_move (hlc rfl)) ?_
  refine .e (t := 49) rfl (hlc rfl) (fun hg => sp_move (hbs rfl e7)) ?_
  refine .e (t := 49) rfl (hlc rfl) (fun hg => sp_sEql ((hlc rfl).undE hg) Has.cst) ?_
  refine .i (sp_and (hlc rfl) ((hlc rfl).weak fun hq => hq)) ?_
  refine .i (sp_move (hlc rfl)) ?_
  refine .e (t := 53) rfl (hlc rfl) (fun hg => fo 0 (hbs rfl e6) Try.underlying87 rfl sz2 rfl) ?_
  refine .e (t := 53) rfl (hlc rfl) (fun hg => lo1 ((hlc rfl).undE hg) own_b6_27 trivial agg2 sz2 rfl) ?_
  refine .e (t := 53) rfl (hlc rfl) (fun hg => sp_eql ((hlc rfl).undE hg) Has.cst) ?_
  refine .i (sp_and (hlc rfl) ((hlc rfl).weak fun hq => hq)) ?_
  refine .i (sp_move (hlc rfl)) ?_
  refine .e (t := 58) rfl (hlc rfl) (fun hg => fo 2 (hbs rfl e6) Try.underlying87 rfl sz33 rfl) ?_
  refine .e (t := 58) rfl (hlc rfl) (fun hg => fo 2 ((hlc rfl).undE hg) Try.underlying33 rfl sz5 rfl) ?_
  refine .e (t := 58) rfl (hlc rfl) (fun hg => lo1 ((hlc rfl).undE hg) own_b6_27 trivial agg5 sz5 rfl) ?_
  refine .e (t := 58) rfl (hlc rfl) (fun hg => sp_eql ((hlc rfl).undE hg) Has.cst) ?_
  refine .i (sp_and (hlc rfl) ((hlc rfl).weak fun hq => hq)) ?_
  refine .i (sp_move (hlc rfl)) ?_
  refine .e (t := 64) rfl (hlc rfl) (fun hg => fo 1 (hbs rfl e6) Try.underlying87 rfl sz85 rfl) ?_
  refine .e (t := 64) rfl (hlc rfl) (fun hg => lo1 ((hlc rfl).undE hg) own_b6_27 trivial agg85 sz85 rfl) ?_
  refine .e (t := 64) rfl (hlc rfl) (fun hg => sp_lenL Try.underlying85 (((hlc rfl).undE hg).dat D_v45_27_1 sub_all)) ?_
  refine .e (t := 64) rfl (hlc rfl) (fun hg => sp_eql ((hlc rfl).undE hg) Has.cst) ?_
  refine .i (sp_and (hlc rfl) ((hlc rfl).weak fun hq => hq)) ?_
  refine .i (sp_move (hlc rfl)) ?_
  refine .e (t := 70) rfl (hlc rfl) (fun hg => fo 1 (hbs rfl e6) Try.underlying87 rfl sz85 rfl) ?_
  refine .e (t := 70) rfl (hlc rfl) (fun hg => lo1 ((hlc rfl).undE hg) own_b6_27 trivial agg85 sz85 rfl) ?_
  refine .opE (t := 70) (φ := IsR (SF w (b6_27 :: (b3_16 :: (blks hd_23 ++ (bo11_4 :: []))))) (Hs.d (((oneR false).hs)[0]'(by decide)))) rfl (hlc rfl) (st_r sub_all) (fun hg => sp_indexL (i := 0) (((hlc rfl).undE hg).dat D_v45_27_1 sub_all) Has.cst Try.underlying85 sz114 rfl (by decide)) ?_
  refine .opE (t := 70) (φ := IsD (SF w (b6_27 :: (b3_16 :: (blks hd_23 ++ (bo11_4 :: []))))) (Hs.d (((oneR false).hs)[0]'(by decide)))) rfl (hlc rfl) (st_d sub_all) (fun hg => sp_loadR ((hlc rfl).undE hg) agg114 sz114 (width_Hs _)) ?_
  refine .e (t := 70) (v := (.agg #[(.string (⟨#[115, 104, 97, 50, 53, 54]⟩)), (.string (⟨#[48, 48]⟩))])) rfl (hlc rfl) (fun hg => sp_build (vs := [(0, (.string (⟨#[115, 104, 97, 50, 53, 54]⟩))), (1, (.string (⟨#[48, 48]⟩)))]) Try.underlying114 z114 (pl114 Try.underlying114) ⟨rfl, Has.cst, rfl, Has.cst, trivial⟩ rfl) ?_
  refine .e (t := 70) (v := (.bool (hsEq (((oneR false).hs)[0]'(by decide)) (Hs.mk (⟨#[115, 104, 97, 50, 53, 54]⟩) (⟨#[48, 48]⟩))))) rfl (hlc rfl) (fun hg => sp_hsEql eqHs ((hlc rfl).undE hg) (((hlc rfl).undE hg).dat (rdHs_mk (lbr rfl) (lbr rfl) : Rd W28 (SF w (b6_27 :: (b3_16 :: (blks hd_23 ++ (bo11_4 :: []))))) (Hs.d (Hs.mk (⟨#[115, 104, 97, 50, 53, 54]⟩) (⟨#[48, 48]⟩))) _) sub_all)) ?_
  refine .i (sp_and (hlc rfl) ((hlc rfl).weak fun hq => hq)) ?_
  refine .i (sp_move (hlc rfl)) ?_
  refine .e (t := 78) rfl (hlc rfl) (fun hg => sp_move (hbs rfl e1)) ?_
  refine .e (t := 78) (v := (.int .i64 (((mostV (((([]) ++ [Vo.mk (oneR false) ⟨#[97]⟩]) ++ [Vo.mk (oneR true) ⟨#[98]⟩]) ++ [Vo.mk (oneR false) ⟨#[99]⟩]) (((([]) ++ [Vo.mk (oneR false) ⟨#[97]⟩]) ++ [Vo.mk (oneR true) ⟨#[98]⟩]) ++ [Vo.mk (oneR false) ⟨#[99]⟩]) 0 : Nat) : Int)))) rfl (hlc rfl) (fun hg => sp_call1 (φ1 := Is (.pointer (some ⟨bo11_4, 0, none⟩))) ent58 ((hlc rfl).undE hg) (fun g u1 W hk hgk h1 => by have h1 : u1 = _ := h1; subst u1; exact Most_ok (2) (((([]) ++ [Vo.mk (oneR false) ⟨#[97]⟩]) ++ [Vo.mk (oneR true) ⟨#[98]⟩]) ++ [Vo.mk (oneR false) ⟨#[99]⟩]) W _ _ _ (own_bo11_4.ext hk) (by decide) (okV_wt (by kernel_rfl)) clnS_cln (arr_rdC (A_23.ext hk) sf_cln))) ?_
  refine .e (t := 78) rfl (hlc rfl) (fun hg => sp_eql ((hlc rfl).undE hg) Has.cst) ?_
  refine .i (sp_and (hlc rfl) ((hlc rfl).weak fun hq => hq)) ?_
  refine .i (sp_move (hlc rfl)) ?_
  refine .e (t := 83) rfl (hlc rfl) (fun hg => sp_move (hbs rfl e1)) ?_
  refine .e (t := 83) (v := (.int .i64 ((((([]) ++ [Vo.mk (oneR false) ⟨#[97]⟩]) ++ [Vo.mk (oneR true) ⟨#[98]⟩]) ++ [Vo.mk (oneR false) ⟨#[99]⟩]).length))) rfl (hlc rfl) (fun hg => sp_call1 (φ1 := Is (.pointer (some ⟨bo11_4, 0, none⟩))) ent57 ((hlc rfl).undE hg) (fun g u1 W hk hgk h1 => by have h1 : u1 = _ := h1; subst u1; exact Len_ok (2) (((([]) ++ [Vo.mk (oneR false) ⟨#[97]⟩]) ++ [Vo.mk (oneR true) ⟨#[98]⟩]) ++ [Vo.mk (oneR false) ⟨#[99]⟩]) W _ _ _ (own_bo11_4.ext hk) (by decide) (arr_rdC (A_23.ext hk) sf_cln))) ?_
  refine .e (t := 83) rfl (hlc rfl) (fun hg => sp_eql ((hlc rfl).undE hg) Has.cst) ?_
  refine .i (sp_and (hlc rfl) ((hlc rfl).weak fun hq => hq)) ?_
  refine .i (sp_assign (hlc rfl)) ?_
  refine .done ⟨by kernel_rfl, fun a32 g W32 y32 zz32 hk hg hV hR hP => ?_⟩
  obtain ⟨e0, -, -, -, -, -, -, -, -, -, -, -, -, -, -, -, -, -, -, -, -, -, -, -, -, -, -, -, -, -, -, -, -, -, -, -, -, -, -, -, -, -⟩ := hV
  replace A_23 := A_23.ext hk
  replace D_v45_27_1 := D_v45_27_1.ext hk
  replace D_v45_27_5 := D_v45_27_5.ext hk
  replace D_v45_27_6 := D_v45_27_6.ext hk
  replace e0 := e0.q
  replace own_bo11_4 := own_bo11_4.ext hk
  replace own_b3_16 := own_b3_16.ext hk
  replace own_b6_27 := own_b6_27.ext hk
  replace kw := kw.x hk
  clear hR hk hg hP
  refine tail_nil (hK31 _ _ ?_)
  refine wp_ret ?_
  refine (show bodyPost Try.prog Try.f53 _ .ret _ _ from ret1 rfl zz32 e0 ⟨_, rfl, kw, ?_⟩)
  refine congrArg Value.bool ?_
  kernel_rfl
end Go.Proofs.Ytnobijngkpflcaa
namespace Go.Proofs.Ytnobijngkpflcaa
open Go.Eng
set_option maxRecDepth 100000 in
theorem endlessP_all (u : World) : ∀ (n : Nat) (xs : List V), V.cnts xs < n → ∀ (level : Int), 0 ≤ level → level + n ≤ 4294967296 → ∀ (nested : Bool) (p : Value) (w : World) (S : BSet) (v : Value), u.heap.size ≤ w.heap.size → Pin u S → AV u v → Rd w S (valsD xs) v → Abv w p →
    Calls Try.prog 137 #[v, .int .i64 level, p, .bool nested] w (Ret w fun r _ => ∃ b, r = .bool b) := by
  intro n
  induction n with
  | zero => intro xs hx; omega
  | succ n ih =>
  intro xs hx level hl0 hl nested p w S v hu hP hav hv hab
  have hmx : xs.length ≤ maxLen := rd_len hv
  simp only [maxLen] at hmx
  obtain ⟨va, vc, ev, D_v⟩ := rdVs_out (rd_arg hv)
  subst ev
  refine enter Try.func137 rfl Try.ntmps137 (lbr rfl) fun a0 y0 zz0 harg => ?_
  have e0 : sl a0 0 = (.slice va (xs.length) vc) := harg 0 (lbr rfl)
  have e1 : sl a0 1 = (.int .i64 (level)) := harg 1 (lbr rfl)
  have e2 : sl a0 2 = p := harg 2 (lbr rfl)
  have e3 : sl a0 3 = (.bool (nested)) := harg 3 (lbr rfl)
  have kw := Keeps.refl All w
  clear harg
  refine wp_seq_k fun K1 hK1 => ?_
  refine rg mixed y0 zz0 ?_
  refine .i (sp_assign Has.cst) ?_
  refine .done ⟨by kernel_rfl, fun a2 g W2 y2 zz2 hk hg hV hR hP => ?_⟩
  obtain ⟨-, -⟩ := hV
  replace e0 := (hR 0 rfl).trans e0
  replace e1 := (hR 1 rfl).trans e1
  replace e2 := (hR 2 rfl).trans e2
  replace e3 := (hR 3 rfl).trans e3
  replace D_v := D_v.ext hk
  replace kw := kw.x hk
  clear hR hk hg hP
  refine tail_nil (hK1 _ _ ?_)
  refine wp_seq_k fun K3 hK3 => ?_
  refine wp_seq_k fun K4 hK4 => ?_
  refine rg mixed y2 zz2 ?_
  refine .i (sp_move (hbs rfl e0)) ?_
  refine .i (sp_lenVs Try.underlying31 ((hlc rfl).dat D_v sub_all)) ?_
  refine .i (sp_move Has.cst) ?_
  refine .done ⟨by kernel_rfl, fun a5 g W5 y5 zz5 hk hg hV hR hP => ?_⟩
  obtain ⟨e14, e13, -, -⟩ := hV
  replace e0 := (hR 0 rfl).trans e0
  replace e1 := (hR 1 rfl).trans e1
  replace e2 := (hR 2 rfl).trans e2
  replace e3 := (hR 3 rfl).trans e3
  replace D_v := D_v.ext hk
  have e13 : sl a5 13 = (.int .i64 (xs.length)) := e13
  have e14 : sl a5 14 = (.int .i64 (0)) := e14
  replace kw := kw.x hk
  clear hR hk hg hP
  refine tail_nil (hK4 _ _ ?_)
  refine wp_block ?_
  refine wp_for (xs.length) (fun k a W => a.tmps.size = 55 ∧ a.defers = [] ∧ Keeps All w W ∧ sl a 0 = (.slice va (xs.length) vc) ∧ sl a 1 = (.int .i64 (level)) ∧ sl a 2 = p ∧ sl a 3 = (.bool (nested)) ∧ sl a 13 = (.int .i64 (xs.length)) ∧ sl a 14 = (.int .i64 ((k : Nat))) ∧ Rd W (SA w S []) (valsD (xs)) (.slice va (xs.length) vc)) ⟨y5, zz5, kw, e0, e1, e2, e3, e13, (e14.trans (congrArg (Value.int .i64) (rfl))), D_v⟩ ?_
  clear kw e0 e1 e2 e3 e13 e14 D_v
  rintro k a6 W6 hkk ⟨y6, zz6, kw, e0, e1, e2, e3, e13, e14, D_v⟩
  refine wp_seq_k fun K7 hK7 => ?_
  refine rg mixed y6 zz6 ?_
  refine .i (sp_lss (hbs rfl e14) (hbs rfl e13)) ?_
  refine .done ⟨by kernel_rfl, fun a8 g W8 y8 zz8 hk hg hV hR hP => ?_⟩
  obtain ⟨e15, -⟩ := hV
  replace e0 := (hR 0 rfl).trans e0
  replace e1 := (hR 1 rfl).trans e1
  replace e2 := (hR 2 rfl).trans e2
  replace e3 := (hR 3 rfl).trans e3
  replace e13 := (hR 13 rfl).trans e13
  replace e14 := (hR 14 rfl).trans e14
  replace D_v := D_v.ext hk
  replace e15 := e15.q
  replace kw := kw.x hk
  clear hR hk hg hP
  refine tail_nil (hK7 _ _ ?_)
  refine wp_seq_k fun K9 hK9 => ?_
  refine wp_cond_split e15 (fun hc => ?_) (fun hc => ?_)
  ·
   have hlt : k < xs.length := by simpa using hc
   have hce := cnt_elem hlt
   have hcw := cnt_eq xs[k]
   obtain ⟨bq, oq, nqa, nqc, xqa, xqc, evq, hltq, hcq, htq, hnq, hxq, hfq, av_xq⟩ := el_qav hP hav hv hlt
   have D_nq : Rd W8 (SA w S []) (strsD ((xs[k]'hlt).ns)) (.slice nqa (((xs[k]'hlt).ns).length) nqc) := (rd_argQ hnq in_nil).ext kw
   have D_xq : Rd W8 (SA w S []) (valsD ((xs[k]'hlt).xs)) (.slice xqa (((xs[k]'hlt).xs).length) xqc) := (rd_argQ hxq in_nil).ext kw
   refine wp_skip (hK9 _ _ ?_)
   refine wp_seq_k fun K10 hK10 => ?_
   refine wp_block ?_
   refine wp_seq_k fun K11 hK11 => ?_
   refine rg mixed y8 zz8 ?_
   refine .i (sp_move (hbs rfl e14)) ?_
   refine .i (sp_assign (hlc rfl)) ?_
   refine .done ⟨by kernel_rfl, fun a12 g W12 y12 zz12 hk hg hV hR hP => ?_⟩
   obtain ⟨e9, -, -⟩ := hV
   replace e0 := (hR 0 rfl).trans e0
   replace e1 := (hR 1 rfl).trans e1
   replace e2 := (hR 2 rfl).trans e2
   replace e3 := (hR 3 rfl).trans e3
   replace e13 := (hR 13 rfl).trans e13
   replace e14 := (hR 14 rfl).trans e14
   replace D_v := D_v.ext hk
   replace D_nq := D_nq.ext hk
   replace D_xq := D_xq.ext hk
   have e9 : sl a12 9 = (.int .i64 ((k : Nat))) := e9
   replace kw := kw.x hk
   clear hR hk hg hP
   refine tail_nil (hK11 _ _ ?_)
   refine wp_seq_k fun K13 hK13 => ?_
   refine rg mixed y12 zz12 ?_
   refine .i (sp_move (hbs rfl e0)) ?_
   refine .i (sp_move (hbs rfl e9)) ?_
   refine .i (v := (.pointer (some ⟨bq, oq + k * 5, none⟩))) (sp_indexQ (i := k) evq (hlc rfl) (hlc rfl) Try.underlying31 sz33 hlt) ?_
   refine .i (sp_assign (hlc rfl)) ?_
   refine .done ⟨by kernel_rfl, fun a14 g W14 y14 zz14 hk hg hV hR hP => ?_⟩
   obtain ⟨e10, -, -, -, -⟩ := hV
   replace e0 := (hR 0 rfl).trans e0
   replace e1 := (hR 1 rfl).trans e1
   replace e2 := (hR 2 rfl).trans e2
   replace e3 := (hR 3 rfl).trans e3
   replace e13 := (hR 13 rfl).trans e13
   replace e14 := (hR 14 rfl).trans e14
   replace D_v := D_v.ext hk
   replace D_nq := D_nq.ext hk
   replace D_xq := D_xq.ext hk
   have e10 : sl a14 10 = (.pointer (some ⟨bq, oq + k * 5, none⟩)) := e10
   replace kw := kw.x hk
   clear hR hk hg hP
   refine tail_nil (hK13 _ _ ?_)
   refine wp_seq_k fun K15 hK15 => ?_
   refine wp_seq_k fun K16 hK16 => ?_
   refine rg mixed y14 zz14 ?_
   refine .i (sp_move (hbs rfl e3)) ?_
   refine .i (sp_move (hlc rfl)) ?_
   refine .e (t := 21) rfl (hlc rfl) (fun hg => sp_move (hbs rfl e10)) ?_
   refine .e (t := 21) rfl (hlc rfl) (fun hg => sp_nilP ((hlc rfl).undE hg)) ?_
   refine .e (t := 21) (v := (.pointer (some ⟨bq, oq + k * 5 + 0, none⟩))) rfl (hlc rfl) (fun hg => sp_fieldO ((hlc rfl).undE hg) Try.underlying33 rfl sz5 rfl) ?_
   refine .e (t := 21) (v := (.int .u8 ((xs[k]'hlt).k))) rfl (hlc rfl) (fun hg => sp_loadQ kw ((hlc rfl).undE hg) agg5 sz5 (hcq 0 (lbr rfl)) hltq rfl) ?_
   refine .e (t := 21) rfl (hlc rfl) (fun hg => sp_neq ((hlc rfl).undE hg) Has.cst) ?_
   refine .i (sp_and (hlc rfl) ((hlc rfl).weak fun hq => hq)) ?_
   refine .i (sp_move (hlc rfl)) ?_
   refine .e (t := 28) rfl (hlc rfl) (fun hg => sp_move (hbs rfl e10)) ?_
   refine .e (t := 28) rfl (hlc rfl) (fun hg => sp_nilP ((hlc rfl).undE hg)) ?_
   refine .e (t := 28) (v := (.pointer (some ⟨bq, oq + k * 5 + 0, none⟩))) rfl (hlc rfl) (fun hg => sp_fieldO ((hlc rfl).undE hg) Try.underlying33 rfl sz5 rfl) ?_
   refine .e (t := 28) (v := (.int .u8 ((xs[k]'hlt).k))) rfl (hlc rfl) (fun hg => sp_loadQ kw ((hlc rfl).undE hg) agg5 sz5 (hcq 0 (lbr rfl)) hltq rfl) ?_
   refine .e (t := 28) rfl (hlc rfl) (fun hg => sp_neq ((hlc rfl).undE hg) Has.cst) ?_
   refine .i (sp_and (hlc rfl) ((hlc rfl).weak fun hq => hq)) ?_
   refine .done ⟨by kernel_rfl, fun a17 g W17 y17 zz17 hk hg hV hR hP => ?_⟩
   obtain ⟨e34, -, -, -, -, -, -, -, -, -, -, -, -, -, -, -⟩ := hV
   replace e0 := (hR 0 rfl).trans e0
   replace e1 := (hR 1 rfl).trans e1
   replace e2 := (hR 2 rfl).trans e2
   replace e3 := (hR 3 rfl).trans e3
   replace e13 := (hR 13 rfl).trans e13
   replace e14 := (hR 14 rfl).trans e14
   replace e10 := (hR 10 rfl).trans e10
   replace D_v := D_v.ext hk
   replace D_nq := D_nq.ext hk
   replace D_xq := D_xq.ext hk
   replace e34 := e34.q
   replace kw := kw.x hk
   clear hR hk hg hP
   refine tail_nil (hK16 _ _ ?_)
   refine wp_cond_split e34 (fun hc => ?_) (fun hc => ?_)
   ·
    refine wp_exit (hK10 _ _ ?_)
    refine rg mixed y17 zz17 ?_
    refine .i (sp_add (hbs rfl e14) Has.cst (i64_in (by omega))) ?_
    refine .i (sp_move (hlc rfl)) ?_
    refine .done ⟨by kernel_rfl, fun a18 g W18 y18 zz18 hk hg hV hR hP => ?_⟩
    obtain ⟨e14, -, -⟩ := hV
    replace e0 := (hR 0 rfl).trans e0
    replace e1 := (hR 1 rfl).trans e1
    replace e2 := (hR 2 rfl).trans e2
    replace e3 := (hR 3 rfl).trans e3
    replace e13 := (hR 13 rfl).trans e13
    replace D_v := D_v.ext hk
    replace D_nq := D_nq.ext hk
    replace D_xq := D_xq.ext hk
    replace e14 := e14.q
    replace kw := kw.x hk
    clear hR hk hg hP
    exact tail_nil ⟨hlt, y18, zz18, kw, e0, e1, e2, e3, e13, (e14.trans (congrArg (Value.int .i64) (by simp))), D_v⟩
   ·
    refine wp_skip (hK15 _ _ ?_)
    refine wp_seq_k fun K19 hK19 => ?_
    refine wp_seq_k fun K20 hK20 => ?_
    refine rg mixed y17 zz17 ?_
    refine .i (sp_move (hbs rfl e10)) ?_
    refine .i (sp_move (hbs rfl e2)) ?_
    refine .op (φ := IsUB) st_ub (sp_ptrEqQ kw Try.underlying186 sz33 (hlc rfl) (hlc rfl) (hcq 0 (lbr rfl)) hltq hfq (hab)) ?_
    refine .done ⟨by kernel_rfl, fun a21 g W21 y21 zz21 hk hg hV hR hP => ?_⟩
    obtain ⟨e37, -, -, -⟩ := hV
    replace e0 := (hR 0 rfl).trans e0
    replace e1 := (hR 1 rfl).trans e1
    replace e2 := (hR 2 rfl).trans e2
    replace e3 := (hR 3 rfl).trans e3
    replace e13 := (hR 13 rfl).trans e13
    replace e14 := (hR 14 rfl).trans e14
    replace e10 := (hR 10 rfl).trans e10
    obtain ⟨r37_21, e37⟩ := e37
    replace D_v := D_v.ext hk
    replace D_nq := D_nq.ext hk
    replace D_xq := D_xq.ext hk
    have e37 : sl a21 37 = (.bool (r37_21)) := e37
    replace kw := kw.x hk
    clear hR hk hg hP
    refine tail_nil (hK20 _ _ ?_)
    refine wp_cond_split e37 (fun hc => ?_) (fun hc => ?_)
    ·
     refine wp_seq_k fun K22 hK22 => ?_
     refine rg mixed y21 zz21 ?_
     refine .i (sp_assign Has.cst) ?_
     refine .done ⟨by kernel_rfl, fun a23 g W23 y23 zz23 hk hg hV hR hP => ?_⟩
     obtain ⟨e8, -⟩ := hV
     replace D_v := D_v.ext hk
     replace D_nq := D_nq.ext hk
     replace D_xq := D_xq.ext hk
     have e8 : sl a23 8 = (.bool (true)) := e8
     replace kw := kw.x hk
     clear hR hk hg hP
     refine tail_nil (hK22 _ _ ?_)
     refine wp_ret ?_
     refine (show bodyPost Try.prog Try.f137 _ .ret _ _ from ret1 rfl zz23 e8 ⟨_, rfl, kw, ?_⟩)
     exact ⟨_, rfl⟩
    ·
     refine wp_skip (hK19 _ _ ?_)
     refine wp_seq_k fun K24 hK24 => ?_
     refine rg mixed y21 zz21 ?_
     refine .i (sp_move (hbs rfl e2)) ?_
     refine .i (sp_assign (hlc rfl)) ?_
     refine .done ⟨by kernel_rfl, fun a25 g W25 y25 zz25 hk hg hV hR hP => ?_⟩
     obtain ⟨e11, -, -⟩ := hV
     replace e0 := (hR 0 rfl).trans e0
     replace e1 := (hR 1 rfl).trans e1
     replace e2 := (hR 2 rfl).trans e2
     replace e3 := (hR 3 rfl).trans e3
     replace e13 := (hR 13 rfl).trans e13
     replace e14 := (hR 14 rfl).trans e14
     replace e10 := (hR 10 rfl).trans e10
     replace D_v := D_v.ext hk
     replace D_nq := D_nq.ext hk
     replace D_xq := D_xq.ext hk
     have e11 : sl a25 11 = p := e11
     replace kw := kw.x hk
     clear hR hk hg hP
     refine tail_nil (hK24 _ _ ?_)
     refine wp_seq_k fun K26 hK26 => ?_
     refine wp_seq_k fun K27 hK27 => ?_
     refine rg mixed y25 zz25 ?_
     refine .i (sp_move (hbs rfl e1)) ?_
     refine .i (sp_move (hbs rfl e1)) ?_
     refine .i (sp_sub (hlc rfl) Has.cst (i64_in (by omega))) ?_
     refine .i (sp_band (hlc rfl) (hlc rfl)) ?_
     refine .i (sp_eql (hlc rfl) Has.cst) ?_
     refine .done ⟨by kernel_rfl, fun a28 g W28 y28 zz28 hk hg hV hR hP => ?_⟩
     obtain ⟨e43, -, -, -, -, -⟩ := hV
     replace e0 := (hR 0 rfl).trans e0
     replace e1 := (hR 1 rfl).trans e1
     replace e2 := (hR 2 rfl).trans e2
     replace e3 := (hR 3 rfl).trans e3
     replace e13 := (hR 13 rfl).trans e13
     replace e14 := (hR 14 rfl).trans e14
     replace e10 := (hR 10 rfl).trans e10
     replace e11 := (hR 11 rfl).trans e11
     replace D_v := D_v.ext hk
     replace D_nq := D_nq.ext hk
     replace D_xq := D_xq.ext hk
     replace e43 := e43.q
     replace kw := kw.x hk
     clear hR hk hg hP
     refine tail_nil (hK27 _ _ ?_)
     refine wp_cond_split e43 (fun hc => ?_) (fun hc => ?_)
     ·
      refine rg mixed y28 zz28 ?_
      refine .i (sp_move (hbs rfl e10)) ?_
      refine .i (sp_assign (hlc rfl)) ?_
      refine .done ⟨by kernel_rfl, fun a29 g W29 y29 zz29 hk hg hV hR hP => ?_⟩
      obtain ⟨e11, -, -⟩ := hV
      replace e0 := (hR 0 rfl).trans e0
      replace e1 := (hR 1 rfl).trans e1
      replace e2 := (hR 2 rfl).trans e2
      replace e3 := (hR 3 rfl).trans e3
      replace e13 := (hR 13 rfl).trans e13
      replace e14 := (hR 14 rfl).trans e14
      replace e10 := (hR 10 rfl).trans e10
      replace D_v := D_v.ext hk
      replace D_nq := D_nq.ext hk
      replace D_xq := D_xq.ext hk
      have e11 : sl a29 11 = (.pointer (some ⟨bq, oq + k * 5, none⟩)) := e11
      replace kw := kw.x hk
      clear hR hk hg hP
      refine tail_nil (hK26 _ _ ?_)
      refine wp_seq_k fun K30 hK30 => ?_
      refine rg mixed y29 zz29 ?_
      refine .i (sp_move (hbs rfl e10)) ?_
      refine .i (sp_nilP (hlc rfl)) ?_
      refine .i (v := (.pointer (some ⟨bq, oq + k * 5 + 4, none⟩))) (sp_fieldO (hlc rfl) Try.underlying33 rfl sz31 rfl) ?_
      refine .i (v := (.slice xqa (((xs[k]'hlt).xs).length) xqc)) (sp_loadQ kw (hlc rfl) agg31 sz31 (hcq 4 (lbr rfl)) hltq rfl) ?_
      refine .i (sp_move (hbs rfl e1)) ?_
      refine .i (sp_add (hlc rfl) Has.cst (i64_in (by omega))) ?_
      refine .i (sp_move (hbs rfl e11)) ?_
      refine .i (sp_move (hbs rfl e3)) ?_
      refine .op (φ := IsUB) st_ub (sp_call4 (φ1 := Is (.slice xqa (((xs[k]'hlt).xs).length) xqc)) (φ2 := Is (.int .i64 ((level : Int) + (1 : Int)))) (φ3 := Is (.pointer (some ⟨bq, oq + k * 5, none⟩))) (φ4 := Is (.bool (nested))) ent137 (hlc rfl) (hlc rfl) (hlc rfl) (hlc rfl) (fun g u1 u2 u3 u4 W hk hgk h1 h2 h3 h4 => by have h1 : u1 = _ := h1; subst u1; have h2 : u2 = _ := h2; subst u2; have h3 : u3 = _ := h3; subst u3; have h4 : u4 = _ := h4; subst u4; exact ih ((xs[k]'hlt).xs) (by omega) ((level : Int) + (1 : Int)) (by omega) (by omega) (nested) _ W _ _ (Nat.le_trans hu (Nat.le_trans kw.size hk.size)) (pin_sa hP hu) av_xq (D_xq.ext hk) (((abv_q (hcq 0 (lbr rfl))).ext kw).ext hk))) ?_
      refine .done ⟨by kernel_rfl, fun a31 g W31 y31 zz31 hk hg hV hR hP => ?_⟩
      obtain ⟨e53, -, -, -, -, -, -, -, -, -⟩ := hV
      replace e0 := (hR 0 rfl).trans e0
      replace e1 := (hR 1 rfl).trans e1
      replace e2 := (hR 2 rfl).trans e2
      replace e3 := (hR 3 rfl).trans e3
      replace e13 := (hR 13 rfl).trans e13
      replace e14 := (hR 14 rfl).trans e14
      obtain ⟨r53_31, e53⟩ := e53
      replace D_v := D_v.ext hk
      replace D_nq := D_nq.ext hk
      replace D_xq := D_xq.ext hk
      have e53 : sl a31 53 = (.bool (r53_31)) := e53
      replace kw := kw.x hk
      clear hR hk hg hP
      refine tail_nil (hK30 _ _ ?_)
      refine wp_cond_split e53 (fun hc => ?_) (fun hc => ?_)
      ·
       refine wp_seq_k fun K32 hK32 => ?_
       refine rg mixed y31 zz31 ?_
       refine .i (sp_assign Has.cst) ?_
       refine .done ⟨by kernel_rfl, fun a33 g W33 y33 zz33 hk hg hV hR hP => ?_⟩
       obtain ⟨e8, -⟩ := hV
       replace D_v := D_v.ext hk
       replace D_nq := D_nq.ext hk
       replace D_xq := D_xq.ext hk
       have e8 : sl a33 8 = (.bool (true)) := e8
       replace kw := kw.x hk
       clear hR hk hg hP
       refine tail_nil (hK32 _ _ ?_)
       refine wp_ret ?_
       refine (show bodyPost Try.prog Try.f137 _ .ret _ _ from ret1 rfl zz33 e8 ⟨_, rfl, kw, ?_⟩)
       exact ⟨_, rfl⟩
      ·
       refine wp_skip (hK10 _ _ ?_)
       refine rg mixed y31 zz31 ?_
       refine .i (sp_add (hbs rfl e14) Has.cst (i64_in (by omega))) ?_
       refine .i (sp_move (hlc rfl)) ?_
       refine .done ⟨by kernel_rfl, fun a34 g W34 y34 zz34 hk hg hV hR hP => ?_⟩
       obtain ⟨e14, -, -⟩ := hV
       replace e0 := (hR 0 rfl).trans e0
       replace e1 := (hR 1 rfl).trans e1
       replace e2 := (hR 2 rfl).trans e2
       replace e3 := (hR 3 rfl).trans e3
       replace e13 := (hR 13 rfl).trans e13
       replace D_v := D_v.ext hk
       replace D_nq := D_nq.ext hk
       replace D_xq := D_xq.ext hk
       replace e14 := e14.q
       replace kw := kw.x hk
       clear hR hk hg hP
       exact tail_nil ⟨hlt, y34, zz34, kw, e0, e1, e2, e3, e13, (e14.trans (congrArg (Value.int .i64) (by simp))), D_v⟩
     ·
      refine wp_skip (hK26 _ _ ?_)
      refine wp_seq_k fun K35 hK35 => ?_
      refine rg mixed y28 zz28 ?_
      refine .i (sp_move (hbs rfl e10)) ?_
      refine .i (sp_nilP (hlc rfl)) ?_
      refine .i (v := (.pointer (some ⟨bq, oq + k * 5 + 4, none⟩))) (sp_fieldO (hlc rfl) Try.underlying33 rfl sz31 rfl) ?_
      refine .i (v := (.slice xqa (((xs[k]'hlt).xs).length) xqc)) (sp_loadQ kw (hlc rfl) agg31 sz31 (hcq 4 (lbr rfl)) hltq rfl) ?_
      refine .i (sp_move (hbs rfl e1)) ?_
      refine .i (sp_add (hlc rfl) Has.cst (i64_in (by omega))) ?_
      refine .i (sp_move (hbs rfl e11)) ?_
      refine .i (sp_move (hbs rfl e3)) ?_
      refine .op (φ := IsUB) st_ub (sp_call4 (φ1 := Is (.slice xqa (((xs[k]'hlt).xs).length) xqc)) (φ2 := Is (.int .i64 ((level : Int) + (1 : Int)))) (φ3 := Is p) (φ4 := Is (.bool (nested))) ent137 (hlc rfl) (hlc rfl) (hlc rfl) (hlc rfl) (fun g u1 u2 u3 u4 W hk hgk h1 h2 h3 h4 => by have h1 : u1 = _ := h1; subst u1; have h2 : u2 = _ := h2; subst u2; have h3 : u3 = _ := h3; subst u3; have h4 : u4 = _ := h4; subst u4; exact ih ((xs[k]'hlt).xs) (by omega) ((level : Int) + (1 : Int)) (by omega) (by omega) (nested) _ W _ _ (Nat.le_trans hu (Nat.le_trans kw.size hk.size)) (pin_sa hP hu) av_xq (D_xq.ext hk) ((hab.ext kw).ext hk))) ?_
      refine .done ⟨by kernel_rfl, fun a36 g W36 y36 zz36 hk hg hV hR hP => ?_⟩
      obtain ⟨e53, -, -, -, -, -, -, -, -, -⟩ := hV
      replace e0 := (hR 0 rfl).trans e0
      replace e1 := (hR 1 rfl).trans e1
      replace e2 := (hR 2 rfl).trans e2
      replace e3 := (hR 3 rfl).trans e3
      replace e13 := (hR 13 rfl).trans e13
      replace e14 := (hR 14 rfl).trans e14
      obtain ⟨r53_36, e53⟩ := e53
      replace D_v := D_v.ext hk
      replace D_nq := D_nq.ext hk
      replace D_xq := D_xq.ext hk
      have e53 : sl a36 53 = (.bool (r53_36)) := e53
      replace kw := kw.x hk
      clear hR hk hg hP
      refine tail_nil (hK35 _ _ ?_)
      refine wp_cond_split e53 (fun hc => ?_) (fun hc => ?_)
      ·
       refine wp_seq_k fun K37 hK37 => ?_
       refine rg mixed y36 zz36 ?_
       refine .i (sp_assign Has.cst) ?_
       refine .done ⟨by kernel_rfl, fun a38 g W38 y38 zz38 hk hg hV hR hP => ?_⟩
       obtain ⟨e8, -⟩ := hV
       replace D_v := D_v.ext hk
       replace D_nq := D_nq.ext hk
       replace D_xq := D_xq.ext hk
       have e8 : sl a38 8 = (.bool (true)) := e8
       replace kw := kw.x hk
       clear hR hk hg hP
       refine tail_nil (hK37 _ _ ?_)
       refine wp_ret ?_
       refine (show bodyPost Try.prog Try.f137 _ .ret _ _ from ret1 rfl zz38 e8 ⟨_, rfl, kw, ?_⟩)
       exact ⟨_, rfl⟩
      ·
       refine wp_skip (hK10 _ _ ?_)
       refine rg mixed y36 zz36 ?_
       refine .i (sp_add (hbs rfl e14) Has.cst (i64_in (by omega))) ?_
       refine .i (sp_move (hlc rfl)) ?_
       refine .done ⟨by kernel_rfl, fun a39 g W39 y39 zz39 hk hg hV hR hP => ?_⟩
       obtain ⟨e14, -, -⟩ := hV
       replace e0 := (hR 0 rfl).trans e0
       replace e1 := (hR 1 rfl).trans e1
       replace e2 := (hR 2 rfl).trans e2
       replace e3 := (hR 3 rfl).trans e3
       replace e13 := (hR 13 rfl).trans e13
       replace D_v := D_v.ext hk
       replace D_nq := D_nq.ext hk
       replace D_xq := D_xq.ext hk
       replace e14 := e14.q
       replace kw := kw.x hk
       clear hR hk hg hP
       exact tail_nil ⟨hlt, y39, zz39, kw, e0, e1, e2, e3, e13, (e14.trans (congrArg (Value.int .i64) (by simp))), D_v⟩
  ·
   have hge0 : ¬ k < xs.length := by simpa using hc
   have hge : k = xs.length := by omega
   refine wp_exit (hK3 _ _ ?_)
   refine wp_seq_k fun K40 hK40 => ?_
   refine rg mixed y8 zz8 ?_
   refine .i (sp_assign Has.cst) ?_
   refine .done ⟨by kernel_rfl, fun a41 g W41 y41 zz41 hk hg hV hR hP => ?_⟩
   obtain ⟨e8, -⟩ := hV
   replace D_v := D_v.ext hk
   have e8 : sl a41 8 = (.bool (false)) := e8
   replace kw := kw.x hk
   clear hR hk hg hP
   refine tail_nil (hK40 _ _ ?_)
   refine wp_ret ?_
   refine (show bodyPost Try.prog Try.f137 _ .ret _ _ from ret1 rfl zz41 e8 ⟨_, rfl, kw, ?_⟩)
   exact ⟨_, rfl⟩
set_option maxRecDepth 100000 in
theorem CopyP_ok (u : World) (x : V) (hx : x.wt ≤ 1073741824) (w : World) (S : BSet) (v : Value) (hu : u.heap.size ≤ w.heap.size) (hP : Pin u S) (hav : AVv u v) (hv : Rd w S x.d v) : Calls Try.prog 79 #[v] w (Ret w fun r W => ∃ y, Cp x y ∧ Rd W (Fr w) (V.d y) r) := by
  have hwx := wt_eq x
  have hwl := wts_len x.xs
  have hwn := wtN_len x.ns
  obtain ⟨cn0a, cn0c, ci0a, ci0c, ev, ht0, D_cn0, D_ci0⟩ := rdV_out (rd_arg hv)
  subst ev
  refine enter Try.func79 rfl Try.ntmps79 (lbr rfl) fun a0 y0 zz0 harg => ?_
  have e0 : sl a0 0 = (.agg #[(.int .u8 (x.k)), (.int .i64 (x.n)), (.string (x.t)), (.slice cn0a (x.ns.length) cn0c), (.slice ci0a (x.xs.length) ci0c)]) := harg 0 (lbr rfl)
  have kw := Keeps.refl All w
  clear harg
  refine wp_seq_k fun K1 hK1 => ?_
  refine rg mixed y0 zz0 ?_
  refine .boxOp (v := (.agg #[(.int .u8 (x.k)), (.int .i64 (x.n)), (.string (x.t)), (.slice cn0a (x.ns.length) cn0c), (.slice ci0a (x.xs.length) ci0c)])) (hbs rfl e0) ?_
  refine .alloc z33 ?_
  refine .done ⟨by kernel_rfl, fun a2 g W2 y2 zz2 hk hg hV hR hP => ?_⟩
  obtain ⟨⟨b2_2, e2, hb2, own_b2_2⟩, ⟨b1_2, e1, hb1, own_b1_2⟩, -⟩ := hV
  have lo_b2_2 : w.heap.size ≤ b2_2 := Nat.le_trans kw.size (hg.lo _ _ hb2)
  have own_b2_2 : Own W2 b2_2 [(.int .u8 (0)), (.int .i64 (0)), (.string (⟨#[]⟩)), (.slice none 0 0), (.slice none 0 0)] 33 := own_b2_2
  have lo_b1_2 : w.heap.size ≤ b1_2 := Nat.le_trans kw.size (hg.lo _ _ hb1)
  have own_b1_2 : Own W2 b1_2 [(.int .u8 (x.k)), (.int .i64 (x.n)), (.string (x.t)), (.slice cn0a (x.ns.length) cn0c), (.slice ci0a (x.xs.length) ci0c)] 33 := own_b1_2
  have ne_b2_2_b1_2 : b2_2 ≠ b1_2 := fun h => by have := hg.inj _ _ _ hb2 (h ▸ hb1); cases this
  replace D_cn0 := sa_more D_cn0 hk [b2_2, b1_2] (in_cons (hg.lo _ _ hb2) (in_cons (hg.lo _ _ hb1) in_nil))
  replace D_ci0 := sa_more D_ci0 hk [b2_2, b1_2] (in_cons (hg.lo _ _ hb2) (in_cons (hg.lo _ _ hb1) in_nil))
  replace kw := kw.x hk
  clear hR hk hg hP hb2 hb1
  refine tail_nil (hK1 _ _ ?_)
  refine wp_seq_k fun K3 hK3 => ?_
  refine rg mixed y2 zz2 ?_
  refine .i (fo 0 (hbs rfl e1) Try.underlying33 rfl sz5 rfl) ?_
  refine .i (lo1 (hlc rfl) own_b1_2 trivial agg5 sz5 rfl) ?_
  refine .i (fo 1 (hbs rfl e1) Try.underlying33 rfl sz2 rfl) ?_
  refine .i (lo1 (hlc rfl) own_b1_2 trivial agg2 sz2 rfl) ?_
  refine .i (fo 2 (hbs rfl e1) Try.underlying33 rfl sz9 rfl) ?_
  refine .i (lo1 (hlc rfl) own_b1_2 trivial agg9 sz9 rfl) ?_
  refine .i (fo 3 (hbs rfl e1) Try.underlying33 rfl sz23 rfl) ?_
  refine .i (lo1 (hlc rfl) own_b1_2 trivial agg23 sz23 rfl) ?_
  refine .da (X := Fr W2) (e := strsD (x.ns)) (sp_call1 (φ1 := IsD (SA w S [b2_2, b1_2]) (strsD (x.ns))) ent136 ((hlc rfl).dat D_cn0 sub_all) (fun g u1 W hk hgk h1 => (clone_ok (x.ns) (by omega) W _ _ h1).mono (ret_fr hk hgk))) ?_
  refine .op (φ := IsHole (fun v => .agg #[(.int .u8 (x.k)), (.int .i64 (x.n)), (.string (x.t)), v, (.slice none 0 0)]) (IsD (Fr W2) (strsD (x.ns)))) (st_hole (st_d sub_all)) (sp_build1 (vs := [(0, some (.int .u8 (x.k))), (1, some (.int .i64 (x.n))), (2, some (.string (x.t))), (3, none)]) (cells := fun v => #[(.int .u8 (x.k)), (.int .i64 (x.n)), (.string (x.t)), v, (.slice none 0 0)]) Try.underlying33 z33 (pl33 Try.underlying33) (hlc rfl) (fun _ => by simp [Op.operands]) sl_strs ⟨rfl, (hlc rfl), ⟨rfl, (hlc rfl), ⟨rfl, (hlc rfl), ⟨rfl, rfl, trivial⟩⟩⟩⟩ (fun _ _ _ => rfl)) ?_
  refine .alloc z33 ?_
  refine .done ⟨by kernel_rfl, fun a4 g W4 y4 zz4 hk hg hV hR hP => ?_⟩
  obtain ⟨⟨b3_4, e3, hb3, own_b3_4⟩, e15, -, -, -, -, -, -, -, -, -, -⟩ := hV
  have lo_b3_4 : w.heap.size ≤ b3_4 := Nat.le_trans kw.size (hg.lo _ _ hb3)
  have ne_b2_2_b3_4 : b2_2 ≠ b3_4 := Nat.ne_of_lt (Nat.lt_of_lt_of_le own_b2_2.lt (hg.lo _ _ hb3))
  have ne_b1_2_b3_4 : b1_2 ≠ b3_4 := Nat.ne_of_lt (Nat.lt_of_lt_of_le own_b1_2.lt (hg.lo _ _ hb3))
  have own_b3_4 : Own W4 b3_4 [(.int .u8 (0)), (.int .i64 (0)), (.string (⟨#[]⟩)), (.slice none 0 0), (.slice none 0 0)] 33 := own_b3_4
  replace e2 := (hR 2 rfl).trans e2
  replace e1 := (hR 1 rfl).trans e1
  replace D_cn0 := sa_more D_cn0 hk [b3_4] (in_cons (hg.lo _ _ hb3) in_nil)
  replace D_ci0 := sa_more D_ci0 hk [b3_4] (in_cons (hg.lo _ _ hb3) in_nil)
  obtain ⟨v15_4a, v15_4n, v15_4c, ev, D_v15_4⟩ := e15
  replace D_v15_4 : Rd W4 (SF w [b3_4, b2_2, b1_2]) (strsD (x.ns)) _ := fr_end (M := [b2_2, b1_2]) D_v15_4 kw [b3_4] (in_cons ⟨_, hb3⟩ in_nil) (in_cons own_b2_2.lt (in_cons own_b1_2.lt in_nil))
  obtain ⟨xa, xc, ev2, D2⟩ := rdS_out D_v15_4
  injection ev2 with h1 h2 h3; subst h1 h2 h3; clear D2
  have e15 : sl a4 15 = (.agg #[(.int .u8 (x.k)), (.int .i64 (x.n)), (.string (x.t)), (.slice v15_4a (x.ns.length) v15_4c), (.slice none 0 0)]) := ev; clear ev
  replace own_b2_2 := own_b2_2.ext hk
  replace own_b1_2 := own_b1_2.ext hk
  replace kw := kw.x hk
  clear hR hk hg hP hb3
  refine tail_store (b := b3_4) (o := 0) (v := (.agg #[(.int .u8 (x.k)), (.int .i64 (x.n)), (.string (x.t)), (.slice v15_4a (x.ns.length) v15_4c), (.slice none 0 0)])) e3 e15 sz33 rfl own_b3_4 (lbr rfl) (all_cons rfl (all_cons rfl (all_cons rfl (all_cons rfl (all_cons rfl all_nil))))) (fun W5 hs own_b3_4 => ?_)
  have own_b3_4 : Own W5 b3_4 [(.int .u8 (x.k)), (.int .i64 (x.n)), (.string (x.t)), (.slice v15_4a (x.ns.length) v15_4c), (.slice none 0 0)] 33 := own_b3_4
  replace own_b2_2 := own_store own_b2_2 hs ne_b2_2_b3_4
  replace own_b1_2 := own_store own_b1_2 hs ne_b1_2_b3_4
  replace D_cn0 := sa_store D_cn0 hs (by simp)
  replace D_ci0 := sa_store D_ci0 hs (by simp)
  replace D_v15_4 := sf_store D_v15_4 hs (by simp)
  replace kw := keeps_store kw hs lo_b3_4
  clear hs
  refine tail_nil (hK3 _ _ ?_)
  refine wp_seq_k fun K6 hK6 => ?_
  refine wp_seq_k fun K7 hK7 => ?_
  refine rg mixed y4 zz4 ?_
  refine .i (fo 4 (hbs rfl e1) Try.underlying33 rfl sz31 rfl) ?_
  refine .i (lo1 (hlc rfl) own_b1_2 trivial agg31 sz31 rfl) ?_
  refine .i (sp_lenVs Try.underlying31 ((hlc rfl).dat D_ci0 sub_all)) ?_
  refine .i (sp_move Has.cst) ?_
  refine .done ⟨by kernel_rfl, fun a8 g W8 y8 zz8 hk hg hV hR hP => ?_⟩
  obtain ⟨e19, e18, e17, -, -⟩ := hV
  replace e2 := (hR 2 rfl).trans e2
  replace e3 := (hR 3 rfl).trans e3
  replace D_cn0 := D_cn0.ext hk
  replace D_ci0 := D_ci0.ext hk
  replace D_v15_4 := D_v15_4.ext hk
  have e17 : sl a8 17 = (.slice ci0a (x.xs.length) ci0c) := e17
  have e18 : sl a8 18 = (.int .i64 (x.xs.length)) := e18
  have e19 : sl a8 19 = (.int .i64 (0)) := e19
  replace own_b2_2 := own_b2_2.ext hk
  replace own_b1_2 := own_b1_2.ext hk
  replace own_b3_4 := own_b3_4.ext hk
  replace kw := kw.x hk
  clear hR hk hg hP
  refine tail_nil (hK7 _ _ ?_)
  refine wp_block ?_
  replace D_ci0 := sa_less (M' := [b3_4, b2_2]) D_ci0 (ls_keep (ls_keep ls_nil))
  replace D_v15_4 := sf_less (M' := [b3_4, b2_2]) D_v15_4 (ls_keep (ls_keep ls_nil))
  have A_ar9 : Arr W8 w.heap.size 33 5 (SF w (blks none ++ (b3_4 :: (b2_2 :: [])))) (List.map V.d ([])) (.slice none 0 0) none := arr_nil _ _ _ _ _
  replace D_ci0 : Rd W8 (SA w S (blks none ++ (b3_4 :: (b2_2 :: [])))) (valsD (x.xs)) (.slice ci0a (x.xs.length) ci0c) := D_ci0
  replace D_v15_4 : Rd W8 (SF w (blks none ++ (b3_4 :: (b2_2 :: [])))) (strsD (x.ns)) (.slice v15_4a (x.ns.length) v15_4c) := D_v15_4
  have av_ci0 := hav _ _ _ _ _ rfl
  have hvx := rdV_xs hv
  refine wp_for (x.xs.length) (fun k a W => ∃ (ys : List V), ∃ (va4_10 : Value), ∃ (hd4_10 : Option Nat), a.tmps.size = 36 ∧ a.defers = [] ∧ Keeps All w W ∧ sl a 2 = (.pointer (some ⟨b2_2, 0, none⟩)) ∧ sl a 3 = (.pointer (some ⟨b3_4, 0, none⟩)) ∧ sl a 17 = (.slice ci0a (x.xs.length) ci0c) ∧ sl a 18 = (.int .i64 (x.xs.length)) ∧ sl a 19 = (.int .i64 ((k : Nat))) ∧ Own W b2_2 [(.int .u8 (0)), (.int .i64 (0)), (.string (⟨#[]⟩)), (.slice none 0 0), (.slice none 0 0)] 33 ∧ Own W b3_4 [(.int .u8 (x.k)), (.int .i64 (x.n)), (.string (x.t)), (.slice v15_4a (x.ns.length) v15_4c), va4_10] 33 ∧ Rd W (SA w S (blks hd4_10 ++ (b3_4 :: (b2_2 :: [])))) (valsD (x.xs)) (.slice ci0a (x.xs.length) ci0c) ∧ Rd W (SF w (blks hd4_10 ++ (b3_4 :: (b2_2 :: [])))) (strsD (x.ns)) (.slice v15_4a (x.ns.length) v15_4c) ∧ Arr W w.heap.size 33 5 (SF w (blks hd4_10 ++ (b3_4 :: (b2_2 :: [])))) (List.map V.d (ys)) va4_10 hd4_10 ∧ b2_2 ∉ blks hd4_10 ∧ b3_4 ∉ blks hd4_10 ∧ (CpL x.xs ys k)) ⟨[], (.slice none 0 0), none, y8, zz8, kw, e2, e3, e17, e18, (e19.trans (congrArg (Value.int .i64) (rfl))), own_b2_2, own_b3_4, D_ci0, D_v15_4, A_ar9, nb_none, nb_none, cpL_nil _⟩ ?_
  clear kw e2 e3 e17 e18 e19 own_b2_2 own_b3_4 D_ci0 D_v15_4 A_ar9
  rintro k a10 W10 hkk ⟨ys, va4_10, hd4_10, y10, zz10, kw, e2, e3, e17, e18, e19, own_b2_2, own_b3_4, D_ci0, D_v15_4, A4_10, nb_b2_2_ar9_10, nb_b3_4_ar9_10, hys⟩
  refine wp_seq_k fun K11 hK11 => ?_
  refine rg mixed y10 zz10 ?_
  refine .i (sp_lss (hbs rfl e19) (hbs rfl e18)) ?_
  refine .done ⟨by kernel_rfl, fun a12 g W12 y12 zz12 hk hg hV hR hP => ?_⟩
  obtain ⟨e20, -⟩ := hV
  replace e2 := (hR 2 rfl).trans e2
  replace e3 := (hR 3 rfl).trans e3
  replace e17 := (hR 17 rfl).trans e17
  replace e18 := (hR 18 rfl).trans e18
  replace e19 := (hR 19 rfl).trans e19
  replace A4_10 := A4_10.ext hk
  replace D_ci0 := D_ci0.ext hk
  replace D_v15_4 := D_v15_4.ext hk
  replace e20 := e20.q
  replace own_b2_2 := own_b2_2.ext hk
  replace own_b3_4 := own_b3_4.ext hk
  replace kw := kw.x hk
  clear hR hk hg hP
  refine tail_nil (hK11 _ _ ?_)
  refine wp_seq_k fun K13 hK13 => ?_
  refine wp_cond_split e20 (fun hc => ?_) (fun hc => ?_)
  ·
   have hlt : k < x.xs.length := by simpa using hc
   have hwm := wts_mem hlt
   have hwc := cnts_wts (x.xs[k]).xs
   have hwe := wt_eq x.xs[k]
   obtain ⟨bq, oq, nqa, nqc, xqa, xqc, evq, hltq, hcq, htq, hnq, hxq, hfq, av_xq⟩ := el_qav hP av_ci0 hvx hlt
   have D_nq : Rd W12 (SA w S (blks hd4_10 ++ (b3_4 :: (b2_2 :: [])))) (strsD ((x.xs[k]'hlt).ns)) (.slice nqa (((x.xs[k]'hlt).ns).length) nqc) := (rd_argQ hnq (in_app A4_10.ge (in_cons lo_b3_4 (in_cons lo_b2_2 in_nil)))).ext kw
   have D_xq : Rd W12 (SA w S (blks hd4_10 ++ (b3_4 :: (b2_2 :: [])))) (valsD ((x.xs[k]'hlt).xs)) (.slice xqa (((x.xs[k]'hlt).xs).length) xqc) := (rd_argQ hxq (in_app A4_10.ge (in_cons lo_b3_4 (in_cons lo_b2_2 in_nil)))).ext kw
   refine wp_skip (hK13 _ _ ?_)
   refine wp_seq_k fun K14 hK14 => ?_
   refine wp_block ?_
   refine wp_seq_k fun K15 hK15 => ?_
   refine rg mixed y12 zz12 ?_
   refine .i (v := (.pointer (some ⟨bq, oq + k * 5, none⟩))) (sp_indexQ (i := k) evq (hbs rfl e17) (hbs rfl e19) Try.underlying31 sz33 hlt) ?_
   refine .i (v := (.agg #[(.int .u8 ((x.xs[k]'hlt).k)), (.int .i64 ((x.xs[k]'hlt).n)), (.string ((x.xs[k]'hlt).t)), (.slice nqa (((x.xs[k]'hlt).ns).length) nqc), (.slice xqa (((x.xs[k]'hlt).xs).length) xqc)])) (sp_loadQ5 kw (hlc rfl) agg33 sz33 hcq hltq) ?_
   refine .alloc z33 ?_
   refine .done ⟨by kernel_rfl, fun a16 g W16 y16 zz16 hk hg hV hR hP => ?_⟩
   obtain ⟨⟨b5_16, e5, hb5, own_b5_16⟩, e22, -, -⟩ := hV
   have lo_b5_16 : w.heap.size ≤ b5_16 := Nat.le_trans kw.size (hg.lo _ _ hb5)
   have ne_b2_2_b5_16 : b2_2 ≠ b5_16 := Nat.ne_of_lt (Nat.lt_of_lt_of_le own_b2_2.lt (hg.lo _ _ hb5))
   have ne_b3_4_b5_16 : b3_4 ≠ b5_16 := Nat.ne_of_lt (Nat.lt_of_lt_of_le own_b3_4.lt (hg.lo _ _ hb5))
   have own_b5_16 : Own W16 b5_16 [(.int .u8 (0)), (.int .i64 (0)), (.string (⟨#[]⟩)), (.slice none 0 0), (.slice none 0 0)] 33 := own_b5_16
   replace e2 := (hR 2 rfl).trans e2
   replace e3 := (hR 3 rfl).trans e3
   replace e17 := (hR 17 rfl).trans e17
   replace e18 := (hR 18 rfl).trans e18
   replace e19 := (hR 19 rfl).trans e19
   have nb_b5_16_ar9 : b5_16 ∉ blks hd4_10 := nb_lt A4_10.lt (hg.lo _ _ hb5)
   replace A4_10 : Arr W16 w.heap.size 33 5 (SF w (b5_16 :: (blks hd4_10 ++ (b3_4 :: (b2_2 :: []))))) (List.map V.d (ys)) va4_10 hd4_10 := arrF_more A4_10 hk [b5_16] (in_cons (hg.lo _ _ hb5) in_nil)
   replace D_ci0 : Rd W16 (SA w S (b5_16 :: (blks hd4_10 ++ (b3_4 :: (b2_2 :: []))))) (valsD (x.xs)) (.slice ci0a (x.xs.length) ci0c) := sa_more D_ci0 hk [b5_16] (in_cons (hg.lo _ _ hb5) in_nil)
   replace D_v15_4 : Rd W16 (SF w (b5_16 :: (blks hd4_10 ++ (b3_4 :: (b2_2 :: []))))) (strsD (x.ns)) (.slice v15_4a (x.ns.length) v15_4c) := sf_more D_v15_4 hk [b5_16] (in_cons (hg.lo _ _ hb5) in_nil)
   replace D_nq : Rd W16 (SA w S (b5_16 :: (blks hd4_10 ++ (b3_4 :: (b2_2 :: []))))) (strsD ((x.xs[k]'hlt).ns)) (.slice nqa (((x.xs[k]'hlt).ns).length) nqc) := sa_more D_nq hk [b5_16] (in_cons (hg.lo _ _ hb5) in_nil)
   replace D_xq : Rd W16 (SA w S (b5_16 :: (blks hd4_10 ++ (b3_4 :: (b2_2 :: []))))) (valsD ((x.xs[k]'hlt).xs)) (.slice xqa (((x.xs[k]'hlt).xs).length) xqc) := sa_more D_xq hk [b5_16] (in_cons (hg.lo _ _ hb5) in_nil)
   replace e22 := e22.q
   replace own_b2_2 := own_b2_2.ext hk
   replace own_b3_4 := own_b3_4.ext hk
   replace kw := kw.x hk
   clear hR hk hg hP hb5
   refine tail_store (b := b5_16) (o := 0) (v := (.agg #[(.int .u8 ((x.xs[k]'hlt).k)), (.int .i64 ((x.xs[k]'hlt).n)), (.string ((x.xs[k]'hlt).t)), (.slice nqa (((x.xs[k]'hlt).ns).length) nqc), (.slice xqa (((x.xs[k]'hlt).xs).length) xqc)])) e5 e22 sz33 rfl own_b5_16 (lbr rfl) (all_cons rfl (all_cons rfl (all_cons rfl (all_cons rfl (all_cons rfl all_nil))))) (fun W17 hs own_b5_16 => ?_)
   have own_b5_16 : Own W17 b5_16 [(.int .u8 ((x.xs[k]'hlt).k)), (.int .i64 ((x.xs[k]'hlt).n)), (.string ((x.xs[k]'hlt).t)), (.slice nqa (((x.xs[k]'hlt).ns).length) nqc), (.slice xqa (((x.xs[k]'hlt).xs).length) xqc)] 33 := own_b5_16
   replace own_b2_2 := own_store own_b2_2 hs ne_b2_2_b5_16
   replace own_b3_4 := own_store own_b3_4 hs ne_b3_4_b5_16
   replace D_ci0 := sa_store D_ci0 hs (by simp)
   replace D_v15_4 := sf_store D_v15_4 hs (by simp)
   replace D_nq := sa_store D_nq hs (by simp)
   replace D_xq := sa_store D_xq hs (by simp)
   replace A4_10 := arrF_store A4_10 hs (by simp) nb_b5_16_ar9
   replace kw := keeps_store kw hs lo_b5_16
   clear hs
   refine tail_nil (hK15 _ _ ?_)
   refine wp_seq_k fun K18 hK18 => ?_
   refine wp_seq_k fun K19 hK19 => ?_
   refine rg mixed y16 zz16 ?_
   refine .i (fo 4 (hbs rfl e5) Try.underlying33 rfl sz31 rfl) ?_
   refine .i (lo1 (hlc rfl) own_b5_16 trivial agg31 sz31 rfl) ?_
   refine .op (φ := IsUB) st_ub (sp_call4 (φ1 := Is (.slice xqa (((x.xs[k]'hlt).xs).length) xqc)) (φ2 := Is (.int .i64 (1))) (φ3 := Is (.pointer none)) (φ4 := Is (.bool (false))) ent137 (hlc rfl) Has.cst Has.cst Has.cst (fun g u1 u2 u3 u4 W hk hgk h1 h2 h3 h4 => by have h1 : u1 = _ := h1; subst u1; have h2 : u2 = _ := h2; subst u2; have h3 : u3 = _ := h3; subst u3; have h4 : u4 = _ := h4; subst u4; exact endlessP_all u _ ((x.xs[k]'hlt).xs) (Nat.lt_succ_self _) (1) (by omega) (by omega) (false) _ W _ _ (Nat.le_trans hu (Nat.le_trans kw.size hk.size)) (pin_sa hP hu) av_xq (D_xq.ext hk) (.inl rfl))) ?_
   refine .done ⟨by kernel_rfl, fun a20 g W20 y20 zz20 hk hg hV hR hP => ?_⟩
   obtain ⟨e25, -, -, -⟩ := hV
   replace e2 := (hR 2 rfl).trans e2
   replace e3 := (hR 3 rfl).trans e3
   replace e17 := (hR 17 rfl).trans e17
   replace e18 := (hR 18 rfl).trans e18
   replace e19 := (hR 19 rfl).trans e19
   replace e5 := (hR 5 rfl).trans e5
   obtain ⟨r25_20, e25⟩ := e25
   replace A4_10 := A4_10.ext hk
   replace D_ci0 := D_ci0.ext hk
   replace D_v15_4 := D_v15_4.ext hk
   replace D_nq := D_nq.ext hk
   replace D_xq := D_xq.ext hk
   have e25 : sl a20 25 = (.bool (r25_20)) := e25
   replace own_b2_2 := own_b2_2.ext hk
   replace own_b3_4 := own_b3_4.ext hk
   replace own_b5_16 := own_b5_16.ext hk
   replace kw := kw.x hk
   clear hR hk hg hP
   refine tail_nil (hK19 _ _ ?_)
   refine wp_cond_split e25 (fun hc => ?_) (fun hc => ?_)
   ·
    refine rg mixed y20 zz20 ?_
    refine .i (v := (.agg #[(.int .u8 (0)), (.int .i64 (0)), (.string (⟨#[]⟩)), (.slice none 0 0), (.slice none 0 0)])) (sp_build (vs := []) Try.underlying33 z33 (pl33 Try.underlying33) trivial rfl) ?_
    refine .done ⟨by kernel_rfl, fun a21 g W21 y21 zz21 hk hg hV hR hP => ?_⟩
    obtain ⟨e26, -⟩ := hV
    replace e2 := (hR 2 rfl).trans e2
    replace e3 := (hR 3 rfl).trans e3
    replace e17 := (hR 17 rfl).trans e17
    replace e18 := (hR 18 rfl).trans e18
    replace e19 := (hR 19 rfl).trans e19
    replace e5 := (hR 5 rfl).trans e5
    replace A4_10 := A4_10.ext hk
    replace D_ci0 := D_ci0.ext hk
    replace D_v15_4 := D_v15_4.ext hk
    replace D_nq := D_nq.ext hk
    replace D_xq := D_xq.ext hk
    replace e26 := e26.q
    replace own_b2_2 := own_b2_2.ext hk
    replace own_b3_4 := own_b3_4.ext hk
    replace own_b5_16 := own_b5_16.ext hk
    replace kw := kw.x hk
    clear hR hk hg hP
    refine tail_store (b := b5_16) (o := 0) (v := (.agg #[(.int .u8 (0)), (.int .i64 (0)), (.string (⟨#[]⟩)), (.slice none 0 0), (.slice none 0 0)])) e5 e26 sz33 rfl own_b5_16 (lbr rfl) (all_cons rfl (all_cons rfl (all_cons rfl (all_cons rfl (all_cons rfl all_nil))))) (fun W22 hs own_b5_16 => ?_)
    have own_b5_16 : Own W22 b5_16 [(.int .u8 (0)), (.int .i64 (0)), (.string (⟨#[]⟩)), (.slice none 0 0), (.slice none 0 0)] 33 := own_b5_16
    replace own_b2_2 := own_store own_b2_2 hs ne_b2_2_b5_16
    replace own_b3_4 := own_store own_b3_4 hs ne_b3_4_b5_16
    replace D_ci0 := sa_store D_ci0 hs (by simp)
    replace D_v15_4 := sf_store D_v15_4 hs (by simp)
    replace D_nq := sa_store D_nq hs (by simp)
    replace D_xq := sa_store D_xq hs (by simp)
    replace A4_10 := arrF_store A4_10 hs (by simp) nb_b5_16_ar9
    replace kw := keeps_store kw hs lo_b5_16
    clear hs
    refine tail_nil (hK18 _ _ ?_)
    refine wp_reg (fun k => k ∉ blks hd4_10) (Ψ := fun W => Arr W w.heap.size 33 5 (SF w (b5_16 :: (blks hd4_10 ++ (b3_4 :: (b2_2 :: []))))) (List.map V.d (ys)) va4_10 hd4_10) mixed y21 zz21 (fun W W' k h => h.ext k) A4_10 ?_
    refine .i (fo 4 (hbs rfl e3) Try.underlying33 rfl sz31 rfl) ?_
    refine .i (lo1 (hlc rfl) own_b3_4 nb_b3_4_ar9_10 agg31 sz31 rfl) ?_
    refine .i (v := (.agg #[(.int .u8 (0)), (.int .i64 (0)), (.string (⟨#[]⟩)), (.slice none 0 0), (.slice none 0 0)])) (loA (hbs rfl e5) own_b5_16 nb_b5_16_ar9 agg33 sz33 rfl rfl) ?_
    refine .op (φ := IsD (Fr W22) (V.d (V.mk (0) (0) (⟨#[]⟩) ([]) ([])))) (st_d (sub_frnb (fun b hb => A4_10.lt b hb))) (sp_call1 (φ1 := IsD (SA w S (b5_16 :: (blks hd4_10 ++ (b3_4 :: (b2_2 :: []))))) (V.d (V.mk (0) (0) (⟨#[]⟩) ([]) ([])))) ent138 ((hlc rfl).dat (rdV_mk (lbr rfl) (rd_nil _) (rd_nil _) : Rd W22 (SA w S (b5_16 :: (blks hd4_10 ++ (b3_4 :: (b2_2 :: []))))) (V.d (V.mk (0) (0) (⟨#[]⟩) ([]) ([]))) _) (sub_nb (fun b hb => List.mem_cons_of_mem _ (List.mem_append_left _ hb)))) (fun g u1 W hk hgk h1 => (duplicate_all _ (V.mk (0) (0) (⟨#[]⟩) ([]) ([])) (Nat.le_refl _) (by first | omega | exact Nat.le_of_ble_eq_true (by kernel_rfl)) W _ _ h1).mono (ret_fr hk hgk))) ?_
    refine .op (φ := IsD (SF w (b5_16 :: (blks hd4_10 ++ (b3_4 :: (b2_2 :: []))))) (valsD ([V.mk (0) (0) (⟨#[]⟩) ([]) ([])]))) (st_d (sub_nbF (fun b hb => List.mem_cons_of_mem _ (List.mem_append_left _ hb)))) (sp_bsl (ds := [V.d (V.mk (0) (0) (⟨#[]⟩) ([]) ([]))]) Try.underlying31 sz33 z33 (lbr rfl) (lbr rfl) ⟨rfl, ((hlc rfl).sup (fr_sf kw (in_cons own_b5_16.lt (in_app A4_10.lt (in_cons own_b3_4.lt (in_cons own_b2_2.lt in_nil)))))), trivial⟩ rfl (by intro e he; simp at he; rcases he with rfl <;> exact width_V _) (fr_sf kw (in_cons own_b5_16.lt (in_app A4_10.lt (in_cons own_b3_4.lt (in_cons own_b2_2.lt in_nil)))))) ?_
    refine .appB (ds := List.map V.d (ys)) (es := [V.d (V.mk (0) (0) (⟨#[]⟩) ([]) ([]))]) (X := SF w (b5_16 :: (blks hd4_10 ++ (b3_4 :: (b2_2 :: []))))) Try.underlying31 inf33 (lbr rfl) (hlc rfl) (hlc rfl) (sub_nbF (fun b hb => List.mem_cons_of_mem _ (List.mem_append_left _ hb))) (by simp [hys.1, maxLen]; omega) (by simp [hys.1]; omega) kw.size ?_
    refine .i (fo 4 (hbs rfl e3) Try.underlying33 rfl sz31 rfl) ?_
    refine .done ⟨by kernel_rfl, fun a23 g W23 y23 zz23 hk hg hV hR hP => ?_⟩
    obtain ⟨e33, e32, -, -, -, -, -, -⟩ := hV
    replace e2 := (hR 2 rfl).trans e2
    replace e3 := (hR 3 rfl).trans e3
    replace e17 := (hR 17 rfl).trans e17
    replace e18 := (hR 18 rfl).trans e18
    replace e19 := (hR 19 rfl).trans e19
    obtain ⟨v32_23, ev⟩ : ∃ v, sl a23 32 = v := ⟨_, rfl⟩
    rw [ev] at e32
    obtain ⟨hd32_23, A_32_23, hf32_23⟩ := e32
    have e32 := ev; clear ev
    obtain ⟨v32_23a, v32_23n, v32_23c, ev⟩ := arr_sl A_32_23; subst ev
    replace A_32_23 := arrF_new (M' := (b5_16 :: (blks hd32_23 ++ (b3_4 :: (b2_2 :: []))))) A_32_23 (rep_cons (rep_app (rep_q fun _ h => h) (rep_cons (rep_cons rep_nil))))
    replace A_32_23 : Arr W23 w.heap.size 33 5 (SF w (b5_16 :: (blks hd32_23 ++ (b3_4 :: (b2_2 :: []))))) (List.map V.d (ys ++ [V.mk (0) (0) (⟨#[]⟩) ([]) ([])])) (.slice v32_23a v32_23n v32_23c) hd32_23 := by first | exact A_32_23 | (rw [List.map_append]; exact A_32_23)
    have nb_b2_2_23 : b2_2 ∉ blks hd32_23 := nb_new nb_b2_2_ar9_10 own_b2_2.lt hf32_23
    have nb_b3_4_23 : b3_4 ∉ blks hd32_23 := nb_new nb_b3_4_ar9_10 own_b3_4.lt hf32_23
    have nb_b5_16_23 : b5_16 ∉ blks hd32_23 := nb_new nb_b5_16_ar9 own_b5_16.lt hf32_23
    replace D_ci0 := sa_app (M' := (b5_16 :: (blks hd32_23 ++ (b3_4 :: (b2_2 :: []))))) D_ci0 hk (fun b hb => List.mem_cons_of_mem _ (List.mem_append_left _ hb)) (rep_cons (rep_app hf32_23 (rep_cons (rep_cons rep_nil))))
    replace D_v15_4 := sf_app (M' := (b5_16 :: (blks hd32_23 ++ (b3_4 :: (b2_2 :: []))))) D_v15_4 hk (fun b hb => List.mem_cons_of_mem _ (List.mem_append_left _ hb)) (rep_cons (rep_app hf32_23 (rep_cons (rep_cons rep_nil))))
    replace D_nq := sa_app (M' := (b5_16 :: (blks hd32_23 ++ (b3_4 :: (b2_2 :: []))))) D_nq hk (fun b hb => List.mem_cons_of_mem _ (List.mem_append_left _ hb)) (rep_cons (rep_app hf32_23 (rep_cons (rep_cons rep_nil))))
    replace D_xq := sa_app (M' := (b5_16 :: (blks hd32_23 ++ (b3_4 :: (b2_2 :: []))))) D_xq hk (fun b hb => List.mem_cons_of_mem _ (List.mem_append_left _ hb)) (rep_cons (rep_app hf32_23 (rep_cons (rep_cons rep_nil))))
    replace own_b2_2 := own_app own_b2_2 hk nb_b2_2_ar9_10
    replace own_b3_4 := own_app own_b3_4 hk nb_b3_4_ar9_10
    replace own_b5_16 := own_app own_b5_16 hk nb_b5_16_ar9
    replace kw := keeps_app kw hk A4_10.ge
    have e33 : sl a23 33 = (.pointer (some ⟨b3_4, 4, none⟩)) := e33
    clear hR hk hg hP hf32_23 A4_10
    refine tail_store (b := b3_4) (o := 4) (v := (.slice v32_23a v32_23n v32_23c)) e33 e32 sz31 rfl own_b3_4 (lbr rfl) (all_cons rfl all_nil) (fun W24 hs own_b3_4 => ?_)
    have own_b3_4 : Own W24 b3_4 [(.int .u8 (x.k)), (.int .i64 (x.n)), (.string (x.t)), (.slice v15_4a (x.ns.length) v15_4c), (.slice v32_23a v32_23n v32_23c)] 33 := own_b3_4
    replace own_b2_2 := own_store own_b2_2 hs ne_b2_2_b3_4
    replace own_b5_16 := own_store own_b5_16 hs ne_b3_4_b5_16.symm
    replace D_ci0 := sa_store D_ci0 hs (by simp)
    replace D_v15_4 := sf_store D_v15_4 hs (by simp)
    replace D_nq := sa_store D_nq hs (by simp)
    replace D_xq := sa_store D_xq hs (by simp)
    replace A_32_23 := arrF_store A_32_23 hs (by simp) nb_b3_4_23
    replace kw := keeps_store kw hs lo_b3_4
    clear hs
    refine tail_nil (hK14 _ _ ?_)
    refine rg mixed y23 zz23 ?_
    refine .i (sp_add (hbs rfl e19) Has.cst (i64_in (by omega))) ?_
    refine .i (sp_move (hlc rfl)) ?_
    refine .done ⟨by kernel_rfl, fun a25 g W25 y25 zz25 hk hg hV hR hP => ?_⟩
    obtain ⟨e19, -, -⟩ := hV
    replace e2 := (hR 2 rfl).trans e2
    replace e3 := (hR 3 rfl).trans e3
    replace e17 := (hR 17 rfl).trans e17
    replace e18 := (hR 18 rfl).trans e18
    replace A_32_23 := A_32_23.ext hk
    replace D_ci0 := D_ci0.ext hk
    replace D_v15_4 := D_v15_4.ext hk
    replace D_nq := D_nq.ext hk
    replace D_xq := D_xq.ext hk
    replace e19 := e19.q
    replace own_b2_2 := own_b2_2.ext hk
    replace own_b3_4 := own_b3_4.ext hk
    replace own_b5_16 := own_b5_16.ext hk
    replace kw := kw.x hk
    clear hR hk hg hP
    exact tail_nil ⟨hlt, (ys ++ [V.mk (0) (0) (⟨#[]⟩) ([]) ([])]), (.slice v32_23a v32_23n v32_23c), hd32_23, y25, zz25, kw, e2, e3, e17, e18, (e19.trans (congrArg (Value.int .i64) (by simp))), own_b2_2, own_b3_4, (sa_less D_ci0 (ls_skip (ls_keepA (ls_keep (ls_keep ls_nil))))), (sf_less D_v15_4 (ls_skip (ls_keepA (ls_keep (ls_keep ls_nil))))), (arrF_less A_32_23 (ls_skip (ls_keepA (ls_keep (ls_keep ls_nil))))), nb_b2_2_23, nb_b3_4_23, (cpL_step hys hlt (by first | exact .inl rfl | exact .inr rfl))⟩
   ·
    refine wp_skip (hK18 _ _ ?_)
    refine wp_reg (fun k => k ∉ blks hd4_10) (Ψ := fun W => Arr W w.heap.size 33 5 (SF w (b5_16 :: (blks hd4_10 ++ (b3_4 :: (b2_2 :: []))))) (List.map V.d (ys)) va4_10 hd4_10) mixed y20 zz20 (fun W W' k h => h.ext k) A4_10 ?_
    refine .i (fo 4 (hbs rfl e3) Try.underlying33 rfl sz31 rfl) ?_
    refine .i (lo1 (hlc rfl) own_b3_4 nb_b3_4_ar9_10 agg31 sz31 rfl) ?_
    refine .i (v := (.agg #[(.int .u8 ((x.xs[k]'hlt).k)), (.int .i64 ((x.xs[k]'hlt).n)), (.string ((x.xs[k]'hlt).t)), (.slice nqa (((x.xs[k]'hlt).ns).length) nqc), (.slice xqa (((x.xs[k]'hlt).xs).length) xqc)])) (loA (hbs rfl e5) own_b5_16 nb_b5_16_ar9 agg33 sz33 rfl rfl) ?_
    refine .op (φ := IsD (Fr W20) (V.d ((x.xs[k]'hlt)))) (st_d (sub_frnb (fun b hb => A4_10.lt b hb))) (sp_call1 (φ1 := IsD (SA w S (b5_16 :: (blks hd4_10 ++ (b3_4 :: (b2_2 :: []))))) (V.d ((x.xs[k]'hlt)))) ent138 ((hlc rfl).dat (rdV_in (x := (x.xs[k]'hlt)) htq D_nq D_xq : Rd W20 (SA w S (b5_16 :: (blks hd4_10 ++ (b3_4 :: (b2_2 :: []))))) (V.d ((x.xs[k]'hlt))) _) (sub_nb (fun b hb => List.mem_cons_of_mem _ (List.mem_append_left _ hb)))) (fun g u1 W hk hgk h1 => (duplicate_all _ ((x.xs[k]'hlt)) (Nat.le_refl _) (by first | omega | exact Nat.le_of_ble_eq_true (by kernel_rfl)) W _ _ h1).mono (ret_fr hk hgk))) ?_
    refine .op (φ := IsD (SF w (b5_16 :: (blks hd4_10 ++ (b3_4 :: (b2_2 :: []))))) (valsD ([(x.xs[k]'hlt)]))) (st_d (sub_nbF (fun b hb => List.mem_cons_of_mem _ (List.mem_append_left _ hb)))) (sp_bsl (ds := [V.d ((x.xs[k]'hlt))]) Try.underlying31 sz33 z33 (lbr rfl) (lbr rfl) ⟨rfl, ((hlc rfl).sup (fr_sf kw (in_cons own_b5_16.lt (in_app A4_10.lt (in_cons own_b3_4.lt (in_cons own_b2_2.lt in_nil)))))), trivial⟩ rfl (by intro e he; simp at he; rcases he with rfl <;> exact width_V _) (fr_sf kw (in_cons own_b5_16.lt (in_app A4_10.lt (in_cons own_b3_4.lt (in_cons own_b2_2.lt in_nil)))))) ?_
    refine .appB (ds := List.map V.d (ys)) (es := [V.d ((x.xs[k]'hlt))]) (X := SF w (b5_16 :: (blks hd4_10 ++ (b3_4 :: (b2_2 :: []))))) Try.underlying31 inf33 (lbr rfl) (hlc rfl) (hlc rfl) (sub_nbF (fun b hb => List.mem_cons_of_mem _ (List.mem_append_left _ hb))) (by simp [hys.1, maxLen]; omega) (by simp [hys.1]; omega) kw.size ?_
    refine .i (fo 4 (hbs rfl e3) Try.underlying33 rfl sz31 rfl) ?_
    refine .done ⟨by kernel_rfl, fun a26 g W26 y26 zz26 hk hg hV hR hP => ?_⟩
    obtain ⟨e33, e32, -, -, -, -, -, -⟩ := hV
    replace e2 := (hR 2 rfl).trans e2
    replace e3 := (hR 3 rfl).trans e3
    replace e17 := (hR 17 rfl).trans e17
    replace e18 := (hR 18 rfl).trans e18
    replace e19 := (hR 19 rfl).trans e19
    obtain ⟨v32_26, ev⟩ : ∃ v, sl a26 32 = v := ⟨_, rfl⟩
    rw [ev] at e32
    obtain ⟨hd32_26, A_32_26, hf32_26⟩ := e32
    have e32 := ev; clear ev
    obtain ⟨v32_26a, v32_26n, v32_26c, ev⟩ := arr_sl A_32_26; subst ev
    replace A_32_26 := arrF_new (M' := (b5_16 :: (blks hd32_26 ++ (b3_4 :: (b2_2 :: []))))) A_32_26 (rep_cons (rep_app (rep_q fun _ h => h) (rep_cons (rep_cons rep_nil))))
    replace A_32_26 : Arr W26 w.heap.size 33 5 (SF w (b5_16 :: (blks hd32_26 ++ (b3_4 :: (b2_2 :: []))))) (List.map V.d (ys ++ [(x.xs[k]'hlt)])) (.slice v32_26a v32_26n v32_26c) hd32_26 := by first | exact A_32_26 | (rw [List.map_append]; exact A_32_26)
    have nb_b2_2_26 : b2_2 ∉ blks hd32_26 := nb_new nb_b2_2_ar9_10 own_b2_2.lt hf32_26
    have nb_b3_4_26 : b3_4 ∉ blks hd32_26 := nb_new nb_b3_4_ar9_10 own_b3_4.lt hf32_26
    have nb_b5_16_26 : b5_16 ∉ blks hd32_26 := nb_new nb_b5_16_ar9 own_b5_16.lt hf32_26
    replace D_ci0 := sa_app (M' := (b5_16 :: (blks hd32_26 ++ (b3_4 :: (b2_2 :: []))))) D_ci0 hk (fun b hb => List.mem_cons_of_mem _ (List.mem_append_left _ hb)) (rep_cons (rep_app hf32_26 (rep_cons (rep_cons rep_nil))))
    replace D_v15_4 := sf_app (M' := (b5_16 :: (blks hd32_26 ++ (b3_4 :: (b2_2 :: []))))) D_v15_4 hk (fun b hb => List.mem_cons_of_mem _ (List.mem_append_left _ hb)) (rep_cons (rep_app hf32_26 (rep_cons (rep_cons rep_nil))))
    replace D_nq := sa_app (M' := (b5_16 :: (blks hd32_26 ++ (b3_4 :: (b2_2 :: []))))) D_nq hk (fun b hb => List.mem_cons_of_mem _ (List.mem_append_left _ hb)) (rep_cons (rep_app hf32_26 (rep_cons (rep_cons rep_nil))))
    replace D_xq := sa_app (M' := (b5_16 :: (blks hd32_26 ++ (b3_4 :: (b2_2 :: []))))) D_xq hk (fun b hb => List.mem_cons_of_mem _ (List.mem_append_left _ hb)) (rep_cons (rep_app hf32_26 (rep_cons (rep_cons rep_nil))))
    replace own_b2_2 := own_app own_b2_2 hk nb_b2_2_ar9_10
    replace own_b3_4 := own_app own_b3_4 hk nb_b3_4_ar9_10
    replace own_b5_16 := own_app own_b5_16 hk nb_b5_16_ar9
    replace kw := keeps_app kw hk A4_10.ge
    have e33 : sl a26 33 = (.pointer (some ⟨b3_4, 4, none⟩)) := e33
    clear hR hk hg hP hf32_26 A4_10
    refine tail_store (b := b3_4) (o := 4) (v := (.slice v32_26a v32_26n v32_26c)) e33 e32 sz31 rfl own_b3_4 (lbr rfl) (all_cons rfl all_nil) (fun W27 hs own_b3_4 => ?_)
    have own_b3_4 : Own W27 b3_4 [(.int .u8 (x.k)), (.int .i64 (x.n)), (.string (x.t)), (.slice v15_4a (x.ns.length) v15_4c), (.slice v32_26a v32_26n v32_26c)] 33 := own_b3_4
    replace own_b2_2 := own_store own_b2_2 hs ne_b2_2_b3_4
    replace own_b5_16 := own_store own_b5_16 hs ne_b3_4_b5_16.symm
    replace D_ci0 := sa_store D_ci0 hs (by simp)
    replace D_v15_4 := sf_store D_v15_4 hs (by simp)
    replace D_nq := sa_store D_nq hs (by simp)
    replace D_xq := sa_store D_xq hs (by simp)
    replace A_32_26 := arrF_store A_32_26 hs (by simp) nb_b3_4_26
    replace kw := keeps_store kw hs lo_b3_4
    clear hs
    refine tail_nil (hK14 _ _ ?_)
    refine rg mixed y26 zz26 ?_
    refine .i (sp_add (hbs rfl e19) Has.cst (i64_in (by omega))) ?_
    refine .i (sp_move (hlc rfl)) ?_
    refine .done ⟨by kernel_rfl, fun a28 g W28 y28 zz28 hk hg hV hR hP => ?_⟩
    obtain ⟨e19, -, -⟩ := hV
    replace e2 := (hR 2 rfl).trans e2
    replace e3 := (hR 3 rfl).trans e3
    replace e17 := (hR 17 rfl).trans e17
    replace e18 := (hR 18 rfl).trans e18
    replace A_32_26 := A_32_26.ext hk
    replace D_ci0 := D_ci0.ext hk
    replace D_v15_4 := D_v15_4.ext hk
    replace D_nq := D_nq.ext hk
    replace D_xq := D_xq.ext hk
    replace e19 := e19.q
    replace own_b2_2 := own_b2_2.ext hk
    replace own_b3_4 := own_b3_4.ext hk
    replace own_b5_16 := own_b5_16.ext hk
    replace kw := kw.x hk
    clear hR hk hg hP
    exact tail_nil ⟨hlt, (ys ++ [(x.xs[k]'hlt)]), (.slice v32_26a v32_26n v32_26c), hd32_26, y28, zz28, kw, e2, e3, e17, e18, (e19.trans (congrArg (Value.int .i64) (by simp))), own_b2_2, own_b3_4, (sa_less D_ci0 (ls_skip (ls_keepA (ls_keep (ls_keep ls_nil))))), (sf_less D_v15_4 (ls_skip (ls_keepA (ls_keep (ls_keep ls_nil))))), (arrF_less A_32_26 (ls_skip (ls_keepA (ls_keep (ls_keep ls_nil))))), nb_b2_2_26, nb_b3_4_26, (cpL_step hys hlt (by first | exact .inl rfl | exact .inr rfl))⟩
  ·
   have hge0 : ¬ k < x.xs.length := by simpa using hc
   have hge : k = x.xs.length := by omega
   rw [hge] at hys
   have D_va4_10 : Rd W12 (SF w [b3_4, b2_2]) (valsD (ys)) va4_10 := arrF_rd A4_10 (ls_skipA (ls_keep (ls_keep ls_nil))) (nin_cons nb_b3_4_ar9_10 (nin_cons nb_b2_2_ar9_10 nin_nil))
   obtain ⟨va4_10a, va4_10c, ev, D2⟩ := rdVs_out D_va4_10
   subst ev; replace D_va4_10 := D2; clear D2
   replace D_ci0 := sa_less (M' := [b3_4, b2_2]) D_ci0 (ls_skipA (ls_keep (ls_keep ls_nil)))
   replace D_v15_4 := sf_less (M' := [b3_4, b2_2]) D_v15_4 (ls_skipA (ls_keep (ls_keep ls_nil)))
   refine wp_exit (hK6 _ _ ?_)
   refine wp_seq_k fun K29 hK29 => ?_
   refine rg mixed y12 zz12 ?_
   refine .i (v := (.agg #[(.int .u8 (x.k)), (.int .i64 (x.n)), (.string (x.t)), (.slice v15_4a (x.ns.length) v15_4c), (.slice va4_10a (ys.length) va4_10c)])) (loA (hbs rfl e3) own_b3_4 trivial agg33 sz33 rfl rfl) ?_
   refine .done ⟨by kernel_rfl, fun a30 g W30 y30 zz30 hk hg hV hR hP => ?_⟩
   obtain ⟨e35, -⟩ := hV
   replace e2 := (hR 2 rfl).trans e2
   replace D_ci0 := D_ci0.ext hk
   replace D_v15_4 := D_v15_4.ext hk
   replace D_va4_10 := D_va4_10.ext hk
   replace e35 := e35.q
   replace own_b2_2 := own_b2_2.ext hk
   replace own_b3_4 := own_b3_4.ext hk
   replace kw := kw.x hk
   clear hR hk hg hP
   refine tail_store (b := b2_2) (o := 0) (v := (.agg #[(.int .u8 (x.k)), (.int .i64 (x.n)), (.string (x.t)), (.slice v15_4a (x.ns.length) v15_4c), (.slice va4_10a (ys.length) va4_10c)])) e2 e35 sz33 rfl own_b2_2 (lbr rfl) (all_cons rfl (all_cons rfl (all_cons rfl (all_cons rfl (all_cons rfl all_nil))))) (fun W31 hs own_b2_2 => ?_)
   have own_b2_2 : Own W31 b2_2 [(.int .u8 (x.k)), (.int .i64 (x.n)), (.string (x.t)), (.slice v15_4a (x.ns.length) v15_4c), (.slice va4_10a (ys.length) va4_10c)] 33 := own_b2_2
   replace own_b3_4 := own_store own_b3_4 hs ne_b2_2_b3_4.symm
   replace D_ci0 := sa_store D_ci0 hs (by simp)
   replace D_v15_4 := sf_store D_v15_4 hs (by simp)
   replace D_va4_10 := sf_store D_va4_10 hs (by simp)
   replace kw := keeps_store kw hs lo_b2_2
   clear hs
   refine tail_nil (hK29 _ _ ?_)
   refine wp_ret ?_
   refine (show bodyPost Try.prog Try.f79 _ .ret _ _ from retC (v := (.agg #[(.int .u8 (x.k)), (.int .i64 (x.n)), (.string (x.t)), (.slice v15_4a (x.ns.length) v15_4c), (.slice va4_10a (ys.length) va4_10c)])) rfl zz30 e2 own_b2_2 agg33 sz33 rfl (fun h => by cases h) rfl ⟨_, rfl, kw, ?_⟩)
   exact ⟨V.mk (x.k) (x.n) (x.t) (x.ns) (ys), ⟨rfl, rfl, rfl, rfl, hys.1, hys.2⟩, sf_fr (rdV_mk ht0 D_v15_4 D_va4_10 : Rd W31 (SF w [b3_4, b2_2]) (V.d (V.mk (x.k) (x.n) (x.t) (x.ns) (ys))) _)⟩
end Go.Proofs.Ytnobijngkpflcaa
namespace Go.Eng
def OrS (X Y : BSet) : BSet := fun b o => X b o ∨ Y b o
section
variable {W u : World} {X Y : BSet} {d : D} {v : Value}
theorem rd_orl (h : Rd W X d v) : Rd W (OrS X Y) d v := h.mono fun _ _ hb _ => .inl hb
theorem rd_orr (h : Rd W Y d v) : Rd W (OrS X Y) d v := h.mono fun _ _ hb _ => .inr hb
theorem ref_orl (h : Ref W X d v) : Ref W (OrS X Y) d v := h.mono fun _ _ hb _ => .inl hb
theorem ref_orr (h : Ref W Y d v) : Ref W (OrS X Y) d v := h.mono fun _ _ hb _ => .inr hb
def AVr (u : World) (v : Value) : Prop := ∀ c0 c1 c2 c3 c4 c5 c6, v = .agg #[c0, c1, c2, c3, c4, c5, c6] → AV u c6
theorem avr_cu {c0 c1 c2 c3 c4 c5 c6 : Value} (h : AVr u (.agg #[c0, c1, c2, c3, c4, c5, c6])) : AVv u (.agg #[c2, c3, c4, c5, c6]) := fun _ _ _ _ _ e => by
  have := h _ _ _ _ _ _ _ rfl
  cases e; exact this
def AVt (u : World) (v : Value) : Prop := ∀ c0 c1 c2 c3 c4 c5 c6 c7, v = .agg #[c0, c1, c2, c3, c4, c5, c6, c7] → AV u c7
theorem avt_r {c0 c1 c2 c3 c4 c5 c6 c7 : Value} (h : AVt u (.agg #[c0, c1, c2, c3, c4, c5, c6, c7])) : AVr u (.agg #[c1, c2, c3, c4, c5, c6, c7]) := fun _ _ _ _ _ _ _ e => by
  have := h _ _ _ _ _ _ _ _ rfl
  cases e; exact this
end
def Rc.withCu (r : Rc) (y : V) : Rc := ⟨r.ln, r.hs, y⟩
theorem noneB_cp {x y : V} (h : Cp x y) : noneB y = noneB x := by
  have h1 : y.xs.length = x.xs.length := h.len
  unfold noneB
  simp only [h.k, h.n, h.t, h.ns, h1]
def IsUI : Fact := fun _ u _ => ∃ n : Int, u = .int .i64 n
theorem st_ui {S : Nat → Prop} : Stable S IsUI := ⟨fun _ _ _ _ _ h => h, fun _ _ _ _ _ _ h => h⟩
def AddO (L : List Vo) (repo : ByteArray) (r : Rc) (e : Int) (L' : List Vo) : Prop :=
  (e ≠ 0 ∧ L' = L) ∨ (e = 0 ∧ (∀ x ∈ L, x.repo ≠ repo) ∧ L.length < 8 ∧ ∃ y, Cp r.cu y ∧ L' = L ++ [⟨r.withCu y, repo⟩])
end Go.Eng
