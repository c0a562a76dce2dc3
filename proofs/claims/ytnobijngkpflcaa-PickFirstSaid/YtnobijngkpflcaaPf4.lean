/-
  The law PickFirst of package legatelaw11 returns true for every input, and leaves its arguments as they were. No condition beyond the row's own.
-/
import Derived.Test.YtnobijngkpflcaaPf3
namespace Go.Proofs.Ytnobijngkpflcaa
open Go.Eng
set_option maxRecDepth 100000 in
theorem text1_ok (x : V) (hxt : x.t.size ≤ maxLen) (w : World) (S : BSet) (v : Value) (hv : Rd w S x.d v) : Calls Try.prog 103 #[v] w (Ret w fun r _ => r = .tuple #[.string (textV x), .int .i64 (textE x)]) := by
  obtain ⟨cn0a, cn0c, ci0a, ci0c, ev, ht0, D_cn0, D_ci0⟩ := rdV_out (rd_arg hv)
  subst ev
  refine enter Try.func103 rfl Try.ntmps103 (lbr rfl) fun a0 y0 zz0 harg => ?_
  have e0 : sl a0 0 = (.agg #[(.int .u8 (x.k)), (.int .i64 (x.n)), (.string (x.t)), (.slice cn0a (x.ns.length) cn0c), (.slice ci0a (x.xs.length) ci0c)]) := harg 0 (lbr rfl)
  have kw := Keeps.refl All w
  clear harg
  refine wp_seq_k fun K1 hK1 => ?_
  refine rg mixed y0 zz0 ?_
  refine .boxOp (v := (.agg #[(.int .u8 (x.k)), (.int .i64 (x.n)), (.string (x.t)), (.slice cn0a (x.ns.length) cn0c), (.slice ci0a (x.xs.length) ci0c)])) (hbs rfl e0) ?_
  refine .i (sp_assign Has.cst) ?_
  refine .i (sp_assign Has.cst) ?_
  refine .done ⟨by kernel_rfl, fun a2 g W2 y2 zz2 hk hg hV hR hP => ?_⟩
  obtain ⟨-, -, ⟨b1_2, e1, hb1, own_b1_2⟩, -⟩ := hV
  have lo_b1_2 : w.heap.size ≤ b1_2 := Nat.le_trans kw.size (hg.lo _ _ hb1)
  have own_b1_2 : Own W2 b1_2 [(.int .u8 (x.k)), (.int .i64 (x.n)), (.string (x.t)), (.slice cn0a (x.ns.length) cn0c), (.slice ci0a (x.xs.length) ci0c)] 33 := own_b1_2
  replace D_cn0 := sa_more D_cn0 hk [b1_2] (in_cons (hg.lo _ _ hb1) in_nil)
  replace D_ci0 := sa_more D_ci0 hk [b1_2] (in_cons (hg.lo _ _ hb1) in_nil)
  replace kw := kw.x hk
  clear hR hk hg hP hb1
  refine tail_nil (hK1 _ _ ?_)
  refine wp_seq_k fun K3 hK3 => ?_
  refine wp_seq_k fun K4 hK4 => ?_
  refine rg mixed y2 zz2 ?_
  refine .i (fo 0 (hbs rfl e1) Try.underlying33 rfl sz5 rfl) ?_
  refine .i (lo1 (hlc rfl) own_b1_2 trivial agg5 sz5 rfl) ?_
  refine .i (sp_neq (hlc rfl) Has.cst) ?_
  refine .done ⟨by kernel_rfl, fun a5 g W5 y5 zz5 hk hg hV hR hP => ?_⟩
  obtain ⟨e6, -, -, -⟩ := hV
  replace e1 := (hR 1 rfl).trans e1
  replace D_cn0 := D_cn0.ext hk
  replace D_ci0 := D_ci0.ext hk
  have e6 : sl a5 6 = (.bool ((x.k : Int) != (3 : Int))) := e6
  replace own_b1_2 := own_b1_2.ext hk
  replace kw := kw.x hk
  clear hR hk hg hP
  refine tail_nil (hK4 _ _ ?_)
  refine wp_cond_split e6 (fun hc => ?_) (fun hc => ?_)
  ·
   have hk : x.k ≠ 3 := by simp at hc; omega
   have hf : textE x = 10 := by rw [textE, if_pos hk]
   have hv2 : textV x = ⟨#[]⟩ := by rw [textV, hf]; rfl
   refine wp_seq_k fun K6 hK6 => ?_
   refine rg mixed y5 zz5 ?_
   refine .i (sp_assign Has.cst) ?_
   refine .i (sp_assign Has.cst) ?_
   refine .done ⟨by kernel_rfl, fun a7 g W7 y7 zz7 hk hg hV hR hP => ?_⟩
   obtain ⟨e3, e2, -⟩ := hV
   replace D_cn0 := D_cn0.ext hk
   replace D_ci0 := D_ci0.ext hk
   have e2 : sl a7 2 = (.string (⟨#[]⟩)) := e2
   have e3 : sl a7 3 = (.int .i64 (10)) := e3
   replace own_b1_2 := own_b1_2.ext hk
   replace kw := kw.x hk
   clear hR hk hg hP
   refine tail_nil (hK6 _ _ ?_)
   refine wp_ret ?_
   refine (show bodyPost Try.prog Try.f103 _ .ret _ _ from ret2 rfl zz7 e2 e3 ⟨_, rfl, kw, ?_⟩)
   rw [hf, hv2]
  ·
   have hk : ¬ x.k ≠ 3 := by simp at hc; omega
   have hf : textE x = 0 := by rw [textE, if_neg hk]
   have hv2 : textV x = x.t := by rw [textV, if_pos hf]
   refine wp_skip (hK3 _ _ ?_)
   refine wp_seq_k fun K8 hK8 => ?_
   refine rg mixed y5 zz5 ?_
   refine .i (fo 2 (hbs rfl e1) Try.underlying33 rfl sz9 rfl) ?_
   refine .i (lo1 (hlc rfl) own_b1_2 trivial agg9 sz9 rfl) ?_
   refine .i (sp_assign (hlc rfl)) ?_
   refine .i (sp_assign Has.cst) ?_
   refine .done ⟨by kernel_rfl, fun a9 g W9 y9 zz9 hk hg hV hR hP => ?_⟩
   obtain ⟨e3, e2, -, -, -⟩ := hV
   replace D_cn0 := D_cn0.ext hk
   replace D_ci0 := D_ci0.ext hk
   have e2 : sl a9 2 = (.string (x.t)) := e2
   have e3 : sl a9 3 = (.int .i64 (0)) := e3
   replace own_b1_2 := own_b1_2.ext hk
   replace kw := kw.x hk
   clear hR hk hg hP
   refine tail_nil (hK8 _ _ ?_)
   refine wp_ret ?_
   refine (show bodyPost Try.prog Try.f103 _ .ret _ _ from ret2 rfl zz9 e2 e3 ⟨_, rfl, kw, ?_⟩)
   rw [hf, hv2]
set_option maxRecDepth 100000 in
theorem takeT_ok (x : V) (A : As) (e : Int) (hA : AB 1000000 A) (hx : x.wt ≤ 1073741824) (hxt : x.t.size ≤ maxLen) (name : ByteArray) (fi : FuncId) (cb : Array Value) (ce : V → Int) (fv : V → ByteArray) (w : World) (S : BSet) (cn ci : Value) (bo bm : Nat) (hS : ∀ b o, S b o → Cln o) (hM : ∀ b ∈ [bo, bm], ∀ o, ¬ S b o) (hne : bo ≠ bm) (hv : Rd w S (strsD x.ns) cn) (hu : Rd w S (valsD x.xs) ci) (own_bo : Own w bo [.int .u8 x.k, .int .i64 x.n, .string x.t, cn, ci, .map (some bm), .int .i64 (e)] 74) (own_bm : OwnM w bm A) (ef : Enters Try.prog fi) (hf : ∀ W, Keeps (fun k => k ∉ [bo, bm]) w W → ∀ (y : V) (v : Value), y.wt ≤ 1073741824 → Rd W (Fr w) y.d v → Calls Try.prog fi (#[v] ++ cb) W (Ret W fun r _ => r = .tuple #[.string (fv y), .int .i64 (ce y)])) : Calls Try.prog 102 #[.pointer (some ⟨bo, 0, none⟩), .string name, .func (.func fi) #[] cb] w (RetL w [bo, bm] fun u W => u = .string (if tkB x e name ce then fv (getV x name) else ⟨#[]⟩) ∧ Own W bo [.int .u8 x.k, .int .i64 x.n, .string x.t, cn, ci, .map (some bm), .int .i64 (tkE x e name ce)] 74 ∧ OwnM W bm (tkA x A e name ce)) := by
  have hwx := wt_eq x
  have hwl := wts_len x.xs
  have hwn := wtN_len x.ns
  obtain ⟨cna, cnc, ev, D_cn⟩ := rdS_out (rd_argM (M := [bo, bm]) hv hM)
  subst ev
  obtain ⟨cia, cic, ev, D_ci⟩ := rdVs_out (rd_argM (M := [bo, bm]) hu hM)
  subst ev
  refine enter Try.func102 rfl Try.ntmps102 (lbr rfl) fun a0 y0 zz0 harg => ?_
  have e0 : sl a0 0 = (.pointer (some ⟨bo, 0, none⟩)) := harg 0 (lbr rfl)
  have e1 : sl a0 1 = (.string (name)) := harg 1 (lbr rfl)
  have e2 : sl a0 2 = (.func (.func fi) #[] cb) := harg 2 (lbr rfl)
  have kw := Keeps.refl (fun k => k ∉ [bo, bm]) w
  clear harg
  refine wp_seq_k fun K1 hK1 => ?_
  refine rg mixed y0 zz0 ?_
  refine .i (sp_assign Has.cst) ?_
  refine .done ⟨by kernel_rfl, fun a2 g W2 y2 zz2 hk hg hV hR hP => ?_⟩
  obtain ⟨-, -⟩ := hV
  replace e0 := (hR 0 rfl).trans e0
  replace e1 := (hR 1 rfl).trans e1
  replace e2 := (hR 2 rfl).trans e2
  replace D_cn := D_cn.ext hk
  replace D_ci := D_ci.ext hk
  replace own_bo := own_bo.ext hk
  replace own_bm := own_bm.ext hk
  replace kw := kw.x hk
  clear hR hk hg hP
  refine tail_nil (hK1 _ _ ?_)
  refine wp_seq_k fun K3 hK3 => ?_
  refine rg mixed y2 zz2 ?_
  refine .i (sp_assign Has.cst) ?_
  refine .done ⟨by kernel_rfl, fun a4 g W4 y4 zz4 hk hg hV hR hP => ?_⟩
  obtain ⟨e7, -⟩ := hV
  replace e0 := (hR 0 rfl).trans e0
  replace e1 := (hR 1 rfl).trans e1
  replace e2 := (hR 2 rfl).trans e2
  replace D_cn := D_cn.ext hk
  replace D_ci := D_ci.ext hk
  have e7 : sl a4 7 = (.string (⟨#[]⟩)) := e7
  replace own_bo := own_bo.ext hk
  replace own_bm := own_bm.ext hk
  replace kw := kw.x hk
  clear hR hk hg hP
  refine tail_nil (hK3 _ _ ?_)
  refine wp_seq_k fun K5 hK5 => ?_
  refine wp_seq_k fun K6 hK6 => ?_
  refine rg mixed y4 zz4 ?_
  refine .i (sp_move (hbs rfl e0)) ?_
  refine .i (v := (.int .i64 (errK x.k e))) (sp_call1 (φ1 := Is (.pointer (some ⟨bo, 0, none⟩))) ent24 (hlc rfl) (fun g u1 W hk hgk h1 => by have h1 : u1 = _ := h1; subst u1; exact Err_ok _ _ _ _ _ _ _ W _ (own_bo.ext hk))) ?_
  refine .i (sp_neq (hlc rfl) Has.cst) ?_
  refine .done ⟨by kernel_rfl, fun a7 g W7 y7 zz7 hk hg hV hR hP => ?_⟩
  obtain ⟨e14, -, -, -⟩ := hV
  replace e0 := (hR 0 rfl).trans e0
  replace e1 := (hR 1 rfl).trans e1
  replace e2 := (hR 2 rfl).trans e2
  replace e7 := (hR 7 rfl).trans e7
  replace D_cn := D_cn.ext hk
  replace D_ci := D_ci.ext hk
  replace e14 := e14.q
  replace own_bo := own_bo.ext hk
  replace own_bm := own_bm.ext hk
  replace kw := kw.x hk
  clear hR hk hg hP
  refine tail_nil (hK6 _ _ ?_)
  refine wp_cond_split e14 (fun hc => ?_) (fun hc => ?_)
  ·
   have hE : errK x.k e ≠ 0 := by simpa using hc
   have h1 : tkE x e name ce = e := by rw [tkE, if_pos hE]
   have h2 : tkB x e name ce = false := by simp [tkB, hE]
   have h3 : tkA x A e name ce = A := by rw [tkA, h2]; rfl
   refine wp_seq_k fun K8 hK8 => ?_
   refine rg mixed y7 zz7 ?_
   refine .i (sp_move (hbs rfl e7)) ?_
   refine .i (sp_assign (hlc rfl)) ?_
   refine .done ⟨by kernel_rfl, fun a9 g W9 y9 zz9 hk hg hV hR hP => ?_⟩
   obtain ⟨e6, -, -⟩ := hV
   replace D_cn := D_cn.ext hk
   replace D_ci := D_ci.ext hk
   have e6 : sl a9 6 = (.string (⟨#[]⟩)) := e6
   replace own_bo := own_bo.ext hk
   replace own_bm := own_bm.ext hk
   replace kw := kw.x hk
   clear hR hk hg hP
   refine tail_nil (hK8 _ _ ?_)
   refine wp_ret ?_
   refine (show bodyPost Try.prog Try.f102 _ .ret _ _ from ret1 rfl zz9 e6 ⟨_, rfl, kw, ?_⟩)
   rw [h1, h3, h2]
   exact ⟨rfl, own_bo, own_bm⟩
  ·
   have hE : errK x.k e = 0 := by simpa using hc
   have he0 := (errK_zero hE).1
   refine wp_skip (hK5 _ _ ?_)
   refine wp_seq_k fun K10 hK10 => ?_
   refine rg mixed y7 zz7 ?_
   refine .i (sp_move (hbs rfl e0)) ?_
   refine .i (sp_nilP (hlc rfl)) ?_
   refine .i (fo 0 (hlc rfl) Try.underlying74 rfl sz33 rfl) ?_
   refine .i (v := (.agg #[(.int .u8 (x.k)), (.int .i64 (x.n)), (.string (x.t)), (.slice cna (x.ns.length) cnc), (.slice cia (x.xs.length) cic)])) (loA (hlc rfl) own_bo trivial agg33 sz33 rfl rfl) ?_
   refine .i (sp_move (hbs rfl e1)) ?_
   refine .op (φ := IsT (IsD (Fr W7) (V.d (getV (x) name))) (Is (.bool (getB (x) name)))) (st_t (st_d sub_all) (st_is _)) (sp_call2 (φ1 := IsD (SA w S [bo, bm]) (V.d (x))) (φ2 := Is (.string (name))) ent101 ((hlc rfl).dat (rdV_in (x := x) hxt D_cn D_ci : Rd W7 (SA w S [bo, bm]) (V.d (x)) _) sub_all) (hlc rfl) (fun g u1 u2 W hk hgk h1 h2 => by have h2 : u2 = _ := h2; subst u2; exact (Get_ok (x) (name) (by omega) W _ _ (fun b o h => sa_cln hS b o h.1) h1).mono (fun _ _ ⟨v, h1, h2, r1, h3, h4⟩ => ⟨v, h1, h2, r1, _, h3, fresh_d hk hgk h4, rfl⟩))) ?_
   refine .op (φ := IsT (IsD (Fr W7) (V.d (getV (x) name))) (Is (.bool (getB (x) name)))) (st_t (st_d sub_all) (st_is _)) (sp_move (hlc rfl)) ?_
   refine .da (X := Fr W7) (e := V.d (getV (x) name)) (sp_ext2 (hlc rfl) rfl) ?_
   refine .i (v := (.bool (getB (x) name))) (sp_ext2' (hlc rfl) rfl) ?_
   refine .alloc z33 ?_
   refine .done ⟨by kernel_rfl, fun a11 g W11 y11 zz11 hk hg hV hR hP => ?_⟩
   obtain ⟨⟨b8_11, e8, hb8, own_b8_11⟩, e24, e23, -, -, -, -, -, -, -, -⟩ := hV
   have lo_b8_11 : w.heap.size ≤ b8_11 := Nat.le_trans kw.size (hg.lo _ _ hb8)
   have ne_bo_b8_11 : bo ≠ b8_11 := Nat.ne_of_lt (Nat.lt_of_lt_of_le own_bo.lt (hg.lo _ _ hb8))
   have ne_bm_b8_11 : bm ≠ b8_11 := Nat.ne_of_lt (Nat.lt_of_lt_of_le own_bm.lt (hg.lo _ _ hb8))
   have own_b8_11 : Own W11 b8_11 [(.int .u8 (0)), (.int .i64 (0)), (.string (⟨#[]⟩)), (.slice none 0 0), (.slice none 0 0)] 33 := own_b8_11
   replace e0 := (hR 0 rfl).trans e0
   replace e1 := (hR 1 rfl).trans e1
   replace e2 := (hR 2 rfl).trans e2
   replace e7 := (hR 7 rfl).trans e7
   replace D_cn := sa_more D_cn hk [b8_11] (in_cons (hg.lo _ _ hb8) in_nil)
   replace D_ci := sa_more D_ci hk [b8_11] (in_cons (hg.lo _ _ hb8) in_nil)
   obtain ⟨v23_11, ev⟩ : ∃ v, sl a11 23 = v := ⟨_, rfl⟩
   rw [ev] at e23
   have D_v23_11 : Rd W11 (SF w [b8_11, bo, bm]) (V.d (getV (x) name)) v23_11 := fr_end (M := [bo, bm]) e23 kw [b8_11] (in_cons ⟨_, hb8⟩ in_nil) (in_cons own_bo.lt (in_cons own_bm.lt in_nil))
   replace e23 := ev; clear ev
   obtain ⟨cn23_11a, cn23_11c, ci23_11a, ci23_11c, ev, ht_v23_11, D_cn23_11, D_ci23_11⟩ := rdV_out D_v23_11
   subst ev; clear D_v23_11
   have e24 : sl a11 24 = (.bool (getB (x) name)) := e24
   replace own_bo := own_bo.ext hk
   replace own_bm := own_bm.ext hk
   replace kw := kw.x hk
   clear hR hk hg hP hb8
   refine tail_store (b := b8_11) (o := 0) (v := (.agg #[(.int .u8 ((getV (x) name).k)), (.int .i64 ((getV (x) name).n)), (.string ((getV (x) name).t)), (.slice cn23_11a (((getV (x) name).ns).length) cn23_11c), (.slice ci23_11a (((getV (x) name).xs).length) ci23_11c)])) e8 e23 sz33 rfl own_b8_11 (lbr rfl) (all_cons rfl (all_cons rfl (all_cons rfl (all_cons rfl (all_cons rfl all_nil))))) (fun W12 hs own_b8_11 => ?_)
   have own_b8_11 : Own W12 b8_11 [(.int .u8 ((getV (x) name).k)), (.int .i64 ((getV (x) name).n)), (.string ((getV (x) name).t)), (.slice cn23_11a (((getV (x) name).ns).length) cn23_11c), (.slice ci23_11a (((getV (x) name).xs).length) ci23_11c)] 33 := own_b8_11
   replace own_bo := own_store own_bo hs ne_bo_b8_11
   replace own_bm := ownM_store own_bm hs ne_bm_b8_11
   replace D_cn := sa_store D_cn hs (by simp)
   replace D_ci := sa_store D_ci hs (by simp)
   replace D_cn23_11 := sf_store D_cn23_11 hs (by simp)
   replace D_ci23_11 := sf_store D_ci23_11 hs (by simp)
   replace kw := keeps_store kw hs lo_b8_11
   clear hs
   refine tail_assign (v := (.bool (getB (x) name))) e24 (by rw [y11]; exact Nat.le_of_ble_eq_true rfl) (fun a13 y13 zz13 e9 hr => ?_)
   replace y13 := y13.trans y11; replace zz13 := zz13.trans zz11
   replace e0 := (hr 0 (by decide)).trans e0
   replace e1 := (hr 1 (by decide)).trans e1
   replace e2 := (hr 2 (by decide)).trans e2
   replace e7 := (hr 7 (by decide)).trans e7
   replace e8 := (hr 8 (by decide)).trans e8
   replace e23 := (hr 23 (by decide)).trans e23
   replace e24 := (hr 24 (by decide)).trans e24
   clear hr
   refine tail_nil (hK10 _ _ ?_)
   refine wp_seq_k fun K14 hK14 => ?_
   refine wp_seq_k fun K15 hK15 => ?_
   refine rg mixed y13 zz13 ?_
   refine .i (sp_move (hbs rfl e9)) ?_
   refine .i (sp_not (hlc rfl)) ?_
   refine .done ⟨by kernel_rfl, fun a16 g W16 y16 zz16 hk hg hV hR hP => ?_⟩
   obtain ⟨e26, -, -⟩ := hV
   replace e0 := (hR 0 rfl).trans e0
   replace e1 := (hR 1 rfl).trans e1
   replace e2 := (hR 2 rfl).trans e2
   replace e7 := (hR 7 rfl).trans e7
   replace e8 := (hR 8 rfl).trans e8
   replace D_cn := D_cn.ext hk
   replace D_ci := D_ci.ext hk
   replace D_cn23_11 := D_cn23_11.ext hk
   replace D_ci23_11 := D_ci23_11.ext hk
   have e26 : sl a16 26 = (.bool (!(getB (x) name))) := e26
   replace own_bo := own_bo.ext hk
   replace own_bm := own_bm.ext hk
   replace own_b8_11 := own_b8_11.ext hk
   replace kw := kw.x hk
   clear hR hk hg hP
   refine tail_nil (hK15 _ _ ?_)
   refine wp_cond_split e26 (fun hc => ?_) (fun hc => ?_)
   ·
    have hg0 : getB x name = false := by simpa using hc
    have h1 : tkE x e name ce = failK x.k e 6 := by rw [tkE, if_neg (by simp [hE]), if_pos hg0, failK, if_pos hE]
    have h2 : tkB x e name ce = false := by simp [tkB, hg0]
    have h3 : tkA x A e name ce = A := by rw [tkA, h2]; rfl
    refine wp_seq_k fun K17 hK17 => ?_
    refine wp_reg (fun k => k ∉ [bo]) (Ψ := fun W => Own W bo [(.int .u8 (x.k)), (.int .i64 (x.n)), (.string (x.t)), (.slice cna (x.ns.length) cnc), (.slice cia (x.xs.length) cic), (.map (some bm)), (.int .i64 (e))] 74) mixed y16 zz16 stE_own own_bo ?_
    refine .i (sp_move (hbs rfl e0)) ?_
    refine .callL2 (φ1 := Is (.pointer (some ⟨bo, 0, none⟩))) (φ2 := Is (.int .i64 (6))) (φ := Is (.tuple #[])) (Ψ' := fun W => Own W bo [(.int .u8 (x.k)), (.int .i64 (x.n)), (.string (x.t)), (.slice cna (x.ns.length) cnc), (.slice cia (x.xs.length) cic), (.map (some bm)), (.int .i64 (failK x.k e 6))] 74) ent22 (hlc rfl) Has.cst (st_is _) stE_own (fun g u1 u2 W hk hg h1 h2 hP => by have h1 : u1 = _ := h1; subst u1; have h2 : u2 = _ := h2; subst u2; exact (Fail_ok _ _ _ _ _ _ _ (6) W _ hP)) ?_
    refine .done ⟨by kernel_rfl, fun a18 g W18 y18 zz18 hk hg hV hR hP => ?_⟩
    obtain ⟨-, -, -⟩ := hV
    replace e7 := (hR 7 rfl).trans e7
    replace D_cn := sa_keepL D_cn hk (by simp)
    replace D_ci := sa_keepL D_ci hk (by simp)
    replace D_cn23_11 := sf_keepL D_cn23_11 hk (by simp)
    replace D_ci23_11 := sf_keepL D_ci23_11 hk (by simp)
    replace own_bm := ownM_keepL own_bm hk (by simp [hne.symm])
    replace own_b8_11 := own_keepL own_b8_11 hk (by simp [ne_bo_b8_11.symm])
    have own_bo := hP
    replace own_bo : Own W18 bo [(.int .u8 (x.k)), (.int .i64 (x.n)), (.string (x.t)), (.slice cna (x.ns.length) cnc), (.slice cia (x.xs.length) cic), (.map (some bm)), (.int .i64 (failK x.k e 6))] 74 := own_bo
    replace kw := keeps_L kw hk (in_cons (.inr (by simp)) in_nil)
    clear hR hk hg hP
    refine tail_nil (hK17 _ _ ?_)
    refine wp_seq_k fun K19 hK19 => ?_
    refine rg mixed y18 zz18 ?_
    refine .i (sp_move (hbs rfl e7)) ?_
    refine .i (sp_assign (hlc rfl)) ?_
    refine .done ⟨by kernel_rfl, fun a20 g W20 y20 zz20 hk hg hV hR hP => ?_⟩
    obtain ⟨e6, -, -⟩ := hV
    replace D_cn := D_cn.ext hk
    replace D_ci := D_ci.ext hk
    have e6 : sl a20 6 = (.string (⟨#[]⟩)) := e6
    replace own_bo := own_bo.ext hk
    replace own_bm := own_bm.ext hk
    replace own_b8_11 := own_b8_11.ext hk
    replace kw := kw.x hk
    clear hR hk hg hP
    refine tail_nil (hK19 _ _ ?_)
    refine wp_ret ?_
    refine (show bodyPost Try.prog Try.f102 _ .ret _ _ from ret1 rfl zz20 e6 ⟨_, rfl, kw, ?_⟩)
    rw [h1, h3, h2]
    exact ⟨rfl, own_bo, own_bm⟩
   ·
    have hg1 : getB x name = true := by simpa using hc
    have hAn := hA name
    have hwg := Nat.le_trans (getV_wt x name) hx
    refine wp_skip (hK14 _ _ ?_)
    refine wp_seq_k fun K21 hK21 => ?_
    refine rg mixed y16 zz16 ?_
    refine .i (sp_move (hbs rfl e2)) ?_
    refine .i (v := (.agg #[(.int .u8 ((getV (x) name).k)), (.int .i64 ((getV (x) name).n)), (.string ((getV (x) name).t)), (.slice cn23_11a (((getV (x) name).ns).length) cn23_11c), (.slice ci23_11a (((getV (x) name).xs).length) ci23_11c)])) (loA (hbs rfl e8) own_b8_11 trivial agg33 sz33 rfl rfl) ?_
    refine .i (v := (.tuple #[(.string (fv (getV x name))), (.int .i64 (ce (getV x name)))])) (sp_callF1 ef (hlc rfl) (hlc rfl) (fun g W hk hgk => hf W (kw.trans (.of_ext hk)) _ _ hwg (sf_fr (Rd.ext (rdV_in (x := (getV (x) name)) ht_v23_11 D_cn23_11 D_ci23_11 : Rd W16 (SF w [b8_11, bo, bm]) (V.d ((getV (x) name))) _) hk)))) ?_
    refine .i (sp_move (hlc rfl)) ?_
    refine .i (v := (.string (fv (getV x name)))) (sp_extT (hlc rfl) rfl) ?_
    refine .i (v := (.int .i64 (ce (getV x name)))) (sp_extT (hlc rfl) rfl) ?_
    refine .i (sp_assign (hlc rfl)) ?_
    refine .i (sp_assign (hlc rfl)) ?_
    refine .done ⟨by kernel_rfl, fun a22 g W22 y22 zz22 hk hg hV hR hP => ?_⟩
    obtain ⟨e11, e10, -, -, -, -, -, -, -⟩ := hV
    replace e0 := (hR 0 rfl).trans e0
    replace e1 := (hR 1 rfl).trans e1
    replace e7 := (hR 7 rfl).trans e7
    replace D_cn := D_cn.ext hk
    replace D_ci := D_ci.ext hk
    replace D_cn23_11 := D_cn23_11.ext hk
    replace D_ci23_11 := D_ci23_11.ext hk
    have e10 : sl a22 10 = (.string (fv (getV x name))) := e10
    have e11 : sl a22 11 = (.int .i64 (ce (getV x name))) := e11
    replace own_bo := own_bo.ext hk
    replace own_bm := own_bm.ext hk
    replace own_b8_11 := own_b8_11.ext hk
    replace kw := kw.x hk
    clear hR hk hg hP
    refine tail_nil (hK21 _ _ ?_)
    refine wp_seq_k fun K23 hK23 => ?_
    refine wp_seq_k fun K24 hK24 => ?_
    refine rg mixed y22 zz22 ?_
    refine .i (sp_move (hbs rfl e11)) ?_
    refine .i (sp_neq (hlc rfl) Has.cst) ?_
    refine .done ⟨by kernel_rfl, fun a25 g W25 y25 zz25 hk hg hV hR hP => ?_⟩
    obtain ⟨e37, -, -⟩ := hV
    replace e0 := (hR 0 rfl).trans e0
    replace e1 := (hR 1 rfl).trans e1
    replace e7 := (hR 7 rfl).trans e7
    replace e10 := (hR 10 rfl).trans e10
    replace e11 := (hR 11 rfl).trans e11
    replace D_cn := D_cn.ext hk
    replace D_ci := D_ci.ext hk
    replace e37 := e37.q
    replace own_bo := own_bo.ext hk
    replace own_bm := own_bm.ext hk
    replace own_b8_11 := own_b8_11.ext hk
    replace kw := kw.x hk
    clear hR hk hg hP
    refine tail_nil (hK24 _ _ ?_)
    refine wp_cond_split e37 (fun hc => ?_) (fun hc => ?_)
    ·
     have hce : ce (getV x name) ≠ 0 := by simpa using hc
     have h1 : tkE x e name ce = failK x.k e (ce (getV x name)) := by rw [tkE, if_neg (by simp [hE]), if_neg (by simp [hg1]), failK, if_pos hE]
     have h2 : tkB x e name ce = false := by simp [tkB, hce]
     have h3 : tkA x A e name ce = A := by rw [tkA, h2]; rfl
     refine wp_seq_k fun K26 hK26 => ?_
     refine wp_reg (fun k => k ∉ [bo]) (Ψ := fun W => Own W bo [(.int .u8 (x.k)), (.int .i64 (x.n)), (.string (x.t)), (.slice cna (x.ns.length) cnc), (.slice cia (x.xs.length) cic), (.map (some bm)), (.int .i64 (e))] 74) mixed y25 zz25 stE_own own_bo ?_
     refine .i (sp_move (hbs rfl e0)) ?_
     refine .i (sp_move (hbs rfl e11)) ?_
     refine .callL2 (φ1 := Is (.pointer (some ⟨bo, 0, none⟩))) (φ2 := Is (.int .i64 (ce (getV x name)))) (φ := Is (.tuple #[])) (Ψ' := fun W => Own W bo [(.int .u8 (x.k)), (.int .i64 (x.n)), (.string (x.t)), (.slice cna (x.ns.length) cnc), (.slice cia (x.xs.length) cic), (.map (some bm)), (.int .i64 (failK x.k e (ce (getV x name))))] 74) ent22 (hlc rfl) (hlc rfl) (st_is _) stE_own (fun g u1 u2 W hk hg h1 h2 hP => by have h1 : u1 = _ := h1; subst u1; have h2 : u2 = _ := h2; subst u2; exact (Fail_ok _ _ _ _ _ _ _ (ce (getV x name)) W _ hP)) ?_
     refine .done ⟨by kernel_rfl, fun a27 g W27 y27 zz27 hk hg hV hR hP => ?_⟩
     obtain ⟨-, -, -, -⟩ := hV
     replace e7 := (hR 7 rfl).trans e7
     replace D_cn := sa_keepL D_cn hk (by simp)
     replace D_ci := sa_keepL D_ci hk (by simp)
     replace own_bm := ownM_keepL own_bm hk (by simp [hne.symm])
     replace own_b8_11 := own_keepL own_b8_11 hk (by simp [ne_bo_b8_11.symm])
     have own_bo := hP
     replace own_bo : Own W27 bo [(.int .u8 (x.k)), (.int .i64 (x.n)), (.string (x.t)), (.slice cna (x.ns.length) cnc), (.slice cia (x.xs.length) cic), (.map (some bm)), (.int .i64 (failK x.k e (ce (getV x name))))] 74 := own_bo
     replace kw := keeps_L kw hk (in_cons (.inr (by simp)) in_nil)
     clear hR hk hg hP
     refine tail_nil (hK26 _ _ ?_)
     refine wp_seq_k fun K28 hK28 => ?_
     refine rg mixed y27 zz27 ?_
     refine .i (sp_move (hbs rfl e7)) ?_
     refine .i (sp_assign (hlc rfl)) ?_
     refine .done ⟨by kernel_rfl, fun a29 g W29 y29 zz29 hk hg hV hR hP => ?_⟩
     obtain ⟨e6, -, -⟩ := hV
     replace D_cn := D_cn.ext hk
     replace D_ci := D_ci.ext hk
     have e6 : sl a29 6 = (.string (⟨#[]⟩)) := e6
     replace own_bo := own_bo.ext hk
     replace own_bm := own_bm.ext hk
     replace own_b8_11 := own_b8_11.ext hk
     replace kw := kw.x hk
     clear hR hk hg hP
     refine tail_nil (hK28 _ _ ?_)
     refine wp_ret ?_
     refine (show bodyPost Try.prog Try.f102 _ .ret _ _ from ret1 rfl zz29 e6 ⟨_, rfl, kw, ?_⟩)
     rw [h1, h3, h2]
     exact ⟨rfl, own_bo, own_bm⟩
    ·
     have hce : ce (getV x name) = 0 := by simpa using hc
     have h1 : tkE x e name ce = e := by rw [tkE, if_neg (by simp [hE]), if_neg (by simp [hg1]), hce, he0]
     have h2 : tkB x e name ce = true := by simp [tkB, hE, hg1, hce]
     have h3 : tkA x A e name ce = mset A name (mget A name + 1) := by rw [tkA, h2]; rfl
     refine wp_skip (hK23 _ _ ?_)
     refine wp_seq_k fun K30 hK30 => ?_
     refine rg mixed y25 zz25 ?_
     refine .i (sp_move (hbs rfl e0)) ?_
     refine .i (sp_nilP (hlc rfl)) ?_
     refine .i (fo 5 (hlc rfl) Try.underlying74 rfl sz72 rfl) ?_
     refine .i (lo1 (hlc rfl) own_bo trivial agg72 sz72 rfl) ?_
     refine .i (sp_move (hbs rfl e1)) ?_
     refine .i (sp_lookup Try.underlying72 Try.underlying9 z3 (hlc rfl) (hlc rfl) own_bm trivial) ?_
     refine .i (sp_add (hlc rfl) Has.cst (i64_in (by omega))) ?_
     refine .done ⟨by kernel_rfl, fun a31 g W31 y31 zz31 hk hg hV hR hP => ?_⟩
     obtain ⟨e48, -, e46, e45, -, -, -, -⟩ := hV
     replace e10 := (hR 10 rfl).trans e10
     replace D_cn := D_cn.ext hk
     replace D_ci := D_ci.ext hk
     have e45 : sl a31 45 = (.map (some bm)) := e45
     have e46 : sl a31 46 = (.string (name)) := e46
     replace e48 := e48.q
     replace own_bo := own_bo.ext hk
     replace own_bm := own_bm.ext hk
     replace own_b8_11 := own_b8_11.ext hk
     replace kw := kw.x hk
     clear hR hk hg hP
     refine tail_updM Try.underlying72 Try.underlying9 e45 e46 e48 own_bm (fun W32 hs own_bm => ?_)
     have own_bm : OwnM W32 bm (mset A name ((mget A name : Int) + (1 : Int))) := own_bm
     replace own_bo := own_store own_bo hs hne
     replace own_b8_11 := own_store own_b8_11 hs ne_bm_b8_11.symm
     replace D_cn := sa_store D_cn hs (by simp)
     replace D_ci := sa_store D_ci hs (by simp)
     replace kw := keeps_storeN kw hs (by simp)
     clear hs
     refine tail_nil (hK30 _ _ ?_)
     refine wp_seq_k fun K33 hK33 => ?_
     refine rg mixed y31 zz31 ?_
     refine .i (sp_move (hbs rfl e10)) ?_
     refine .i (sp_assign (hlc rfl)) ?_
     refine .done ⟨by kernel_rfl, fun a34 g W34 y34 zz34 hk hg hV hR hP => ?_⟩
     obtain ⟨e6, -, -⟩ := hV
     replace D_cn := D_cn.ext hk
     replace D_ci := D_ci.ext hk
     have e6 : sl a34 6 = (.string (fv (getV x name))) := e6
     replace own_bo := own_bo.ext hk
     replace own_bm := own_bm.ext hk
     replace own_b8_11 := own_b8_11.ext hk
     replace kw := kw.x hk
     clear hR hk hg hP
     refine tail_nil (hK33 _ _ ?_)
     refine wp_ret ?_
     refine (show bodyPost Try.prog Try.f102 _ .ret _ _ from ret1 rfl zz34 e6 ⟨_, rfl, kw, ?_⟩)
     rw [h1, h3, h2]
     exact ⟨rfl, own_bo, own_bm⟩
set_option maxRecDepth 100000 in
theorem takeTD_ok (k : Nat) (n : Int) (t : ByteArray) (cn ci mv : Value) (e : Int) (hE : errK k e ≠ 0) (name : ByteArray) (fv : Value) (w : World) (bo : Nat) (own_bo : Own w bo [.int .u8 k, .int .i64 n, .string t, cn, ci, mv, .int .i64 e] 74) : Calls Try.prog 102 #[.pointer (some ⟨bo, 0, none⟩), .string name, fv] w (Ret w fun u _ => u = .string ⟨#[]⟩) := by
  refine enter Try.func102 rfl Try.ntmps102 (lbr rfl) fun a0 y0 zz0 harg => ?_
  have e0 : sl a0 0 = (.pointer (some ⟨bo, 0, none⟩)) := harg 0 (lbr rfl)
  have e1 : sl a0 1 = (.string (name)) := harg 1 (lbr rfl)
  have e2 : sl a0 2 = fv := harg 2 (lbr rfl)
  have kw := Keeps.refl All w
  clear harg
  refine wp_seq_k fun K1 hK1 => ?_
  refine rg mixed y0 zz0 ?_
  refine .i (sp_assign Has.cst) ?_
  refine .done ⟨by kernel_rfl, fun a2 g W2 y2 zz2 hk hg hV hR hP => ?_⟩
  obtain ⟨-, -⟩ := hV
  replace e0 := (hR 0 rfl).trans e0
  replace e1 := (hR 1 rfl).trans e1
  replace e2 := (hR 2 rfl).trans e2
  replace own_bo := own_bo.ext hk
  replace kw := kw.x hk
  clear hR hk hg hP
  refine tail_nil (hK1 _ _ ?_)
  refine wp_seq_k fun K3 hK3 => ?_
  refine rg mixed y2 zz2 ?_
  refine .i (sp_assign Has.cst) ?_
  refine .done ⟨by kernel_rfl, fun a4 g W4 y4 zz4 hk hg hV hR hP => ?_⟩
  obtain ⟨e7, -⟩ := hV
  replace e0 := (hR 0 rfl).trans e0
  replace e1 := (hR 1 rfl).trans e1
  replace e2 := (hR 2 rfl).trans e2
  have e7 : sl a4 7 = (.string (⟨#[]⟩)) := e7
  replace own_bo := own_bo.ext hk
  replace kw := kw.x hk
  clear hR hk hg hP
  refine tail_nil (hK3 _ _ ?_)
  refine wp_seq_k fun K5 hK5 => ?_
  refine wp_seq_k fun K6 hK6 => ?_
  refine rg mixed y4 zz4 ?_
  refine .i (sp_move (hbs rfl e0)) ?_
  refine .i (v := (.int .i64 (errK (k : Nat) e))) (sp_call1 (φ1 := Is (.pointer (some ⟨bo, 0, none⟩))) ent24 (hlc rfl) (fun g u1 W hk hgk h1 => by have h1 : u1 = _ := h1; subst u1; exact Err_ok _ _ _ _ _ _ _ W _ (own_bo.ext hk))) ?_
  refine .i (sp_neq (hlc rfl) Has.cst) ?_
  refine .done ⟨by kernel_rfl, fun a7 g W7 y7 zz7 hk hg hV hR hP => ?_⟩
  obtain ⟨e14, -, -, -⟩ := hV
  replace e0 := (hR 0 rfl).trans e0
  replace e1 := (hR 1 rfl).trans e1
  replace e2 := (hR 2 rfl).trans e2
  replace e7 := (hR 7 rfl).trans e7
  replace e14 := e14.q
  replace own_bo := own_bo.ext hk
  replace kw := kw.x hk
  clear hR hk hg hP
  refine tail_nil (hK6 _ _ ?_)
  refine wp_cond_split e14 (fun hc => ?_) (fun hc => ?_)
  ·
   refine wp_seq_k fun K8 hK8 => ?_
   refine rg mixed y7 zz7 ?_
   refine .i (sp_move (hbs rfl e7)) ?_
   refine .i (sp_assign (hlc rfl)) ?_
   refine .done ⟨by kernel_rfl, fun a9 g W9 y9 zz9 hk hg hV hR hP => ?_⟩
   obtain ⟨e6, -, -⟩ := hV
   have e6 : sl a9 6 = (.string (⟨#[]⟩)) := e6
   replace own_bo := own_bo.ext hk
   replace kw := kw.x hk
   clear hR hk hg hP
   refine tail_nil (hK8 _ _ ?_)
   refine wp_ret ?_
   refine (show bodyPost Try.prog Try.f102 _ .ret _ _ from ret1 rfl zz9 e6 ⟨_, rfl, kw, ?_⟩)
   exact rfl
  ·
   exfalso
   exact hE (by simpa using hc)
set_option maxRecDepth 100000 in
theorem Text_ok (x : V) (A : As) (e : Int) (hA : AB 1000000 A) (hx : x.wt ≤ 1073741824) (hxt : x.t.size ≤ maxLen) (name : ByteArray) (w : World) (S : BSet) (cn ci : Value) (bo bm : Nat) (hS : ∀ b o, S b o → Cln o) (hM : ∀ b ∈ [bo, bm], ∀ o, ¬ S b o) (hne : bo ≠ bm) (hv : Rd w S (strsD x.ns) cn) (hu : Rd w S (valsD x.xs) ci) (own_bo : Own w bo [.int .u8 x.k, .int .i64 x.n, .string x.t, cn, ci, .map (some bm), .int .i64 (e)] 74) (own_bm : OwnM w bm A) : Calls Try.prog 43 #[.pointer (some ⟨bo, 0, none⟩), .string name] w (RetL w [bo, bm] fun u W => u = .string (if tkB x e name textE then textV (getV x name) else ⟨#[]⟩) ∧ Own W bo [.int .u8 x.k, .int .i64 x.n, .string x.t, cn, ci, .map (some bm), .int .i64 (tkE x e name textE)] 74 ∧ OwnM W bm (tkA x A e name textE)) := by
  obtain ⟨cna, cnc, ev, D_cn⟩ := rdS_out (rd_argM (M := [bo, bm]) hv hM)
  subst ev
  obtain ⟨cia, cic, ev, D_ci⟩ := rdVs_out (rd_argM (M := [bo, bm]) hu hM)
  subst ev
  refine enter Try.func43 rfl Try.ntmps43 (lbr rfl) fun a0 y0 zz0 harg => ?_
  have e0 : sl a0 0 = (.pointer (some ⟨bo, 0, none⟩)) := harg 0 (lbr rfl)
  have e1 : sl a0 1 = (.string (name)) := harg 1 (lbr rfl)
  have kw := Keeps.refl (fun k => k ∉ [bo, bm]) w
  clear harg
  refine wp_seq_k fun K1 hK1 => ?_
  refine rg mixed y0 zz0 ?_
  refine .i (sp_assign Has.cst) ?_
  refine .done ⟨by kernel_rfl, fun a2 g W2 y2 zz2 hk hg hV hR hP => ?_⟩
  obtain ⟨-, -⟩ := hV
  replace e0 := (hR 0 rfl).trans e0
  replace e1 := (hR 1 rfl).trans e1
  replace D_cn := D_cn.ext hk
  replace D_ci := D_ci.ext hk
  replace own_bo := own_bo.ext hk
  replace own_bm := own_bm.ext hk
  replace kw := kw.x hk
  clear hR hk hg hP
  refine tail_nil (hK1 _ _ ?_)
  refine wp_seq_k fun K3 hK3 => ?_
  refine wp_reg (fun k => k ∉ [bo, bm]) (Ψ := fun W => Own W bo [(.int .u8 (x.k)), (.int .i64 (x.n)), (.string (x.t)), (.slice cna (x.ns.length) cnc), (.slice cia (x.xs.length) cic), (.map (some bm)), (.int .i64 (e))] 74 ∧ OwnM W bm (A)) mixed y2 zz2 (stE_and stE_own stE_ownM) ⟨own_bo, own_bm⟩ ?_
  refine .i (sp_move (hbs rfl e0)) ?_
  refine .i (sp_move (hbs rfl e1)) ?_
  refine .callL3 (φ1 := Is (.pointer (some ⟨bo, 0, none⟩))) (φ2 := Is (.string (name))) (φ3 := Is (.func (.func 103) #[] #[])) (φ := Is (.string (if tkB x e name textE then textV (getV x name) else ⟨#[]⟩))) (Ψ' := fun W => Own W bo [(.int .u8 (x.k)), (.int .i64 (x.n)), (.string (x.t)), (.slice cna (x.ns.length) cnc), (.slice cia (x.xs.length) cic), (.map (some bm)), (.int .i64 (tkE x e name textE))] 74 ∧ OwnM W bm (tkA x A e name textE)) ent102 (hlc rfl) (hlc rfl) Has.fn (st_is _) (stE_and stE_own stE_ownM) (fun g u1 u2 u3 W hk hg h1 h2 h3 hP => by have h1 : u1 = _ := h1; subst u1; have h2 : u2 = _ := h2; subst u2; have h3 : u3 = _ := h3; subst u3; exact (takeT_ok (x) (A) (e) hA hx hxt name 103 #[] textE textV W _ _ _ _ _ (sa_cln hS) (sa_notin (by simp)) hne (sa_keepL D_cn hk (by simp)) (sa_keepL D_ci hk (by simp)) hP.1 hP.2 ent103 (fun W2 hk2 y v hy hv2 => text1_ok y (by obtain ⟨_, _, _, _, _, h, _⟩ := rdV_out hv2; exact h) W2 _ v hv2))) ?_
  refine .i (sp_assign (hlc rfl)) ?_
  refine .done ⟨by kernel_rfl, fun a4 g W4 y4 zz4 hk hg hV hR hP => ?_⟩
  obtain ⟨e4, -, -, -, -⟩ := hV
  replace e4 := e4.q
  replace D_cn := sa_keepL D_cn hk (by simp)
  replace D_ci := sa_keepL D_ci hk (by simp)
  obtain ⟨own_bo, own_bm⟩ := hP
  replace own_bo : Own W4 bo [(.int .u8 (x.k)), (.int .i64 (x.n)), (.string (x.t)), (.slice cna (x.ns.length) cnc), (.slice cia (x.xs.length) cic), (.map (some bm)), (.int .i64 (tkE x e name textE))] 74 := own_bo
  replace own_bm : OwnM W4 bm (tkA x A e name textE) := own_bm
  replace kw := keeps_L kw hk (in_cons (.inr (by simp)) (in_cons (.inr (by simp)) in_nil))
  clear hR hk hg
  refine tail_nil (hK3 _ _ ?_)
  refine wp_ret ?_
  refine (show bodyPost Try.prog Try.f43 _ .ret _ _ from ret1 rfl zz4 e4 ⟨_, rfl, kw, ?_⟩)
  exact ⟨rfl, own_bo, own_bm⟩
set_option maxRecDepth 100000 in
theorem TextD_ok (k : Nat) (n : Int) (t : ByteArray) (cn ci mv : Value) (e : Int) (hE : errK k e ≠ 0) (name : ByteArray) (w : World) (bo : Nat) (own_bo : Own w bo [.int .u8 k, .int .i64 n, .string t, cn, ci, mv, .int .i64 e] 74) : Calls Try.prog 43 #[.pointer (some ⟨bo, 0, none⟩), .string name] w (Ret w fun u _ => u = .string ⟨#[]⟩) := by
  refine enter Try.func43 rfl Try.ntmps43 (lbr rfl) fun a0 y0 zz0 harg => ?_
  have e0 : sl a0 0 = (.pointer (some ⟨bo, 0, none⟩)) := harg 0 (lbr rfl)
  have e1 : sl a0 1 = (.string (name)) := harg 1 (lbr rfl)
  have kw := Keeps.refl All w
  clear harg
  refine wp_seq_k fun K1 hK1 => ?_
  refine rg mixed y0 zz0 ?_
  refine .i (sp_assign Has.cst) ?_
  refine .done ⟨by kernel_rfl, fun a2 g W2 y2 zz2 hk hg hV hR hP => ?_⟩
  obtain ⟨-, -⟩ := hV
  replace e0 := (hR 0 rfl).trans e0
  replace e1 := (hR 1 rfl).trans e1
  replace own_bo := own_bo.ext hk
  replace kw := kw.x hk
  clear hR hk hg hP
  refine tail_nil (hK1 _ _ ?_)
  refine wp_seq_k fun K3 hK3 => ?_
  refine rg mixed y2 zz2 ?_
  refine .i (sp_move (hbs rfl e0)) ?_
  refine .i (sp_move (hbs rfl e1)) ?_
  refine .i (v := (.string (⟨#[]⟩))) (sp_call3 (φ1 := Is (.pointer (some ⟨bo, 0, none⟩))) (φ2 := Is (.string (name))) (φ3 := Is (.func (.func 103) #[] #[])) ent102 (hlc rfl) (hlc rfl) Has.fn (fun g u1 u2 u3 W hk hgk h1 h2 h3 => by have h1 : u1 = _ := h1; subst u1; have h2 : u2 = _ := h2; subst u2; have h3 : u3 = _ := h3; subst u3; exact takeTD_ok _ _ _ _ _ _ _ hE _ _ W _ (own_bo.ext hk))) ?_
  refine .i (sp_assign (hlc rfl)) ?_
  refine .done ⟨by kernel_rfl, fun a4 g W4 y4 zz4 hk hg hV hR hP => ?_⟩
  obtain ⟨e4, -, -, -, -⟩ := hV
  have e4 : sl a4 4 = (.string (⟨#[]⟩)) := e4
  replace own_bo := own_bo.ext hk
  replace kw := kw.x hk
  clear hR hk hg hP
  refine tail_nil (hK3 _ _ ?_)
  refine wp_ret ?_
  refine (show bodyPost Try.prog Try.f43 _ .ret _ _ from ret1 rfl zz4 e4 ⟨_, rfl, kw, ?_⟩)
  exact rfl
set_option maxRecDepth 100000 in
theorem bool1_ok (x : V) (hxt : x.t.size ≤ maxLen) (w : World) (S : BSet) (v : Value) (hv : Rd w S x.d v) : Calls Try.prog 107 #[v] w (Ret w fun r _ => r = .tuple #[.bool (boolV x), .int .i64 (boolE x)]) := by
  obtain ⟨cn0a, cn0c, ci0a, ci0c, ev, ht0, D_cn0, D_ci0⟩ := rdV_out (rd_arg hv)
  subst ev
  refine enter Try.func107 rfl Try.ntmps107 (lbr rfl) fun a0 y0 zz0 harg => ?_
  have e0 : sl a0 0 = (.agg #[(.int .u8 (x.k)), (.int .i64 (x.n)), (.string (x.t)), (.slice cn0a (x.ns.length) cn0c), (.slice ci0a (x.xs.length) ci0c)]) := harg 0 (lbr rfl)
  have kw := Keeps.refl All w
  clear harg
  refine wp_seq_k fun K1 hK1 => ?_
  refine rg mixed y0 zz0 ?_
  refine .boxOp (v := (.agg #[(.int .u8 (x.k)), (.int .i64 (x.n)), (.string (x.t)), (.slice cn0a (x.ns.length) cn0c), (.slice ci0a (x.xs.length) ci0c)])) (hbs rfl e0) ?_
  refine .i (sp_assign Has.cst) ?_
  refine .i (sp_assign Has.cst) ?_
  refine .done ⟨by kernel_rfl, fun a2 g W2 y2 zz2 hk hg hV hR hP => ?_⟩
  obtain ⟨-, -, ⟨b1_2, e1, hb1, own_b1_2⟩, -⟩ := hV
  have lo_b1_2 : w.heap.size ≤ b1_2 := Nat.le_trans kw.size (hg.lo _ _ hb1)
  have own_b1_2 : Own W2 b1_2 [(.int .u8 (x.k)), (.int .i64 (x.n)), (.string (x.t)), (.slice cn0a (x.ns.length) cn0c), (.slice ci0a (x.xs.length) ci0c)] 33 := own_b1_2
  replace D_cn0 := sa_more D_cn0 hk [b1_2] (in_cons (hg.lo _ _ hb1) in_nil)
  replace D_ci0 := sa_more D_ci0 hk [b1_2] (in_cons (hg.lo _ _ hb1) in_nil)
  replace kw := kw.x hk
  clear hR hk hg hP hb1
  refine tail_nil (hK1 _ _ ?_)
  refine wp_seq_k fun K3 hK3 => ?_
  refine wp_seq_k fun K4 hK4 => ?_
  refine rg mixed y2 zz2 ?_
  refine .i (fo 0 (hbs rfl e1) Try.underlying33 rfl sz5 rfl) ?_
  refine .i (lo1 (hlc rfl) own_b1_2 trivial agg5 sz5 rfl) ?_
  refine .i (sp_neq (hlc rfl) Has.cst) ?_
  refine .done ⟨by kernel_rfl, fun a5 g W5 y5 zz5 hk hg hV hR hP => ?_⟩
  obtain ⟨e6, -, -, -⟩ := hV
  replace e1 := (hR 1 rfl).trans e1
  replace D_cn0 := D_cn0.ext hk
  replace D_ci0 := D_ci0.ext hk
  have e6 : sl a5 6 = (.bool ((x.k : Int) != (1 : Int))) := e6
  replace own_b1_2 := own_b1_2.ext hk
  replace kw := kw.x hk
  clear hR hk hg hP
  refine tail_nil (hK4 _ _ ?_)
  refine wp_cond_split e6 (fun hc => ?_) (fun hc => ?_)
  ·
   have hk : x.k ≠ 1 := by simp at hc; omega
   have hf : boolE x = 10 := by rw [boolE, if_pos hk]
   have hv2 : boolV x = false := by rw [boolV, hf]; rfl
   refine wp_seq_k fun K6 hK6 => ?_
   refine rg mixed y5 zz5 ?_
   refine .i (sp_assign Has.cst) ?_
   refine .i (sp_assign Has.cst) ?_
   refine .done ⟨by kernel_rfl, fun a7 g W7 y7 zz7 hk hg hV hR hP => ?_⟩
   obtain ⟨e3, e2, -⟩ := hV
   replace D_cn0 := D_cn0.ext hk
   replace D_ci0 := D_ci0.ext hk
   have e2 : sl a7 2 = (.bool (false)) := e2
   have e3 : sl a7 3 = (.int .i64 (10)) := e3
   replace own_b1_2 := own_b1_2.ext hk
   replace kw := kw.x hk
   clear hR hk hg hP
   refine tail_nil (hK6 _ _ ?_)
   refine wp_ret ?_
   refine (show bodyPost Try.prog Try.f107 _ .ret _ _ from ret2 rfl zz7 e2 e3 ⟨_, rfl, kw, ?_⟩)
   rw [hf, hv2]
  ·
   have hk : ¬ x.k ≠ 1 := by simp at hc; omega
   have hf : boolE x = 0 := by rw [boolE, if_neg hk]
   have hv2 : boolV x = (x.n == 1) := by rw [boolV, if_pos hf]
   refine wp_skip (hK3 _ _ ?_)
   refine wp_seq_k fun K8 hK8 => ?_
   refine rg mixed y5 zz5 ?_
   refine .i (fo 1 (hbs rfl e1) Try.underlying33 rfl sz2 rfl) ?_
   refine .i (lo1 (hlc rfl) own_b1_2 trivial agg2 sz2 rfl) ?_
   refine .i (sp_eql (hlc rfl) Has.cst) ?_
   refine .i (sp_assign (hlc rfl)) ?_
   refine .i (sp_assign Has.cst) ?_
   refine .done ⟨by kernel_rfl, fun a9 g W9 y9 zz9 hk hg hV hR hP => ?_⟩
   obtain ⟨e3, e2, -, -, -, -⟩ := hV
   replace D_cn0 := D_cn0.ext hk
   replace D_ci0 := D_ci0.ext hk
   have e2 : sl a9 2 = (.bool ((x.n : Int) == (1 : Int))) := e2
   have e3 : sl a9 3 = (.int .i64 (0)) := e3
   replace own_b1_2 := own_b1_2.ext hk
   replace kw := kw.x hk
   clear hR hk hg hP
   refine tail_nil (hK8 _ _ ?_)
   refine wp_ret ?_
   refine (show bodyPost Try.prog Try.f107 _ .ret _ _ from ret2 rfl zz9 e2 e3 ⟨_, rfl, kw, ?_⟩)
   rw [hf, hv2]
set_option maxRecDepth 100000 in
theorem takeB_ok (x : V) (A : As) (e : Int) (hA : AB 1000000 A) (hx : x.wt ≤ 1073741824) (hxt : x.t.size ≤ maxLen) (name : ByteArray) (fi : FuncId) (cb : Array Value) (ce : V → Int) (fv : V → Bool) (w : World) (S : BSet) (cn ci : Value) (bo bm : Nat) (hS : ∀ b o, S b o → Cln o) (hM : ∀ b ∈ [bo, bm], ∀ o, ¬ S b o) (hne : bo ≠ bm) (hv : Rd w S (strsD x.ns) cn) (hu : Rd w S (valsD x.xs) ci) (own_bo : Own w bo [.int .u8 x.k, .int .i64 x.n, .string x.t, cn, ci, .map (some bm), .int .i64 (e)] 74) (own_bm : OwnM w bm A) (ef : Enters Try.prog fi) (hf : ∀ W, Keeps (fun k => k ∉ [bo, bm]) w W → ∀ (y : V) (v : Value), y.wt ≤ 1073741824 → Rd W (Fr w) y.d v → Calls Try.prog fi (#[v] ++ cb) W (Ret W fun r _ => r = .tuple #[.bool (fv y), .int .i64 (ce y)])) : Calls Try.prog 106 #[.pointer (some ⟨bo, 0, none⟩), .string name, .func (.func fi) #[] cb] w (RetL w [bo, bm] fun u W => u = .bool (if tkB x e name ce then fv (getV x name) else false) ∧ Own W bo [.int .u8 x.k, .int .i64 x.n, .string x.t, cn, ci, .map (some bm), .int .i64 (tkE x e name ce)] 74 ∧ OwnM W bm (tkA x A e name ce)) := by
  have hwx := wt_eq x
  have hwl := wts_len x.xs
  have hwn := wtN_len x.ns
  obtain ⟨cna, cnc, ev, D_cn⟩ := rdS_out (rd_argM (M := [bo, bm]) hv hM)
  subst ev
  obtain ⟨cia, cic, ev, D_ci⟩ := rdVs_out (rd_argM (M := [bo, bm]) hu hM)
  subst ev
  refine enter Try.func106 rfl Try.ntmps106 (lbr rfl) fun a0 y0 zz0 harg => ?_
  have e0 : sl a0 0 = (.pointer (some ⟨bo, 0, none⟩)) := harg 0 (lbr rfl)
  have e1 : sl a0 1 = (.string (name)) := harg 1 (lbr rfl)
  have e2 : sl a0 2 = (.func (.func fi) #[] cb) := harg 2 (lbr rfl)
  have kw := Keeps.refl (fun k => k ∉ [bo, bm]) w
  clear harg
  refine wp_seq_k fun K1 hK1 => ?_
  refine rg mixed y0 zz0 ?_
  refine .i (sp_assign Has.cst) ?_
  refine .done ⟨by kernel_rfl, fun a2 g W2 y2 zz2 hk hg hV hR hP => ?_⟩
  obtain ⟨-, -⟩ := hV
  replace e0 := (hR 0 rfl).trans e0
  replace e1 := (hR 1 rfl).trans e1
  replace e2 := (hR 2 rfl).trans e2
  replace D_cn := D_cn.ext hk
  replace D_ci := D_ci.ext hk
  replace own_bo := own_bo.ext hk
  replace own_bm := own_bm.ext hk
  replace kw := kw.x hk
  clear hR hk hg hP
  refine tail_nil (hK1 _ _ ?_)
  refine wp_seq_k fun K3 hK3 => ?_
  refine rg mixed y2 zz2 ?_
  refine .i (sp_assign Has.cst) ?_
  refine .done ⟨by kernel_rfl, fun a4 g W4 y4 zz4 hk hg hV hR hP => ?_⟩
  obtain ⟨e7, -⟩ := hV
  replace e0 := (hR 0 rfl).trans e0
  replace e1 := (hR 1 rfl).trans e1
  replace e2 := (hR 2 rfl).trans e2
  replace D_cn := D_cn.ext hk
  replace D_ci := D_ci.ext hk
  have e7 : sl a4 7 = (.bool (false)) := e7
  replace own_bo := own_bo.ext hk
  replace own_bm := own_bm.ext hk
  replace kw := kw.x hk
  clear hR hk hg hP
  refine tail_nil (hK3 _ _ ?_)
  refine wp_seq_k fun K5 hK5 => ?_
  refine wp_seq_k fun K6 hK6 => ?_
  refine rg mixed y4 zz4 ?_
  refine .i (sp_move (hbs rfl e0)) ?_
  refine .i (v := (.int .i64 (errK x.k e))) (sp_call1 (φ1 := Is (.pointer (some ⟨bo, 0, none⟩))) ent24 (hlc rfl) (fun g u1 W hk hgk h1 => by have h1 : u1 = _ := h1; subst u1; exact Err_ok _ _ _ _ _ _ _ W _ (own_bo.ext hk))) ?_
  refine .i (sp_neq (hlc rfl) Has.cst) ?_
  refine .done ⟨by kernel_rfl, fun a7 g W7 y7 zz7 hk hg hV hR hP => ?_⟩
  obtain ⟨e14, -, -, -⟩ := hV
  replace e0 := (hR 0 rfl).trans e0
  replace e1 := (hR 1 rfl).trans e1
  replace e2 := (hR 2 rfl).trans e2
  replace e7 := (hR 7 rfl).trans e7
  replace D_cn := D_cn.ext hk
  replace D_ci := D_ci.ext hk
  replace e14 := e14.q
  replace own_bo := own_bo.ext hk
  replace own_bm := own_bm.ext hk
  replace kw := kw.x hk
  clear hR hk hg hP
  refine tail_nil (hK6 _ _ ?_)
  refine wp_cond_split e14 (fun hc => ?_) (fun hc => ?_)
  ·
   have hE : errK x.k e ≠ 0 := by simpa using hc
   have h1 : tkE x e name ce = e := by rw [tkE, if_pos hE]
   have h2 : tkB x e name ce = false := by simp [tkB, hE]
   have h3 : tkA x A e name ce = A := by rw [tkA, h2]; rfl
   refine wp_seq_k fun K8 hK8 => ?_
   refine rg mixed y7 zz7 ?_
   refine .i (sp_move (hbs rfl e7)) ?_
   refine .i (sp_assign (hlc rfl)) ?_
   refine .done ⟨by kernel_rfl, fun a9 g W9 y9 zz9 hk hg hV hR hP => ?_⟩
   obtain ⟨e6, -, -⟩ := hV
   replace D_cn := D_cn.ext hk
   replace D_ci := D_ci.ext hk
   have e6 : sl a9 6 = (.bool (false)) := e6
   replace own_bo := own_bo.ext hk
   replace own_bm := own_bm.ext hk
   replace kw := kw.x hk
   clear hR hk hg hP
   refine tail_nil (hK8 _ _ ?_)
   refine wp_ret ?_
   refine (show bodyPost Try.prog Try.f106 _ .ret _ _ from ret1 rfl zz9 e6 ⟨_, rfl, kw, ?_⟩)
   rw [h1, h3, h2]
   exact ⟨rfl, own_bo, own_bm⟩
  ·
   have hE : errK x.k e = 0 := by simpa using hc
   have he0 := (errK_zero hE).1
   refine wp_skip (hK5 _ _ ?_)
   refine wp_seq_k fun K10 hK10 => ?_
   refine rg mixed y7 zz7 ?_
   refine .i (sp_move (hbs rfl e0)) ?_
   refine .i (sp_nilP (hlc rfl)) ?_
   refine .i (fo 0 (hlc rfl) Try.underlying74 rfl sz33 rfl) ?_
   refine .i (v := (.agg #[(.int .u8 (x.k)), (.int .i64 (x.n)), (.string (x.t)), (.slice cna (x.ns.length) cnc), (.slice cia (x.xs.length) cic)])) (loA (hlc rfl) own_bo trivial agg33 sz33 rfl rfl) ?_
   refine .i (sp_move (hbs rfl e1)) ?_
   refine .op (φ := IsT (IsD (Fr W7) (V.d (getV (x) name))) (Is (.bool (getB (x) name)))) (st_t (st_d sub_all) (st_is _)) (sp_call2 (φ1 := IsD (SA w S [bo, bm]) (V.d (x))) (φ2 := Is (.string (name))) ent101 ((hlc rfl).dat (rdV_in (x := x) hxt D_cn D_ci : Rd W7 (SA w S [bo, bm]) (V.d (x)) _) sub_all) (hlc rfl) (fun g u1 u2 W hk hgk h1 h2 => by have h2 : u2 = _ := h2; subst u2; exact (Get_ok (x) (name) (by omega) W _ _ (fun b o h => sa_cln hS b o h.1) h1).mono (fun _ _ ⟨v, h1, h2, r1, h3, h4⟩ => ⟨v, h1, h2, r1, _, h3, fresh_d hk hgk h4, rfl⟩))) ?_
   refine .op (φ := IsT (IsD (Fr W7) (V.d (getV (x) name))) (Is (.bool (getB (x) name)))) (st_t (st_d sub_all) (st_is _)) (sp_move (hlc rfl)) ?_
   refine .da (X := Fr W7) (e := V.d (getV (x) name)) (sp_ext2 (hlc rfl) rfl) ?_
   refine .i (v := (.bool (getB (x) name))) (sp_ext2' (hlc rfl) rfl) ?_
   refine .alloc z33 ?_
   refine .done ⟨by kernel_rfl, fun a11 g W11 y11 zz11 hk hg hV hR hP => ?_⟩
   obtain ⟨⟨b8_11, e8, hb8, own_b8_11⟩, e24, e23, -, -, -, -, -, -, -, -⟩ := hV
   have lo_b8_11 : w.heap.size ≤ b8_11 := Nat.le_trans kw.size (hg.lo _ _ hb8)
   have ne_bo_b8_11 : bo ≠ b8_11 := Nat.ne_of_lt (Nat.lt_of_lt_of_le own_bo.lt (hg.lo _ _ hb8))
   have ne_bm_b8_11 : bm ≠ b8_11 := Nat.ne_of_lt (Nat.lt_of_lt_of_le own_bm.lt (hg.lo _ _ hb8))
   have own_b8_11 : Own W11 b8_11 [(.int .u8 (0)), (.int .i64 (0)), (.string (⟨#[]⟩)), (.slice none 0 0), (.slice none 0 0)] 33 := own_b8_11
   replace e0 := (hR 0 rfl).trans e0
   replace e1 := (hR 1 rfl).trans e1
   replace e2 := (hR 2 rfl).trans e2
   replace e7 := (hR 7 rfl).trans e7
   replace D_cn := sa_more D_cn hk [b8_11] (in_cons (hg.lo _ _ hb8) in_nil)
   replace D_ci := sa_more D_ci hk [b8_11] (in_cons (hg.lo _ _ hb8) in_nil)
   obtain ⟨v23_11, ev⟩ : ∃ v, sl a11 23 = v := ⟨_, rfl⟩
   rw [ev] at e23
   have D_v23_11 : Rd W11 (SF w [b8_11, bo, bm]) (V.d (getV (x) name)) v23_11 := fr_end (M := [bo, bm]) e23 kw [b8_11] (in_cons ⟨_, hb8⟩ in_nil) (in_cons own_bo.lt (in_cons own_bm.lt in_nil))
   replace e23 := ev; clear ev
   obtain ⟨cn23_11a, cn23_11c, ci23_11a, ci23_11c, ev, ht_v23_11, D_cn23_11, D_ci23_11⟩ := rdV_out D_v23_11
   subst ev; clear D_v23_11
   have e24 : sl a11 24 = (.bool (getB (x) name)) := e24
   replace own_bo := own_bo.ext hk
   replace own_bm := own_bm.ext hk
   replace kw := kw.x hk
   clear hR hk hg hP hb8
   refine tail_store (b := b8_11) (o := 0) (v := (.agg #[(.int .u8 ((getV (x) name).k)), (.int .i64 ((getV (x) name).n)), (.string ((getV (x) name).t)), (.slice cn23_11a (((getV (x) name).ns).length) cn23_11c), (.slice ci23_11a (((getV (x) name).xs).length) ci23_11c)])) e8 e23 sz33 rfl own_b8_11 (lbr rfl) (all_cons rfl (all_cons rfl (all_cons rfl (all_cons rfl (all_cons rfl all_nil))))) (fun W12 hs own_b8_11 => ?_)
   have own_b8_11 : Own W12 b8_11 [(.int .u8 ((getV (x) name).k)), (.int .i64 ((getV (x) name).n)), (.string ((getV (x) name).t)), (.slice cn23_11a (((getV (x) name).ns).length) cn23_11c), (.slice ci23_11a (((getV (x) name).xs).length) ci23_11c)] 33 := own_b8_11
   replace own_bo := own_store own_bo hs ne_bo_b8_11
   replace own_bm := ownM_store own_bm hs ne_bm_b8_11
   replace D_cn := sa_store D_cn hs (by simp)
   replace D_ci := sa_store D_ci hs (by simp)
   replace D_cn23_11 := sf_store D_cn23_11 hs (by simp)
   replace D_ci23_11 := sf_store D_ci23_11 hs (by simp)
   replace kw := keeps_store kw hs lo_b8_11
   clear hs
   refine tail_assign (v := (.bool (getB (x) name))) e24 (by rw [y11]; exact Nat.le_of_ble_eq_true rfl) (fun a13 y13 zz13 e9 hr => ?_)
   replace y13 := y13.trans y11; replace zz13 := zz13.trans zz11
   replace e0 := (hr 0 (by decide)).trans e0
   replace e1 := (hr 1 (by decide)).trans e1
   replace e2 := (hr 2 (by decide)).trans e2
   replace e7 := (hr 7 (by decide)).trans e7
   replace e8 := (hr 8 (by decide)).trans e8
   replace e23 := (hr 23 (by decide)).trans e23
   replace e24 := (hr 24 (by decide)).trans e24
   clear hr
   refine tail_nil (hK10 _ _ ?_)
   refine wp_seq_k fun K14 hK14 => ?_
   refine wp_seq_k fun K15 hK15 => ?_
   refine rg mixed y13 zz13 ?_
   refine .i (sp_move (hbs rfl e9)) ?_
   refine .i (sp_not (hlc rfl)) ?_
   refine .done ⟨by kernel_rfl, fun a16 g W16 y16 zz16 hk hg hV hR hP => ?_⟩
   obtain ⟨e26, -, -⟩ := hV
   replace e0 := (hR 0 rfl).trans e0
   replace e1 := (hR 1 rfl).trans e1
   replace e2 := (hR 2 rfl).trans e2
   replace e7 := (hR 7 rfl).trans e7
   replace e8 := (hR 8 rfl).trans e8
   replace D_cn := D_cn.ext hk
   replace D_ci := D_ci.ext hk
   replace D_cn23_11 := D_cn23_11.ext hk
   replace D_ci23_11 := D_ci23_11.ext hk
   have e26 : sl a16 26 = (.bool (!(getB (x) name))) := e26
   replace own_bo := own_bo.ext hk
   replace own_bm := own_bm.ext hk
   replace own_b8_11 := own_b8_11.ext hk
   replace kw := kw.x hk
   clear hR hk hg hP
   refine tail_nil (hK15 _ _ ?_)
   refine wp_cond_split e26 (fun hc => ?_) (fun hc => ?_)
   ·
    have hg0 : getB x name = false := by simpa using hc
    have h1 : tkE x e name ce = failK x.k e 6 := by rw [tkE, if_neg (by simp [hE]), if_pos hg0, failK, if_pos hE]
    have h2 : tkB x e name ce = false := by simp [tkB, hg0]
    have h3 : tkA x A e name ce = A := by rw [tkA, h2]; rfl
    refine wp_seq_k fun K17 hK17 => ?_
    refine wp_reg (fun k => k ∉ [bo]) (Ψ := fun W => Own W bo [(.int .u8 (x.k)), (.int .i64 (x.n)), (.string (x.t)), (.slice cna (x.ns.length) cnc), (.slice cia (x.xs.length) cic), (.map (some bm)), (.int .i64 (e))] 74) mixed y16 zz16 stE_own own_bo ?_
    refine .i (sp_move (hbs rfl e0)) ?_
    refine .callL2 (φ1 := Is (.pointer (some ⟨bo, 0, none⟩))) (φ2 := Is (.int .i64 (6))) (φ := Is (.tuple #[])) (Ψ' := fun W => Own W bo [(.int .u8 (x.k)), (.int .i64 (x.n)), (.string (x.t)), (.slice cna (x.ns.length) cnc), (.slice cia (x.xs.length) cic), (.map (some bm)), (.int .i64 (failK x.k e 6))] 74) ent22 (hlc rfl) Has.cst (st_is _) stE_own (fun g u1 u2 W hk hg h1 h2 hP => by have h1 : u1 = _ := h1; subst u1; have h2 : u2 = _ := h2; subst u2; exact (Fail_ok _ _ _ _ _ _ _ (6) W _ hP)) ?_
    refine .done ⟨by kernel_rfl, fun a18 g W18 y18 zz18 hk hg hV hR hP => ?_⟩
    obtain ⟨-, -, -⟩ := hV
    replace e7 := (hR 7 rfl).trans e7
    replace D_cn := sa_keepL D_cn hk (by simp)
    replace D_ci := sa_keepL D_ci hk (by simp)
    replace D_cn23_11 := sf_keepL D_cn23_11 hk (by simp)
    replace D_ci23_11 := sf_keepL D_ci23_11 hk (by simp)
    replace own_bm := ownM_keepL own_bm hk (by simp [hne.symm])
    replace own_b8_11 := own_keepL own_b8_11 hk (by simp [ne_bo_b8_11.symm])
    have own_bo := hP
    replace own_bo : Own W18 bo [(.int .u8 (x.k)), (.int .i64 (x.n)), (.string (x.t)), (.slice cna (x.ns.length) cnc), (.slice cia (x.xs.length) cic), (.map (some bm)), (.int .i64 (failK x.k e 6))] 74 := own_bo
    replace kw := keeps_L kw hk (in_cons (.inr (by simp)) in_nil)
    clear hR hk hg hP
    refine tail_nil (hK17 _ _ ?_)
    refine wp_seq_k fun K19 hK19 => ?_
    refine rg mixed y18 zz18 ?_
    refine .i (sp_move (hbs rfl e7)) ?_
    refine .i (sp_assign (hlc rfl)) ?_
    refine .done ⟨by kernel_rfl, fun a20 g W20 y20 zz20 hk hg hV hR hP => ?_⟩
    obtain ⟨e6, -, -⟩ := hV
    replace D_cn := D_cn.ext hk
    replace D_ci := D_ci.ext hk
    have e6 : sl a20 6 = (.bool (false)) := e6
    replace own_bo := own_bo.ext hk
    replace own_bm := own_bm.ext hk
    replace own_b8_11 := own_b8_11.ext hk
    replace kw := kw.x hk
    clear hR hk hg hP
    refine tail_nil (hK19 _ _ ?_)
    refine wp_ret ?_
    refine (show bodyPost Try.prog Try.f106 _ .ret _ _ from ret1 rfl zz20 e6 ⟨_, rfl, kw, ?_⟩)
    rw [h1, h3, h2]
    exact ⟨rfl, own_bo, own_bm⟩
   ·
    have hg1 : getB x name = true := by simpa using hc
    have hAn := hA name
    have hwg := Nat.le_trans (getV_wt x name) hx
    refine wp_skip (hK14 _ _ ?_)
    refine wp_seq_k fun K21 hK21 => ?_
    refine rg mixed y16 zz16 ?_
    refine .i (sp_move (hbs rfl e2)) ?_
    refine .i (v := (.agg #[(.int .u8 ((getV (x) name).k)), (.int .i64 ((getV (x) name).n)), (.string ((getV (x) name).t)), (.slice cn23_11a (((getV (x) name).ns).length) cn23_11c), (.slice ci23_11a (((getV (x) name).xs).length) ci23_11c)])) (loA (hbs rfl e8) own_b8_11 trivial agg33 sz33 rfl rfl) ?_
    refine .i (v := (.tuple #[(.bool (fv (getV x name))), (.int .i64 (ce (getV x name)))])) (sp_callF1 ef (hlc rfl) (hlc rfl) (fun g W hk hgk => hf W (kw.trans (.of_ext hk)) _ _ hwg (sf_fr (Rd.ext (rdV_in (x := (getV (x) name)) ht_v23_11 D_cn23_11 D_ci23_11 : Rd W16 (SF w [b8_11, bo, bm]) (V.d ((getV (x) name))) _) hk)))) ?_
    refine .i (sp_move (hlc rfl)) ?_
    refine .i (v := (.bool (fv (getV x name)))) (sp_extT (hlc rfl) rfl) ?_
    refine .i (v := (.int .i64 (ce (getV x name)))) (sp_extT (hlc rfl) rfl) ?_
    refine .i (sp_assign (hlc rfl)) ?_
    refine .i (sp_assign (hlc rfl)) ?_
    refine .done ⟨by kernel_rfl, fun a22 g W22 y22 zz22 hk hg hV hR hP => ?_⟩
    obtain ⟨e11, e10, -, -, -, -, -, -, -⟩ := hV
    replace e0 := (hR 0 rfl).trans e0
    replace e1 := (hR 1 rfl).trans e1
    replace e7 := (hR 7 rfl).trans e7
    replace D_cn := D_cn.ext hk
    replace D_ci := D_ci.ext hk
    replace D_cn23_11 := D_cn23_11.ext hk
    replace D_ci23_11 := D_ci23_11.ext hk
    have e10 : sl a22 10 = (.bool (fv (getV x name))) := e10
    have e11 : sl a22 11 = (.int .i64 (ce (getV x name))) := e11
    replace own_bo := own_bo.ext hk
    replace own_bm := own_bm.ext hk
    replace own_b8_11 := own_b8_11.ext hk
    replace kw := kw.x hk
    clear hR hk hg hP
    refine tail_nil (hK21 _ _ ?_)
    refine wp_seq_k fun K23 hK23 => ?_
    refine wp_seq_k fun K24 hK24 => ?_
    refine rg mixed y22 zz22 ?_
    refine .i (sp_move (hbs rfl e11)) ?_
    refine .i (sp_neq (hlc rfl) Has.cst) ?_
    refine .done ⟨by kernel_rfl, fun a25 g W25 y25 zz25 hk hg hV hR hP => ?_⟩
    obtain ⟨e37, -, -⟩ := hV
    replace e0 := (hR 0 rfl).trans e0
    replace e1 := (hR 1 rfl).trans e1
    replace e7 := (hR 7 rfl).trans e7
    replace e10 := (hR 10 rfl).trans e10
    replace e11 := (hR 11 rfl).trans e11
    replace D_cn := D_cn.ext hk
    replace D_ci := D_ci.ext hk
    replace e37 := e37.q
    replace own_bo := own_bo.ext hk
    replace own_bm := own_bm.ext hk
    replace own_b8_11 := own_b8_11.ext hk
    replace kw := kw.x hk
    clear hR hk hg hP
    refine tail_nil (hK24 _ _ ?_)
    refine wp_cond_split e37 (fun hc => ?_) (fun hc => ?_)
    ·
     have hce : ce (getV x name) ≠ 0 := by simpa using hc
     have h1 : tkE x e name ce = failK x.k e (ce (getV x name)) := by rw [tkE, if_neg (by simp [hE]), if_neg (by simp [hg1]), failK, if_pos hE]
     have h2 : tkB x e name ce = false := by simp [tkB, hce]
     have h3 : tkA x A e name ce = A := by rw [tkA, h2]; rfl
     refine wp_seq_k fun K26 hK26 => ?_
     refine wp_reg (fun k => k ∉ [bo]) (Ψ := fun W => Own W bo [(.int .u8 (x.k)), (.int .i64 (x.n)), (.string (x.t)), (.slice cna (x.ns.length) cnc), (.slice cia (x.xs.length) cic), (.map (some bm)), (.int .i64 (e))] 74) mixed y25 zz25 stE_own own_bo ?_
     refine .i (sp_move (hbs rfl e0)) ?_
     refine .i (sp_move (hbs rfl e11)) ?_
     refine .callL2 (φ1 := Is (.pointer (some ⟨bo, 0, none⟩))) (φ2 := Is (.int .i64 (ce (getV x name)))) (φ := Is (.tuple #[])) (Ψ' := fun W => Own W bo [(.int .u8 (x.k)), (.int .i64 (x.n)), (.string (x.t)), (.slice cna (x.ns.length) cnc), (.slice cia (x.xs.length) cic), (.map (some bm)), (.int .i64 (failK x.k e (ce (getV x name))))] 74) ent22 (hlc rfl) (hlc rfl) (st_is _) stE_own (fun g u1 u2 W hk hg h1 h2 hP => by have h1 : u1 = _ := h1; subst u1; have h2 : u2 = _ := h2; subst u2; exact (Fail_ok _ _ _ _ _ _ _ (ce (getV x name)) W _ hP)) ?_
     refine .done ⟨by kernel_rfl, fun a27 g W27 y27 zz27 hk hg hV hR hP => ?_⟩
     obtain ⟨-, -, -, -⟩ := hV
     replace e7 := (hR 7 rfl).trans e7
     replace D_cn := sa_keepL D_cn hk (by simp)
     replace D_ci := sa_keepL D_ci hk (by simp)
     replace own_bm := ownM_keepL own_bm hk (by simp [hne.symm])
     replace own_b8_11 := own_keepL own_b8_11 hk (by simp [ne_bo_b8_11.symm])
     have own_bo := hP
     replace own_bo : Own W27 bo [(.int .u8 (x.k)), (.int .i64 (x.n)), (.string (x.t)), (.slice cna (x.ns.length) cnc), (.slice cia (x.xs.length) cic), (.map (some bm)), (.int .i64 (failK x.k e (ce (getV x name))))] 74 := own_bo
     replace kw := keeps_L kw hk (in_cons (.inr (by simp)) in_nil)
     clear hR hk hg hP
     refine tail_nil (hK26 _ _ ?_)
     refine wp_seq_k fun K28 hK28 => ?_
     refine rg mixed y27 zz27 ?_
     refine .i (sp_move (hbs rfl e7)) ?_
     refine .i (sp_assign (hlc rfl)) ?_
     refine .done ⟨by kernel_rfl, fun a29 g W29 y29 zz29 hk hg hV hR hP => ?_⟩
     obtain ⟨e6, -, -⟩ := hV
     replace D_cn := D_cn.ext hk
     replace D_ci := D_ci.ext hk
     have e6 : sl a29 6 = (.bool (false)) := e6
     replace own_bo := own_bo.ext hk
     replace own_bm := own_bm.ext hk
     replace own_b8_11 := own_b8_11.ext hk
     replace kw := kw.x hk
     clear hR hk hg hP
     refine tail_nil (hK28 _ _ ?_)
     refine wp_ret ?_
     refine (show bodyPost Try.prog Try.f106 _ .ret _ _ from ret1 rfl zz29 e6 ⟨_, rfl, kw, ?_⟩)
     rw [h1, h3, h2]
     exact ⟨rfl, own_bo, own_bm⟩
    ·
     have hce : ce (getV x name) = 0 := by simpa using hc
     have h1 : tkE x e name ce = e := by rw [tkE, if_neg (by simp [hE]), if_neg (by simp [hg1]), hce, he0]
     have h2 : tkB x e name ce = true := by simp [tkB, hE, hg1, hce]
     have h3 : tkA x A e name ce = mset A name (mget A name + 1) := by rw [tkA, h2]; rfl
     refine wp_skip (hK23 _ _ ?_)
     refine wp_seq_k fun K30 hK30 => ?_
     refine rg mixed y25 zz25 ?_
     refine .i (sp_move (hbs rfl e0)) ?_
     refine .i (sp_nilP (hlc rfl)) ?_
     refine .i (fo 5 (hlc rfl) Try.underlying74 rfl sz72 rfl) ?_
     refine .i (lo1 (hlc rfl) own_bo trivial agg72 sz72 rfl) ?_
     refine .i (sp_move (hbs rfl e1)) ?_
     refine .i (sp_lookup Try.underlying72 Try.underlying9 z3 (hlc rfl) (hlc rfl) own_bm trivial) ?_
     refine .i (sp_add (hlc rfl) Has.cst (i64_in (by omega))) ?_
     refine .done ⟨by kernel_rfl, fun a31 g W31 y31 zz31 hk hg hV hR hP => ?_⟩
     obtain ⟨e48, -, e46, e45, -, -, -, -⟩ := hV
     replace e10 := (hR 10 rfl).trans e10
     replace D_cn := D_cn.ext hk
     replace D_ci := D_ci.ext hk
     have e45 : sl a31 45 = (.map (some bm)) := e45
     have e46 : sl a31 46 = (.string (name)) := e46
     replace e48 := e48.q
     replace own_bo := own_bo.ext hk
     replace own_bm := own_bm.ext hk
     replace own_b8_11 := own_b8_11.ext hk
     replace kw := kw.x hk
     clear hR hk hg hP
     refine tail_updM Try.underlying72 Try.underlying9 e45 e46 e48 own_bm (fun W32 hs own_bm => ?_)
     have own_bm : OwnM W32 bm (mset A name ((mget A name : Int) + (1 : Int))) := own_bm
     replace own_bo := own_store own_bo hs hne
     replace own_b8_11 := own_store own_b8_11 hs ne_bm_b8_11.symm
     replace D_cn := sa_store D_cn hs (by simp)
     replace D_ci := sa_store D_ci hs (by simp)
     replace kw := keeps_storeN kw hs (by simp)
     clear hs
     refine tail_nil (hK30 _ _ ?_)
     refine wp_seq_k fun K33 hK33 => ?_
     refine rg mixed y31 zz31 ?_
     refine .i (sp_move (hbs rfl e10)) ?_
     refine .i (sp_assign (hlc rfl)) ?_
     refine .done ⟨by kernel_rfl, fun a34 g W34 y34 zz34 hk hg hV hR hP => ?_⟩
     obtain ⟨e6, -, -⟩ := hV
     replace D_cn := D_cn.ext hk
     replace D_ci := D_ci.ext hk
     have e6 : sl a34 6 = (.bool (fv (getV x name))) := e6
     replace own_bo := own_bo.ext hk
     replace own_bm := own_bm.ext hk
     replace own_b8_11 := own_b8_11.ext hk
     replace kw := kw.x hk
     clear hR hk hg hP
     refine tail_nil (hK33 _ _ ?_)
     refine wp_ret ?_
     refine (show bodyPost Try.prog Try.f106 _ .ret _ _ from ret1 rfl zz34 e6 ⟨_, rfl, kw, ?_⟩)
     rw [h1, h3, h2]
     exact ⟨rfl, own_bo, own_bm⟩
set_option maxRecDepth 100000 in
theorem takeBD_ok (k : Nat) (n : Int) (t : ByteArray) (cn ci mv : Value) (e : Int) (hE : errK k e ≠ 0) (name : ByteArray) (fv : Value) (w : World) (bo : Nat) (own_bo : Own w bo [.int .u8 k, .int .i64 n, .string t, cn, ci, mv, .int .i64 e] 74) : Calls Try.prog 106 #[.pointer (some ⟨bo, 0, none⟩), .string name, fv] w (Ret w fun u _ => u = .bool false) := by
  refine enter Try.func106 rfl Try.ntmps106 (lbr rfl) fun a0 y0 zz0 harg => ?_
  have e0 : sl a0 0 = (.pointer (some ⟨bo, 0, none⟩)) := harg 0 (lbr rfl)
  have e1 : sl a0 1 = (.string (name)) := harg 1 (lbr rfl)
  have e2 : sl a0 2 = fv := harg 2 (lbr rfl)
  have kw := Keeps.refl All w
  clear harg
  refine wp_seq_k fun K1 hK1 => ?_
  refine rg mixed y0 zz0 ?_
  refine .i (sp_assign Has.cst) ?_
  refine .done ⟨by kernel_rfl, fun a2 g W2 y2 zz2 hk hg hV hR hP => ?_⟩
  obtain ⟨-, -⟩ := hV
  replace e0 := (hR 0 rfl).trans e0
  replace e1 := (hR 1 rfl).trans e1
  replace e2 := (hR 2 rfl).trans e2
  replace own_bo := own_bo.ext hk
  replace kw := kw.x hk
  clear hR hk hg hP
  refine tail_nil (hK1 _ _ ?_)
  refine wp_seq_k fun K3 hK3 => ?_
  refine rg mixed y2 zz2 ?_
  refine .i (sp_assign Has.cst) ?_
  refine .done ⟨by kernel_rfl, fun a4 g W4 y4 zz4 hk hg hV hR hP => ?_⟩
  obtain ⟨e7, -⟩ := hV
  replace e0 := (hR 0 rfl).trans e0
  replace e1 := (hR 1 rfl).trans e1
  replace e2 := (hR 2 rfl).trans e2
  have e7 : sl a4 7 = (.bool (false)) := e7
  replace own_bo := own_bo.ext hk
  replace kw := kw.x hk
  clear hR hk hg hP
  refine tail_nil (hK3 _ _ ?_)
  refine wp_seq_k fun K5 hK5 => ?_
  refine wp_seq_k fun K6 hK6 => ?_
  refine rg mixed y4 zz4 ?_
  refine .i (sp_move (hbs rfl e0)) ?_
  refine .i (v := (.int .i64 (errK (k : Nat) e))) (sp_call1 (φ1 := Is (.pointer (some ⟨bo, 0, none⟩))) ent24 (hlc rfl) (fun g u1 W hk hgk h1 => by have h1 : u1 = _ := h1; subst u1; exact Err_ok _ _ _ _ _ _ _ W _ (own_bo.ext hk))) ?_
  refine .i (sp_neq (hlc rfl) Has.cst) ?_
  refine .done ⟨by kernel_rfl, fun a7 g W7 y7 zz7 hk hg hV hR hP => ?_⟩
  obtain ⟨e14, -, -, -⟩ := hV
  replace e0 := (hR 0 rfl).trans e0
  replace e1 := (hR 1 rfl).trans e1
  replace e2 := (hR 2 rfl).trans e2
  replace e7 := (hR 7 rfl).trans e7
  replace e14 := e14.q
  replace own_bo := own_bo.ext hk
  replace kw := kw.x hk
  clear hR hk hg hP
  refine tail_nil (hK6 _ _ ?_)
  refine wp_cond_split e14 (fun hc => ?_) (fun hc => ?_)
  ·
   refine wp_seq_k fun K8 hK8 => ?_
   refine rg mixed y7 zz7 ?_
   refine .i (sp_move (hbs rfl e7)) ?_
   refine .i (sp_assign (hlc rfl)) ?_
   refine .done ⟨by kernel_rfl, fun a9 g W9 y9 zz9 hk hg hV hR hP => ?_⟩
   obtain ⟨e6, -, -⟩ := hV
   have e6 : sl a9 6 = (.bool (false)) := e6
   replace own_bo := own_bo.ext hk
   replace kw := kw.x hk
   clear hR hk hg hP
   refine tail_nil (hK8 _ _ ?_)
   refine wp_ret ?_
   refine (show bodyPost Try.prog Try.f106 _ .ret _ _ from ret1 rfl zz9 e6 ⟨_, rfl, kw, ?_⟩)
   exact rfl
  ·
   exfalso
   exact hE (by simpa using hc)
set_option maxRecDepth 100000 in
theorem Bool_ok (x : V) (A : As) (e : Int) (hA : AB 1000000 A) (hx : x.wt ≤ 1073741824) (hxt : x.t.size ≤ maxLen) (name : ByteArray) (w : World) (S : BSet) (cn ci : Value) (bo bm : Nat) (hS : ∀ b o, S b o → Cln o) (hM : ∀ b ∈ [bo, bm], ∀ o, ¬ S b o) (hne : bo ≠ bm) (hv : Rd w S (strsD x.ns) cn) (hu : Rd w S (valsD x.xs) ci) (own_bo : Own w bo [.int .u8 x.k, .int .i64 x.n, .string x.t, cn, ci, .map (some bm), .int .i64 (e)] 74) (own_bm : OwnM w bm A) : Calls Try.prog 45 #[.pointer (some ⟨bo, 0, none⟩), .string name] w (RetL w [bo, bm] fun u W => u = .bool (if tkB x e name boolE then boolV (getV x name) else false) ∧ Own W bo [.int .u8 x.k, .int .i64 x.n, .string x.t, cn, ci, .map (some bm), .int .i64 (tkE x e name boolE)] 74 ∧ OwnM W bm (tkA x A e name boolE)) := by
  obtain ⟨cna, cnc, ev, D_cn⟩ := rdS_out (rd_argM (M := [bo, bm]) hv hM)
  subst ev
  obtain ⟨cia, cic, ev, D_ci⟩ := rdVs_out (rd_argM (M := [bo, bm]) hu hM)
  subst ev
  refine enter Try.func45 rfl Try.ntmps45 (lbr rfl) fun a0 y0 zz0 harg => ?_
  have e0 : sl a0 0 = (.pointer (some ⟨bo, 0, none⟩)) := harg 0 (lbr rfl)
  have e1 : sl a0 1 = (.string (name)) := harg 1 (lbr rfl)
  have kw := Keeps.refl (fun k => k ∉ [bo, bm]) w
  clear harg
  refine wp_seq_k fun K1 hK1 => ?_
  refine rg mixed y0 zz0 ?_
  refine .i (sp_assign Has.cst) ?_
  refine .done ⟨by kernel_rfl, fun a2 g W2 y2 zz2 hk hg hV hR hP => ?_⟩
  obtain ⟨-, -⟩ := hV
  replace e0 := (hR 0 rfl).trans e0
  replace e1 := (hR 1 rfl).trans e1
  replace D_cn := D_cn.ext hk
  replace D_ci := D_ci.ext hk
  replace own_bo := own_bo.ext hk
  replace own_bm := own_bm.ext hk
  replace kw := kw.x hk
  clear hR hk hg hP
  refine tail_nil (hK1 _ _ ?_)
  refine wp_seq_k fun K3 hK3 => ?_
  refine wp_reg (fun k => k ∉ [bo, bm]) (Ψ := fun W => Own W bo [(.int .u8 (x.k)), (.int .i64 (x.n)), (.string (x.t)), (.slice cna (x.ns.length) cnc), (.slice cia (x.xs.length) cic), (.map (some bm)), (.int .i64 (e))] 74 ∧ OwnM W bm (A)) mixed y2 zz2 (stE_and stE_own stE_ownM) ⟨own_bo, own_bm⟩ ?_
  refine .i (sp_move (hbs rfl e0)) ?_
  refine .i (sp_move (hbs rfl e1)) ?_
  refine .callL3 (φ1 := Is (.pointer (some ⟨bo, 0, none⟩))) (φ2 := Is (.string (name))) (φ3 := Is (.func (.func 107) #[] #[])) (φ := Is (.bool (if tkB x e name boolE then boolV (getV x name) else false))) (Ψ' := fun W => Own W bo [(.int .u8 (x.k)), (.int .i64 (x.n)), (.string (x.t)), (.slice cna (x.ns.length) cnc), (.slice cia (x.xs.length) cic), (.map (some bm)), (.int .i64 (tkE x e name boolE))] 74 ∧ OwnM W bm (tkA x A e name boolE)) ent106 (hlc rfl) (hlc rfl) Has.fn (st_is _) (stE_and stE_own stE_ownM) (fun g u1 u2 u3 W hk hg h1 h2 h3 hP => by have h1 : u1 = _ := h1; subst u1; have h2 : u2 = _ := h2; subst u2; have h3 : u3 = _ := h3; subst u3; exact (takeB_ok (x) (A) (e) hA hx hxt name 107 #[] boolE boolV W _ _ _ _ _ (sa_cln hS) (sa_notin (by simp)) hne (sa_keepL D_cn hk (by simp)) (sa_keepL D_ci hk (by simp)) hP.1 hP.2 ent107 (fun W2 hk2 y v hy hv2 => bool1_ok y (by obtain ⟨_, _, _, _, _, h, _⟩ := rdV_out hv2; exact h) W2 _ v hv2))) ?_
  refine .i (sp_assign (hlc rfl)) ?_
  refine .done ⟨by kernel_rfl, fun a4 g W4 y4 zz4 hk hg hV hR hP => ?_⟩
  obtain ⟨e4, -, -, -, -⟩ := hV
  replace e4 := e4.q
  replace D_cn := sa_keepL D_cn hk (by simp)
  replace D_ci := sa_keepL D_ci hk (by simp)
  obtain ⟨own_bo, own_bm⟩ := hP
  replace own_bo : Own W4 bo [(.int .u8 (x.k)), (.int .i64 (x.n)), (.string (x.t)), (.slice cna (x.ns.length) cnc), (.slice cia (x.xs.length) cic), (.map (some bm)), (.int .i64 (tkE x e name boolE))] 74 := own_bo
  replace own_bm : OwnM W4 bm (tkA x A e name boolE) := own_bm
  replace kw := keeps_L kw hk (in_cons (.inr (by simp)) (in_cons (.inr (by simp)) in_nil))
  clear hR hk hg
  refine tail_nil (hK3 _ _ ?_)
  refine wp_ret ?_
  refine (show bodyPost Try.prog Try.f45 _ .ret _ _ from ret1 rfl zz4 e4 ⟨_, rfl, kw, ?_⟩)
  exact ⟨rfl, own_bo, own_bm⟩
set_option maxRecDepth 100000 in
theorem BoolD_ok (k : Nat) (n : Int) (t : ByteArray) (cn ci mv : Value) (e : Int) (hE : errK k e ≠ 0) (name : ByteArray) (w : World) (bo : Nat) (own_bo : Own w bo [.int .u8 k, .int .i64 n, .string t, cn, ci, mv, .int .i64 e] 74) : Calls Try.prog 45 #[.pointer (some ⟨bo, 0, none⟩), .string name] w (Ret w fun u _ => u = .bool false) := by
  refine enter Try.func45 rfl Try.ntmps45 (lbr rfl) fun a0 y0 zz0 harg => ?_
  have e0 : sl a0 0 = (.pointer (some ⟨bo, 0, none⟩)) := harg 0 (lbr rfl)
  have e1 : sl a0 1 = (.string (name)) := harg 1 (lbr rfl)
  have kw := Keeps.refl All w
  clear harg
  refine wp_seq_k fun K1 hK1 => ?_
  refine rg mixed y0 zz0 ?_
  refine .i (sp_assign Has.cst) ?_
  refine .done ⟨by kernel_rfl, fun a2 g W2 y2 zz2 hk hg hV hR hP => ?_⟩
  obtain ⟨-, -⟩ := hV
  replace e0 := (hR 0 rfl).trans e0
  replace e1 := (hR 1 rfl).trans e1
  replace own_bo := own_bo.ext hk
  replace kw := kw.x hk
  clear hR hk hg hP
  refine tail_nil (hK1 _ _ ?_)
  refine wp_seq_k fun K3 hK3 => ?_
  refine rg mixed y2 zz2 ?_
  refine .i (sp_move (hbs rfl e0)) ?_
  refine .i (sp_move (hbs rfl e1)) ?_
  refine .i (v := (.bool (false))) (sp_call3 (φ1 := Is (.pointer (some ⟨bo, 0, none⟩))) (φ2 := Is (.string (name))) (φ3 := Is (.func (.func 107) #[] #[])) ent106 (hlc rfl) (hlc rfl) Has.fn (fun g u1 u2 u3 W hk hgk h1 h2 h3 => by have h1 : u1 = _ := h1; subst u1; have h2 : u2 = _ := h2; subst u2; have h3 : u3 = _ := h3; subst u3; exact takeBD_ok _ _ _ _ _ _ _ hE _ _ W _ (own_bo.ext hk))) ?_
  refine .i (sp_assign (hlc rfl)) ?_
  refine .done ⟨by kernel_rfl, fun a4 g W4 y4 zz4 hk hg hV hR hP => ?_⟩
  obtain ⟨e4, -, -, -, -⟩ := hV
  have e4 : sl a4 4 = (.bool (false)) := e4
  replace own_bo := own_bo.ext hk
  replace kw := kw.x hk
  clear hR hk hg hP
  refine tail_nil (hK3 _ _ ?_)
  refine wp_ret ?_
  refine (show bodyPost Try.prog Try.f45 _ .ret _ _ from ret1 rfl zz4 e4 ⟨_, rfl, kw, ?_⟩)
  exact rfl
set_option maxRecDepth 100000 in
theorem list1_ok (x : V) (most : Int) (w : World) (S : BSet) (v : Value) (bq : Nat) (hv : Rd w S x.d v) (own_bq : Own w bq [.int .i64 most] 3) : Calls Try.prog 109 #[v, .pointer (some ⟨bq, 0, none⟩)] w (Ret w fun r W => ∃ r1, r = .tuple #[r1, .int .i64 (listE most x)] ∧ Rd W (Ar w S) (valsD (listV most x)) r1) := by
  obtain ⟨cn0a, cn0c, ci0a, ci0c, ev, ht0, D_cn0, D_ci0⟩ := rdV_out (rd_arg hv)
  subst ev
  refine enter Try.func109 rfl Try.ntmps109 (lbr rfl) fun a0 y0 zz0 harg => ?_
  have e0 : sl a0 0 = (.agg #[(.int .u8 (x.k)), (.int .i64 (x.n)), (.string (x.t)), (.slice cn0a (x.ns.length) cn0c), (.slice ci0a (x.xs.length) ci0c)]) := harg 0 (lbr rfl)
  have e1 : sl a0 1 = (.pointer (some ⟨bq, 0, none⟩)) := harg 1 (lbr rfl)
  have kw := Keeps.refl All w
  clear harg
  refine wp_seq_k fun K1 hK1 => ?_
  refine rg mixed y0 zz0 ?_
  refine .boxOp (v := (.agg #[(.int .u8 (x.k)), (.int .i64 (x.n)), (.string (x.t)), (.slice cn0a (x.ns.length) cn0c), (.slice ci0a (x.xs.length) ci0c)])) (hbs rfl e0) ?_
  refine .i (sp_assign Has.cst) ?_
  refine .i (sp_assign Has.cst) ?_
  refine .done ⟨by kernel_rfl, fun a2 g W2 y2 zz2 hk hg hV hR hP => ?_⟩
  obtain ⟨-, -, ⟨b2_2, e2, hb2, own_b2_2⟩, -⟩ := hV
  have lo_b2_2 : w.heap.size ≤ b2_2 := Nat.le_trans kw.size (hg.lo _ _ hb2)
  have ne_bq_b2_2 : bq ≠ b2_2 := Nat.ne_of_lt (Nat.lt_of_lt_of_le own_bq.lt (hg.lo _ _ hb2))
  have own_b2_2 : Own W2 b2_2 [(.int .u8 (x.k)), (.int .i64 (x.n)), (.string (x.t)), (.slice cn0a (x.ns.length) cn0c), (.slice ci0a (x.xs.length) ci0c)] 33 := own_b2_2
  replace e1 := (hR 1 rfl).trans e1
  replace D_cn0 := sa_more D_cn0 hk [b2_2] (in_cons (hg.lo _ _ hb2) in_nil)
  replace D_ci0 := sa_more D_ci0 hk [b2_2] (in_cons (hg.lo _ _ hb2) in_nil)
  replace own_bq := own_bq.ext hk
  replace kw := kw.x hk
  clear hR hk hg hP hb2
  refine tail_nil (hK1 _ _ ?_)
  refine wp_seq_k fun K3 hK3 => ?_
  refine rg mixed y2 zz2 ?_
  refine .i (v := (.agg #[(.int .u8 (x.k)), (.int .i64 (x.n)), (.string (x.t)), (.slice cn0a (x.ns.length) cn0c), (.slice ci0a (x.xs.length) ci0c)])) (loA (hbs rfl e2) own_b2_2 trivial agg33 sz33 rfl rfl) ?_
  refine .i (lo1 (hbs rfl e1) own_bq trivial agg3 sz3 rfl) ?_
  refine .op (φ := IsT (IsD (SA w S [b2_2]) (valsD (itemsV (x) most))) (Is (.int .i64 (itemsE (x) most)))) (st_t (st_d sub_all) (st_is _)) (sp_call2 (φ1 := IsD (SA w S [b2_2]) (V.d (x))) (φ2 := Is (.int .i64 (most))) ent100 ((hlc rfl).dat (rdV_in (x := x) ht0 D_cn0 D_ci0 : Rd W2 (SA w S [b2_2]) (V.d (x)) _) sub_all) (hlc rfl) (fun g u1 u2 W hk hgk h1 h2 => by have h2 : u2 = _ := h2; subst u2; exact (items_ok (x) (most) W _ _ h1).mono (fun _ _ ⟨v, h1, h2, r1, h3, h4⟩ => ⟨v, h1, h2, r1, _, h3, rd_ar_sa kw (in_cons own_b2_2.lt in_nil) hk hgk h4, rfl⟩))) ?_
  refine .da (X := SA w S [b2_2]) (e := valsD (itemsV (x) most)) (sp_ext2 (hlc rfl) rfl) ?_
  refine .i (v := (.int .i64 (itemsE (x) most))) (sp_ext2' (hlc rfl) rfl) ?_
  refine .da (X := SA w S [b2_2]) (e := valsD (itemsV (x) most)) (sp_assign (hlc rfl)) ?_
  refine .i (sp_assign (hlc rfl)) ?_
  refine .done ⟨by kernel_rfl, fun a4 g W4 y4 zz4 hk hg hV hR hP => ?_⟩
  obtain ⟨e4, e3, -, -, -, -, -, -⟩ := hV
  replace D_cn0 := D_cn0.ext hk
  replace D_ci0 := D_ci0.ext hk
  obtain ⟨v3_4, ev⟩ : ∃ v, sl a4 3 = v := ⟨_, rfl⟩
  rw [ev] at e3
  have D_v3_4 : Rd W4 (SA w S [b2_2]) (valsD (itemsV (x) most)) v3_4 := sa_end e3 hk [] in_nil
  replace e3 := ev; clear ev
  obtain ⟨v3_4a, v3_4c, ev, D2⟩ := rdVs_out D_v3_4
  subst ev; replace D_v3_4 := D2; clear D2
  have e4 : sl a4 4 = (.int .i64 (itemsE (x) most)) := e4
  replace own_bq := own_bq.ext hk
  replace own_b2_2 := own_b2_2.ext hk
  replace kw := kw.x hk
  clear hR hk hg hP
  refine tail_nil (hK3 _ _ ?_)
  refine wp_ret ?_
  refine (show bodyPost Try.prog Try.f109 _ .ret _ _ from ret2 rfl zz4 e3 e4 ⟨_, rfl, kw, ?_⟩)
  exact ⟨_, rfl, sa_ar D_v3_4⟩
set_option maxRecDepth 100000 in
theorem takeL_ok (x : V) (A : As) (e : Int) (hA : AB 1000000 A) (hx : x.wt ≤ 1073741824) (hxt : x.t.size ≤ maxLen) (name : ByteArray) (fi : FuncId) (cb : Array Value) (ce : V → Int) (fv : V → List V) (w : World) (S : BSet) (cn ci : Value) (bo bm : Nat) (hS : ∀ b o, S b o → Cln o) (hM : ∀ b ∈ [bo, bm], ∀ o, ¬ S b o) (hne : bo ≠ bm) (hv : Rd w S (strsD x.ns) cn) (hu : Rd w S (valsD x.xs) ci) (own_bo : Own w bo [.int .u8 x.k, .int .i64 x.n, .string x.t, cn, ci, .map (some bm), .int .i64 (e)] 74) (own_bm : OwnM w bm A) (ef : Enters Try.prog fi) (hf : ∀ W, Keeps (fun k => k ∉ [bo, bm]) w W → ∀ (Z : BSet) (y : V) (v : Value), y.wt ≤ 1073741824 → Rd W Z y.d v → Calls Try.prog fi (#[v] ++ cb) W (Ret W fun r W2 => ∃ r1, r = .tuple #[r1, .int .i64 (ce y)] ∧ Rd W2 (Ar W Z) (valsD (fv y)) r1)) : Calls Try.prog 108 #[.pointer (some ⟨bo, 0, none⟩), .string name, .func (.func fi) #[] cb] w (RetL w [bo, bm] fun u W => Rd W (Fr w) (valsD (if tkB x e name ce then fv (getV x name) else [])) u ∧ Own W bo [.int .u8 x.k, .int .i64 x.n, .string x.t, cn, ci, .map (some bm), .int .i64 (tkE x e name ce)] 74 ∧ OwnM W bm (tkA x A e name ce)) := by
  have hwx := wt_eq x
  have hwl := wts_len x.xs
  have hwn := wtN_len x.ns
  obtain ⟨cna, cnc, ev, D_cn⟩ := rdS_out (rd_argM (M := [bo, bm]) hv hM)
  subst ev
  obtain ⟨cia, cic, ev, D_ci⟩ := rdVs_out (rd_argM (M := [bo, bm]) hu hM)
  subst ev
  refine enter Try.func108 rfl Try.ntmps108 (lbr rfl) fun a0 y0 zz0 harg => ?_
  have e0 : sl a0 0 = (.pointer (some ⟨bo, 0, none⟩)) := harg 0 (lbr rfl)
  have e1 : sl a0 1 = (.string (name)) := harg 1 (lbr rfl)
  have e2 : sl a0 2 = (.func (.func fi) #[] cb) := harg 2 (lbr rfl)
  have kw := Keeps.refl (fun k => k ∉ [bo, bm]) w
  clear harg
  refine wp_seq_k fun K1 hK1 => ?_
  refine rg mixed y0 zz0 ?_
  refine .i (sp_assign Has.cst) ?_
  refine .done ⟨by kernel_rfl, fun a2 g W2 y2 zz2 hk hg hV hR hP => ?_⟩
  obtain ⟨-, -⟩ := hV
  replace e0 := (hR 0 rfl).trans e0
  replace e1 := (hR 1 rfl).trans e1
  replace e2 := (hR 2 rfl).trans e2
  replace D_cn := D_cn.ext hk
  replace D_ci := D_ci.ext hk
  replace own_bo := own_bo.ext hk
  replace own_bm := own_bm.ext hk
  replace kw := kw.x hk
  clear hR hk hg hP
  refine tail_nil (hK1 _ _ ?_)
  refine wp_seq_k fun K3 hK3 => ?_
  refine rg mixed y2 zz2 ?_
  refine .i (sp_assign Has.cst) ?_
  refine .done ⟨by kernel_rfl, fun a4 g W4 y4 zz4 hk hg hV hR hP => ?_⟩
  obtain ⟨e7, -⟩ := hV
  replace e0 := (hR 0 rfl).trans e0
  replace e1 := (hR 1 rfl).trans e1
  replace e2 := (hR 2 rfl).trans e2
  replace D_cn := D_cn.ext hk
  replace D_ci := D_ci.ext hk
  have e7 : sl a4 7 = (.slice none 0 0) := e7
  replace own_bo := own_bo.ext hk
  replace own_bm := own_bm.ext hk
  replace kw := kw.x hk
  clear hR hk hg hP
  refine tail_nil (hK3 _ _ ?_)
  refine wp_seq_k fun K5 hK5 => ?_
  refine wp_seq_k fun K6 hK6 => ?_
  refine rg mixed y4 zz4 ?_
  refine .i (sp_move (hbs rfl e0)) ?_
  refine .i (v := (.int .i64 (errK x.k e))) (sp_call1 (φ1 := Is (.pointer (some ⟨bo, 0, none⟩))) ent24 (hlc rfl) (fun g u1 W hk hgk h1 => by have h1 : u1 = _ := h1; subst u1; exact Err_ok _ _ _ _ _ _ _ W _ (own_bo.ext hk))) ?_
  refine .i (sp_neq (hlc rfl) Has.cst) ?_
  refine .done ⟨by kernel_rfl, fun a7 g W7 y7 zz7 hk hg hV hR hP => ?_⟩
  obtain ⟨e14, -, -, -⟩ := hV
  replace e0 := (hR 0 rfl).trans e0
  replace e1 := (hR 1 rfl).trans e1
  replace e2 := (hR 2 rfl).trans e2
  replace e7 := (hR 7 rfl).trans e7
  replace D_cn := D_cn.ext hk
  replace D_ci := D_ci.ext hk
  replace e14 := e14.q
  replace own_bo := own_bo.ext hk
  replace own_bm := own_bm.ext hk
  replace kw := kw.x hk
  clear hR hk hg hP
  refine tail_nil (hK6 _ _ ?_)
  refine wp_cond_split e14 (fun hc => ?_) (fun hc => ?_)
  ·
   have hE : errK x.k e ≠ 0 := by simpa using hc
   have h1 : tkE x e name ce = e := by rw [tkE, if_pos hE]
   have h2 : tkB x e name ce = false := by simp [tkB, hE]
   have h3 : tkA x A e name ce = A := by rw [tkA, h2]; rfl
   refine wp_seq_k fun K8 hK8 => ?_
   refine rg mixed y7 zz7 ?_
   refine .i (sp_move (hbs rfl e7)) ?_
   refine .i (sp_assign (hlc rfl)) ?_
   refine .done ⟨by kernel_rfl, fun a9 g W9 y9 zz9 hk hg hV hR hP => ?_⟩
   obtain ⟨e6, -, -⟩ := hV
   replace D_cn := D_cn.ext hk
   replace D_ci := D_ci.ext hk
   have e6 : sl a9 6 = (.slice none 0 0) := e6
   replace own_bo := own_bo.ext hk
   replace own_bm := own_bm.ext hk
   replace kw := kw.x hk
   clear hR hk hg hP
   refine tail_nil (hK8 _ _ ?_)
   refine wp_ret ?_
   refine (show bodyPost Try.prog Try.f108 _ .ret _ _ from ret1 rfl zz9 e6 ⟨_, rfl, kw, ?_⟩)
   rw [h1, h3, h2]
   exact ⟨rd_nil _, own_bo, own_bm⟩
  ·
   have hE : errK x.k e = 0 := by simpa using hc
   have he0 := (errK_zero hE).1
   refine wp_skip (hK5 _ _ ?_)
   refine wp_seq_k fun K10 hK10 => ?_
   refine rg mixed y7 zz7 ?_
   refine .i (sp_move (hbs rfl e0)) ?_
   refine .i (sp_nilP (hlc rfl)) ?_
   refine .i (fo 0 (hlc rfl) Try.underlying74 rfl sz33 rfl) ?_
   refine .i (v := (.agg #[(.int .u8 (x.k)), (.int .i64 (x.n)), (.string (x.t)), (.slice cna (x.ns.length) cnc), (.slice cia (x.xs.length) cic)])) (loA (hlc rfl) own_bo trivial agg33 sz33 rfl rfl) ?_
   refine .i (sp_move (hbs rfl e1)) ?_
   refine .op (φ := IsT (IsD (Fr W7) (V.d (getV (x) name))) (Is (.bool (getB (x) name)))) (st_t (st_d sub_all) (st_is _)) (sp_call2 (φ1 := IsD (SA w S [bo, bm]) (V.d (x))) (φ2 := Is (.string (name))) ent101 ((hlc rfl).dat (rdV_in (x := x) hxt D_cn D_ci : Rd W7 (SA w S [bo, bm]) (V.d (x)) _) sub_all) (hlc rfl) (fun g u1 u2 W hk hgk h1 h2 => by have h2 : u2 = _ := h2; subst u2; exact (Get_ok (x) (name) (by omega) W _ _ (fun b o h => sa_cln hS b o h.1) h1).mono (fun _ _ ⟨v, h1, h2, r1, h3, h4⟩ => ⟨v, h1, h2, r1, _, h3, fresh_d hk hgk h4, rfl⟩))) ?_
   refine .op (φ := IsT (IsD (Fr W7) (V.d (getV (x) name))) (Is (.bool (getB (x) name)))) (st_t (st_d sub_all) (st_is _)) (sp_move (hlc rfl)) ?_
   refine .da (X := Fr W7) (e := V.d (getV (x) name)) (sp_ext2 (hlc rfl) rfl) ?_
   refine .i (v := (.bool (getB (x) name))) (sp_ext2' (hlc rfl) rfl) ?_
   refine .alloc z33 ?_
   refine .done ⟨by kernel_rfl, fun a11 g W11 y11 zz11 hk hg hV hR hP => ?_⟩
   obtain ⟨⟨b8_11, e8, hb8, own_b8_11⟩, e24, e23, -, -, -, -, -, -, -, -⟩ := hV
   have lo_b8_11 : w.heap.size ≤ b8_11 := Nat.le_trans kw.size (hg.lo _ _ hb8)
   have ne_bo_b8_11 : bo ≠ b8_11 := Nat.ne_of_lt (Nat.lt_of_lt_of_le own_bo.lt (hg.lo _ _ hb8))
   have ne_bm_b8_11 : bm ≠ b8_11 := Nat.ne_of_lt (Nat.lt_of_lt_of_le own_bm.lt (hg.lo _ _ hb8))
   have own_b8_11 : Own W11 b8_11 [(.int .u8 (0)), (.int .i64 (0)), (.string (⟨#[]⟩)), (.slice none 0 0), (.slice none 0 0)] 33 := own_b8_11
   replace e0 := (hR 0 rfl).trans e0
   replace e1 := (hR 1 rfl).trans e1
   replace e2 := (hR 2 rfl).trans e2
   replace e7 := (hR 7 rfl).trans e7
   replace D_cn := sa_more D_cn hk [b8_11] (in_cons (hg.lo _ _ hb8) in_nil)
   replace D_ci := sa_more D_ci hk [b8_11] (in_cons (hg.lo _ _ hb8) in_nil)
   obtain ⟨v23_11, ev⟩ : ∃ v, sl a11 23 = v := ⟨_, rfl⟩
   rw [ev] at e23
   have D_v23_11 : Rd W11 (SF w [b8_11, bo, bm]) (V.d (getV (x) name)) v23_11 := fr_end (M := [bo, bm]) e23 kw [b8_11] (in_cons ⟨_, hb8⟩ in_nil) (in_cons own_bo.lt (in_cons own_bm.lt in_nil))
   replace e23 := ev; clear ev
   obtain ⟨cn23_11a, cn23_11c, ci23_11a, ci23_11c, ev, ht_v23_11, D_cn23_11, D_ci23_11⟩ := rdV_out D_v23_11
   subst ev; clear D_v23_11
   have e24 : sl a11 24 = (.bool (getB (x) name)) := e24
   replace own_bo := own_bo.ext hk
   replace own_bm := own_bm.ext hk
   replace kw := kw.x hk
   clear hR hk hg hP hb8
   refine tail_store (b := b8_11) (o := 0) (v := (.agg #[(.int .u8 ((getV (x) name).k)), (.int .i64 ((getV (x) name).n)), (.string ((getV (x) name).t)), (.slice cn23_11a (((getV (x) name).ns).length) cn23_11c), (.slice ci23_11a (((getV (x) name).xs).length) ci23_11c)])) e8 e23 sz33 rfl own_b8_11 (lbr rfl) (all_cons rfl (all_cons rfl (all_cons rfl (all_cons rfl (all_cons rfl all_nil))))) (fun W12 hs own_b8_11 => ?_)
   have own_b8_11 : Own W12 b8_11 [(.int .u8 ((getV (x) name).k)), (.int .i64 ((getV (x) name).n)), (.string ((getV (x) name).t)), (.slice cn23_11a (((getV (x) name).ns).length) cn23_11c), (.slice ci23_11a (((getV (x) name).xs).length) ci23_11c)] 33 := own_b8_11
   replace own_bo := own_store own_bo hs ne_bo_b8_11
   replace own_bm := ownM_store own_bm hs ne_bm_b8_11
   replace D_cn := sa_store D_cn hs (by simp)
   replace D_ci := sa_store D_ci hs (by simp)
   replace D_cn23_11 := sf_store D_cn23_11 hs (by simp)
   replace D_ci23_11 := sf_store D_ci23_11 hs (by simp)
   replace kw := keeps_store kw hs lo_b8_11
   clear hs
   refine tail_assign (v := (.bool (getB (x) name))) e24 (by rw [y11]; exact Nat.le_of_ble_eq_true rfl) (fun a13 y13 zz13 e9 hr => ?_)
   replace y13 := y13.trans y11; replace zz13 := zz13.trans zz11
   replace e0 := (hr 0 (by decide)).trans e0
   replace e1 := (hr 1 (by decide)).trans e1
   replace e2 := (hr 2 (by decide)).trans e2
   replace e7 := (hr 7 (by decide)).trans e7
   replace e8 := (hr 8 (by decide)).trans e8
   replace e23 := (hr 23 (by decide)).trans e23
   replace e24 := (hr 24 (by decide)).trans e24
   clear hr
   refine tail_nil (hK10 _ _ ?_)
   refine wp_seq_k fun K14 hK14 => ?_
   refine wp_seq_k fun K15 hK15 => ?_
   refine rg mixed y13 zz13 ?_
   refine .i (sp_move (hbs rfl e9)) ?_
   refine .i (sp_not (hlc rfl)) ?_
   refine .done ⟨by kernel_rfl, fun a16 g W16 y16 zz16 hk hg hV hR hP => ?_⟩
   obtain ⟨e26, -, -⟩ := hV
   replace e0 := (hR 0 rfl).trans e0
   replace e1 := (hR 1 rfl).trans e1
   replace e2 := (hR 2 rfl).trans e2
   replace e7 := (hR 7 rfl).trans e7
   replace e8 := (hR 8 rfl).trans e8
   replace D_cn := D_cn.ext hk
   replace D_ci := D_ci.ext hk
   replace D_cn23_11 := D_cn23_11.ext hk
   replace D_ci23_11 := D_ci23_11.ext hk
   have e26 : sl a16 26 = (.bool (!(getB (x) name))) := e26
   replace own_bo := own_bo.ext hk
   replace own_bm := own_bm.ext hk
   replace own_b8_11 := own_b8_11.ext hk
   replace kw := kw.x hk
   clear hR hk hg hP
   refine tail_nil (hK15 _ _ ?_)
   refine wp_cond_split e26 (fun hc => ?_) (fun hc => ?_)
   ·
    have hg0 : getB x name = false := by simpa using hc
    have h1 : tkE x e name ce = failK x.k e 6 := by rw [tkE, if_neg (by simp [hE]), if_pos hg0, failK, if_pos hE]
    have h2 : tkB x e name ce = false := by simp [tkB, hg0]
    have h3 : tkA x A e name ce = A := by rw [tkA, h2]; rfl
    refine wp_seq_k fun K17 hK17 => ?_
    refine wp_reg (fun k => k ∉ [bo]) (Ψ := fun W => Own W bo [(.int .u8 (x.k)), (.int .i64 (x.n)), (.string (x.t)), (.slice cna (x.ns.length) cnc), (.slice cia (x.xs.length) cic), (.map (some bm)), (.int .i64 (e))] 74) mixed y16 zz16 stE_own own_bo ?_
    refine .i (sp_move (hbs rfl e0)) ?_
    refine .callL2 (φ1 := Is (.pointer (some ⟨bo, 0, none⟩))) (φ2 := Is (.int .i64 (6))) (φ := Is (.tuple #[])) (Ψ' := fun W => Own W bo [(.int .u8 (x.k)), (.int .i64 (x.n)), (.string (x.t)), (.slice cna (x.ns.length) cnc), (.slice cia (x.xs.length) cic), (.map (some bm)), (.int .i64 (failK x.k e 6))] 74) ent22 (hlc rfl) Has.cst (st_is _) stE_own (fun g u1 u2 W hk hg h1 h2 hP => by have h1 : u1 = _ := h1; subst u1; have h2 : u2 = _ := h2; subst u2; exact (Fail_ok _ _ _ _ _ _ _ (6) W _ hP)) ?_
    refine .done ⟨by kernel_rfl, fun a18 g W18 y18 zz18 hk hg hV hR hP => ?_⟩
    obtain ⟨-, -, -⟩ := hV
    replace e7 := (hR 7 rfl).trans e7
    replace D_cn := sa_keepL D_cn hk (by simp)
    replace D_ci := sa_keepL D_ci hk (by simp)
    replace D_cn23_11 := sf_keepL D_cn23_11 hk (by simp)
    replace D_ci23_11 := sf_keepL D_ci23_11 hk (by simp)
    replace own_bm := ownM_keepL own_bm hk (by simp [hne.symm])
    replace own_b8_11 := own_keepL own_b8_11 hk (by simp [ne_bo_b8_11.symm])
    have own_bo := hP
    replace own_bo : Own W18 bo [(.int .u8 (x.k)), (.int .i64 (x.n)), (.string (x.t)), (.slice cna (x.ns.length) cnc), (.slice cia (x.xs.length) cic), (.map (some bm)), (.int .i64 (failK x.k e 6))] 74 := own_bo
    replace kw := keeps_L kw hk (in_cons (.inr (by simp)) in_nil)
    clear hR hk hg hP
    refine tail_nil (hK17 _ _ ?_)
    refine wp_seq_k fun K19 hK19 => ?_
    refine rg mixed y18 zz18 ?_
    refine .i (sp_move (hbs rfl e7)) ?_
    refine .i (sp_assign (hlc rfl)) ?_
    refine .done ⟨by kernel_rfl, fun a20 g W20 y20 zz20 hk hg hV hR hP => ?_⟩
    obtain ⟨e6, -, -⟩ := hV
    replace D_cn := D_cn.ext hk
    replace D_ci := D_ci.ext hk
    have e6 : sl a20 6 = (.slice none 0 0) := e6
    replace own_bo := own_bo.ext hk
    replace own_bm := own_bm.ext hk
    replace own_b8_11 := own_b8_11.ext hk
    replace kw := kw.x hk
    clear hR hk hg hP
    refine tail_nil (hK19 _ _ ?_)
    refine wp_ret ?_
    refine (show bodyPost Try.prog Try.f108 _ .ret _ _ from ret1 rfl zz20 e6 ⟨_, rfl, kw, ?_⟩)
    rw [h1, h3, h2]
    exact ⟨rd_nil _, own_bo, own_bm⟩
   ·
    have hg1 : getB x name = true := by simpa using hc
    have hAn := hA name
    have hwg := Nat.le_trans (getV_wt x name) hx
    refine wp_skip (hK14 _ _ ?_)
    refine wp_seq_k fun K21 hK21 => ?_
    refine rg mixed y16 zz16 ?_
    refine .i (sp_move (hbs rfl e2)) ?_
    refine .i (v := (.agg #[(.int .u8 ((getV (x) name).k)), (.int .i64 ((getV (x) name).n)), (.string ((getV (x) name).t)), (.slice cn23_11a (((getV (x) name).ns).length) cn23_11c), (.slice ci23_11a (((getV (x) name).xs).length) ci23_11c)])) (loA (hbs rfl e8) own_b8_11 trivial agg33 sz33 rfl rfl) ?_
    refine .op (φ := IsT (IsD (SF w [b8_11, bo, bm]) (valsD (fv (getV x name)))) (Is (.int .i64 (ce (getV x name))))) (st_t (st_d sub_all) (st_is _)) (sp_callF1 ef (hlc rfl) (hlc rfl) (fun g W hk hgk => (hf W (kw.trans (.of_ext hk)) _ _ _ hwg (rd_base (rdV_in (x := (getV (x) name)) ht_v23_11 D_cn23_11 D_ci23_11 : Rd W16 (SF w [b8_11, bo, bm]) (V.d ((getV (x) name))) _) hk hgk sub_all)).mono (fun _ _ ⟨v, h1, h2, r1, h3, h4⟩ => ⟨v, h1, h2, r1, _, h3, rd_ar_sf kw (in_cons own_b8_11.lt (in_cons own_bo.lt (in_cons own_bm.lt in_nil))) hk hgk h4, rfl⟩))) ?_
    refine .op (φ := IsT (IsD (SF w [b8_11, bo, bm]) (valsD (fv (getV x name)))) (Is (.int .i64 (ce (getV x name))))) (st_t (st_d sub_all) (st_is _)) (sp_move (hlc rfl)) ?_
    refine .da (X := SF w [b8_11, bo, bm]) (e := valsD (fv (getV x name))) (sp_ext2 (hlc rfl) rfl) ?_
    refine .i (v := (.int .i64 (ce (getV x name)))) (sp_ext2' (hlc rfl) rfl) ?_
    refine .da (X := SF w [b8_11, bo, bm]) (e := valsD (fv (getV x name))) (sp_assign (hlc rfl)) ?_
    refine .i (sp_assign (hlc rfl)) ?_
    refine .done ⟨by kernel_rfl, fun a22 g W22 y22 zz22 hk hg hV hR hP => ?_⟩
    obtain ⟨e11, e10, -, -, -, -, -, -, -⟩ := hV
    replace e0 := (hR 0 rfl).trans e0
    replace e1 := (hR 1 rfl).trans e1
    replace e7 := (hR 7 rfl).trans e7
    replace D_cn := D_cn.ext hk
    replace D_ci := D_ci.ext hk
    replace D_cn23_11 := D_cn23_11.ext hk
    replace D_ci23_11 := D_ci23_11.ext hk
    obtain ⟨v10_22, ev⟩ : ∃ v, sl a22 10 = v := ⟨_, rfl⟩
    rw [ev] at e10
    have D_v10_22 : Rd W22 (SF w [b8_11, bo, bm]) (valsD (fv (getV x name))) v10_22 := sf_end e10 hk [] in_nil
    replace e10 := ev; clear ev
    obtain ⟨v10_22a, v10_22c, ev, D2⟩ := rdVs_out D_v10_22
    subst ev; replace D_v10_22 := D2; clear D2
    have e11 : sl a22 11 = (.int .i64 (ce (getV x name))) := e11
    replace own_bo := own_bo.ext hk
    replace own_bm := own_bm.ext hk
    replace own_b8_11 := own_b8_11.ext hk
    replace kw := kw.x hk
    clear hR hk hg hP
    refine tail_nil (hK21 _ _ ?_)
    refine wp_seq_k fun K23 hK23 => ?_
    refine wp_seq_k fun K24 hK24 => ?_
    refine rg mixed y22 zz22 ?_
    refine .i (sp_move (hbs rfl e11)) ?_
    refine .i (sp_neq (hlc rfl) Has.cst) ?_
    refine .done ⟨by kernel_rfl, fun a25 g W25 y25 zz25 hk hg hV hR hP => ?_⟩
    obtain ⟨e37, -, -⟩ := hV
    replace e0 := (hR 0 rfl).trans e0
    replace e1 := (hR 1 rfl).trans e1
    replace e7 := (hR 7 rfl).trans e7
    replace e10 := (hR 10 rfl).trans e10
    replace e11 := (hR 11 rfl).trans e11
    replace D_cn := D_cn.ext hk
    replace D_ci := D_ci.ext hk
    replace D_v10_22 := D_v10_22.ext hk
    replace e37 := e37.q
    replace own_bo := own_bo.ext hk
    replace own_bm := own_bm.ext hk
    replace own_b8_11 := own_b8_11.ext hk
    replace kw := kw.x hk
    clear hR hk hg hP
    refine tail_nil (hK24 _ _ ?_)
    refine wp_cond_split e37 (fun hc => ?_) (fun hc => ?_)
    ·
     have hce : ce (getV x name) ≠ 0 := by simpa using hc
     have h1 : tkE x e name ce = failK x.k e (ce (getV x name)) := by rw [tkE, if_neg (by simp [hE]), if_neg (by simp [hg1]), failK, if_pos hE]
     have h2 : tkB x e name ce = false := by simp [tkB, hce]
     have h3 : tkA x A e name ce = A := by rw [tkA, h2]; rfl
     refine wp_seq_k fun K26 hK26 => ?_
     refine wp_reg (fun k => k ∉ [bo]) (Ψ := fun W => Own W bo [(.int .u8 (x.k)), (.int .i64 (x.n)), (.string (x.t)), (.slice cna (x.ns.length) cnc), (.slice cia (x.xs.length) cic), (.map (some bm)), (.int .i64 (e))] 74) mixed y25 zz25 stE_own own_bo ?_
     refine .i (sp_move (hbs rfl e0)) ?_
     refine .i (sp_move (hbs rfl e11)) ?_
     refine .callL2 (φ1 := Is (.pointer (some ⟨bo, 0, none⟩))) (φ2 := Is (.int .i64 (ce (getV x name)))) (φ := Is (.tuple #[])) (Ψ' := fun W => Own W bo [(.int .u8 (x.k)), (.int .i64 (x.n)), (.string (x.t)), (.slice cna (x.ns.length) cnc), (.slice cia (x.xs.length) cic), (.map (some bm)), (.int .i64 (failK x.k e (ce (getV x name))))] 74) ent22 (hlc rfl) (hlc rfl) (st_is _) stE_own (fun g u1 u2 W hk hg h1 h2 hP => by have h1 : u1 = _ := h1; subst u1; have h2 : u2 = _ := h2; subst u2; exact (Fail_ok _ _ _ _ _ _ _ (ce (getV x name)) W _ hP)) ?_
     refine .done ⟨by kernel_rfl, fun a27 g W27 y27 zz27 hk hg hV hR hP => ?_⟩
     obtain ⟨-, -, -, -⟩ := hV
     replace e7 := (hR 7 rfl).trans e7
     replace D_cn := sa_keepL D_cn hk (by simp)
     replace D_ci := sa_keepL D_ci hk (by simp)
     replace D_v10_22 := sf_keepL D_v10_22 hk (by simp)
     replace own_bm := ownM_keepL own_bm hk (by simp [hne.symm])
     replace own_b8_11 := own_keepL own_b8_11 hk (by simp [ne_bo_b8_11.symm])
     have own_bo := hP
     replace own_bo : Own W27 bo [(.int .u8 (x.k)), (.int .i64 (x.n)), (.string (x.t)), (.slice cna (x.ns.length) cnc), (.slice cia (x.xs.length) cic), (.map (some bm)), (.int .i64 (failK x.k e (ce (getV x name))))] 74 := own_bo
     replace kw := keeps_L kw hk (in_cons (.inr (by simp)) in_nil)
     clear hR hk hg hP
     refine tail_nil (hK26 _ _ ?_)
     refine wp_seq_k fun K28 hK28 => ?_
     refine rg mixed y27 zz27 ?_
     refine .i (sp_move (hbs rfl e7)) ?_
     refine .i (sp_assign (hlc rfl)) ?_
     refine .done ⟨by kernel_rfl, fun a29 g W29 y29 zz29 hk hg hV hR hP => ?_⟩
     obtain ⟨e6, -, -⟩ := hV
     replace D_cn := D_cn.ext hk
     replace D_ci := D_ci.ext hk
     have e6 : sl a29 6 = (.slice none 0 0) := e6
     replace own_bo := own_bo.ext hk
     replace own_bm := own_bm.ext hk
     replace own_b8_11 := own_b8_11.ext hk
     replace kw := kw.x hk
     clear hR hk hg hP
     refine tail_nil (hK28 _ _ ?_)
     refine wp_ret ?_
     refine (show bodyPost Try.prog Try.f108 _ .ret _ _ from ret1 rfl zz29 e6 ⟨_, rfl, kw, ?_⟩)
     rw [h1, h3, h2]
     exact ⟨rd_nil _, own_bo, own_bm⟩
    ·
     have hce : ce (getV x name) = 0 := by simpa using hc
     have h1 : tkE x e name ce = e := by rw [tkE, if_neg (by simp [hE]), if_neg (by simp [hg1]), hce, he0]
     have h2 : tkB x e name ce = true := by simp [tkB, hE, hg1, hce]
     have h3 : tkA x A e name ce = mset A name (mget A name + 1) := by rw [tkA, h2]; rfl
     refine wp_skip (hK23 _ _ ?_)
     refine wp_seq_k fun K30 hK30 => ?_
     refine rg mixed y25 zz25 ?_
     refine .i (sp_move (hbs rfl e0)) ?_
     refine .i (sp_nilP (hlc rfl)) ?_
     refine .i (fo 5 (hlc rfl) Try.underlying74 rfl sz72 rfl) ?_
     refine .i (lo1 (hlc rfl) own_bo trivial agg72 sz72 rfl) ?_
     refine .i (sp_move (hbs rfl e1)) ?_
     refine .i (sp_lookup Try.underlying72 Try.underlying9 z3 (hlc rfl) (hlc rfl) own_bm trivial) ?_
     refine .i (sp_add (hlc rfl) Has.cst (i64_in (by omega))) ?_
     refine .done ⟨by kernel_rfl, fun a31 g W31 y31 zz31 hk hg hV hR hP => ?_⟩
     obtain ⟨e48, -, e46, e45, -, -, -, -⟩ := hV
     replace e10 := (hR 10 rfl).trans e10
     replace D_cn := D_cn.ext hk
     replace D_ci := D_ci.ext hk
     replace D_v10_22 := D_v10_22.ext hk
     have e45 : sl a31 45 = (.map (some bm)) := e45
     have e46 : sl a31 46 = (.string (name)) := e46
     replace e48 := e48.q
     replace own_bo := own_bo.ext hk
     replace own_bm := own_bm.ext hk
     replace own_b8_11 := own_b8_11.ext hk
     replace kw := kw.x hk
     clear hR hk hg hP
     refine tail_updM Try.underlying72 Try.underlying9 e45 e46 e48 own_bm (fun W32 hs own_bm => ?_)
     have own_bm : OwnM W32 bm (mset A name ((mget A name : Int) + (1 : Int))) := own_bm
     replace own_bo := own_store own_bo hs hne
     replace own_b8_11 := own_store own_b8_11 hs ne_bm_b8_11.symm
     replace D_cn := sa_store D_cn hs (by simp)
     replace D_ci := sa_store D_ci hs (by simp)
     replace D_v10_22 := sf_store D_v10_22 hs (by simp)
     replace kw := keeps_storeN kw hs (by simp)
     clear hs
     refine tail_nil (hK30 _ _ ?_)
     refine wp_seq_k fun K33 hK33 => ?_
     refine rg mixed y31 zz31 ?_
     refine .i (sp_move (hbs rfl e10)) ?_
     refine .i (sp_assign (hlc rfl)) ?_
     refine .done ⟨by kernel_rfl, fun a34 g W34 y34 zz34 hk hg hV hR hP => ?_⟩
     obtain ⟨e6, -, -⟩ := hV
     replace D_cn := D_cn.ext hk
     replace D_ci := D_ci.ext hk
     replace D_v10_22 := D_v10_22.ext hk
     replace e6 := e6.q
     replace own_bo := own_bo.ext hk
     replace own_bm := own_bm.ext hk
     replace own_b8_11 := own_b8_11.ext hk
     replace kw := kw.x hk
     clear hR hk hg hP
     refine tail_nil (hK33 _ _ ?_)
     refine wp_ret ?_
     refine (show bodyPost Try.prog Try.f108 _ .ret _ _ from ret1 rfl zz34 e6 ⟨_, rfl, kw, ?_⟩)
     rw [h1, h3, h2]
     exact ⟨sf_fr D_v10_22, own_bo, own_bm⟩
set_option maxRecDepth 100000 in
theorem takeLD_ok (k : Nat) (n : Int) (t : ByteArray) (cn ci mv : Value) (e : Int) (hE : errK k e ≠ 0) (name : ByteArray) (fv : Value) (w : World) (bo : Nat) (own_bo : Own w bo [.int .u8 k, .int .i64 n, .string t, cn, ci, mv, .int .i64 e] 74) : Calls Try.prog 108 #[.pointer (some ⟨bo, 0, none⟩), .string name, fv] w (Ret w fun u _ => u = .slice none 0 0) := by
  refine enter Try.func108 rfl Try.ntmps108 (lbr rfl) fun a0 y0 zz0 harg => ?_
  have e0 : sl a0 0 = (.pointer (some ⟨bo, 0, none⟩)) := harg 0 (lbr rfl)
  have e1 : sl a0 1 = (.string (name)) := harg 1 (lbr rfl)
  have e2 : sl a0 2 = fv := harg 2 (lbr rfl)
  have kw := Keeps.refl All w
  clear harg
  refine wp_seq_k fun K1 hK1 => ?_
  refine rg mixed y0 zz0 ?_
  refine .i (sp_assign Has.cst) ?_
  refine .done ⟨by kernel_rfl, fun a2 g W2 y2 zz2 hk hg hV hR hP => ?_⟩
  obtain ⟨-, -⟩ := hV
  replace e0 := (hR 0 rfl).trans e0
  replace e1 := (hR 1 rfl).trans e1
  replace e2 := (hR 2 rfl).trans e2
  replace own_bo := own_bo.ext hk
  replace kw := kw.x hk
  clear hR hk hg hP
  refine tail_nil (hK1 _ _ ?_)
  refine wp_seq_k fun K3 hK3 => ?_
  refine rg mixed y2 zz2 ?_
  refine .i (sp_assign Has.cst) ?_
  refine .done ⟨by kernel_rfl, fun a4 g W4 y4 zz4 hk hg hV hR hP => ?_⟩
  obtain ⟨e7, -⟩ := hV
  replace e0 := (hR 0 rfl).trans e0
  replace e1 := (hR 1 rfl).trans e1
  replace e2 := (hR 2 rfl).trans e2
  have e7 : sl a4 7 = (.slice none 0 0) := e7
  replace own_bo := own_bo.ext hk
  replace kw := kw.x hk
  clear hR hk hg hP
  refine tail_nil (hK3 _ _ ?_)
  refine wp_seq_k fun K5 hK5 => ?_
  refine wp_seq_k fun K6 hK6 => ?_
  refine rg mixed y4 zz4 ?_
  refine .i (sp_move (hbs rfl e0)) ?_
  refine .i (v := (.int .i64 (errK (k : Nat) e))) (sp_call1 (φ1 := Is (.pointer (some ⟨bo, 0, none⟩))) ent24 (hlc rfl) (fun g u1 W hk hgk h1 => by have h1 : u1 = _ := h1; subst u1; exact Err_ok _ _ _ _ _ _ _ W _ (own_bo.ext hk))) ?_
  refine .i (sp_neq (hlc rfl) Has.cst) ?_
  refine .done ⟨by kernel_rfl, fun a7 g W7 y7 zz7 hk hg hV hR hP => ?_⟩
  obtain ⟨e14, -, -, -⟩ := hV
  replace e0 := (hR 0 rfl).trans e0
  replace e1 := (hR 1 rfl).trans e1
  replace e2 := (hR 2 rfl).trans e2
  replace e7 := (hR 7 rfl).trans e7
  replace e14 := e14.q
  replace own_bo := own_bo.ext hk
  replace kw := kw.x hk
  clear hR hk hg hP
  refine tail_nil (hK6 _ _ ?_)
  refine wp_cond_split e14 (fun hc => ?_) (fun hc => ?_)
  ·
   refine wp_seq_k fun K8 hK8 => ?_
   refine rg mixed y7 zz7 ?_
   refine .i (sp_move (hbs rfl e7)) ?_
   refine .i (sp_assign (hlc rfl)) ?_
   refine .done ⟨by kernel_rfl, fun a9 g W9 y9 zz9 hk hg hV hR hP => ?_⟩
   obtain ⟨e6, -, -⟩ := hV
   have e6 : sl a9 6 = (.slice none 0 0) := e6
   replace own_bo := own_bo.ext hk
   replace kw := kw.x hk
   clear hR hk hg hP
   refine tail_nil (hK8 _ _ ?_)
   refine wp_ret ?_
   refine (show bodyPost Try.prog Try.f108 _ .ret _ _ from ret1 rfl zz9 e6 ⟨_, rfl, kw, ?_⟩)
   exact rfl
  ·
   exfalso
   exact hE (by simpa using hc)
set_option maxRecDepth 100000 in
theorem List_ok (x : V) (A : As) (e : Int) (hA : AB 1000000 A) (hx : x.wt ≤ 1073741824) (hxt : x.t.size ≤ maxLen) (name : ByteArray) (most : Int) (w : World) (S : BSet) (cn ci : Value) (bo bm : Nat) (hS : ∀ b o, S b o → Cln o) (hM : ∀ b ∈ [bo, bm], ∀ o, ¬ S b o) (hne : bo ≠ bm) (hv : Rd w S (strsD x.ns) cn) (hu : Rd w S (valsD x.xs) ci) (own_bo : Own w bo [.int .u8 x.k, .int .i64 x.n, .string x.t, cn, ci, .map (some bm), .int .i64 (e)] 74) (own_bm : OwnM w bm A) : Calls Try.prog 46 #[.pointer (some ⟨bo, 0, none⟩), .string name, .int .i64 most] w (RetL w [bo, bm] fun u W => Rd W (Fr w) (valsD (if tkB x e name (listE most) then listV most (getV x name) else [])) u ∧ Own W bo [.int .u8 x.k, .int .i64 x.n, .string x.t, cn, ci, .map (some bm), .int .i64 (tkE x e name (listE most))] 74 ∧ OwnM W bm (tkA x A e name (listE most))) := by
  obtain ⟨cna, cnc, ev, D_cn⟩ := rdS_out (rd_argM (M := [bo, bm]) hv hM)
  subst ev
  obtain ⟨cia, cic, ev, D_ci⟩ := rdVs_out (rd_argM (M := [bo, bm]) hu hM)
  subst ev
  refine enter Try.func46 rfl Try.ntmps46 (lbr rfl) fun a0 y0 zz0 harg => ?_
  have e0 : sl a0 0 = (.pointer (some ⟨bo, 0, none⟩)) := harg 0 (lbr rfl)
  have e1 : sl a0 1 = (.string (name)) := harg 1 (lbr rfl)
  have e2 : sl a0 2 = (.int .i64 (most)) := harg 2 (lbr rfl)
  have kw := Keeps.refl (fun k => k ∉ [bo, bm]) w
  clear harg
  refine wp_seq_k fun K1 hK1 => ?_
  refine rg mixed y0 zz0 ?_
  refine .boxOp (v := (.int .i64 (most))) (hbs rfl e2) ?_
  refine .i (sp_assign Has.cst) ?_
  refine .done ⟨by kernel_rfl, fun a2 g W2 y2 zz2 hk hg hV hR hP => ?_⟩
  obtain ⟨-, ⟨b5_2, e5, hb5, own_b5_2⟩, -⟩ := hV
  have lo_b5_2 : w.heap.size ≤ b5_2 := Nat.le_trans kw.size (hg.lo _ _ hb5)
  have ne_bo_b5_2 : bo ≠ b5_2 := Nat.ne_of_lt (Nat.lt_of_lt_of_le own_bo.lt (hg.lo _ _ hb5))
  have ne_bm_b5_2 : bm ≠ b5_2 := Nat.ne_of_lt (Nat.lt_of_lt_of_le own_bm.lt (hg.lo _ _ hb5))
  have own_b5_2 : Own W2 b5_2 [(.int .i64 (most))] 3 := own_b5_2
  replace e0 := (hR 0 rfl).trans e0
  replace e1 := (hR 1 rfl).trans e1
  replace D_cn := sa_more D_cn hk [b5_2] (in_cons (hg.lo _ _ hb5) in_nil)
  replace D_ci := sa_more D_ci hk [b5_2] (in_cons (hg.lo _ _ hb5) in_nil)
  replace own_bo := own_bo.ext hk
  replace own_bm := own_bm.ext hk
  replace kw := kw.x hk
  clear hR hk hg hP hb5
  refine tail_nil (hK1 _ _ ?_)
  refine wp_seq_k fun K3 hK3 => ?_
  refine wp_reg (fun k => k ∉ [bo, bm]) (Ψ := fun W => Own W bo [(.int .u8 (x.k)), (.int .i64 (x.n)), (.string (x.t)), (.slice cna (x.ns.length) cnc), (.slice cia (x.xs.length) cic), (.map (some bm)), (.int .i64 (e))] 74 ∧ OwnM W bm (A)) mixed y2 zz2 (stE_and stE_own stE_ownM) ⟨own_bo, own_bm⟩ ?_
  refine .i (sp_move (hbs rfl e0)) ?_
  refine .i (sp_move (hbs rfl e1)) ?_
  refine .i (v := (.func (.func 109) #[] #[(.pointer (some ⟨b5_2, 0, none⟩))])) (sp_mkF1 (hbs rfl e5)) ?_
  refine .callL3 (φ1 := Is (.pointer (some ⟨bo, 0, none⟩))) (φ2 := Is (.string (name))) (φ3 := Is (.func (.func 109) #[] #[(.pointer (some ⟨b5_2, 0, none⟩))])) (φ := IsD (Fr W2) (valsD (if tkB x e name (listE most) then listV most (getV x name) else []))) (Ψ' := fun W => Own W bo [(.int .u8 (x.k)), (.int .i64 (x.n)), (.string (x.t)), (.slice cna (x.ns.length) cnc), (.slice cia (x.xs.length) cic), (.map (some bm)), (.int .i64 (tkE x e name (listE most)))] 74 ∧ OwnM W bm (tkA x A e name (listE most))) ent108 (hlc rfl) (hlc rfl) (hlc rfl) (st_d (sub_frnl (in_cons own_bo.lt (in_cons own_bm.lt in_nil)))) (stE_and stE_own stE_ownM) (fun g u1 u2 u3 W hk hg h1 h2 h3 hP => by have h1 : u1 = _ := h1; subst u1; have h2 : u2 = _ := h2; subst u2; have h3 : u3 = _ := h3; subst u3; exact (takeL_ok (x) (A) (e) hA hx hxt name 109 #[(.pointer (some ⟨b5_2, 0, none⟩))] (listE most) (listV most) W _ _ _ _ _ (sa_cln hS) (sa_notin (by simp)) hne (sa_keepL D_cn hk (by simp)) (sa_keepL D_ci hk (by simp)) hP.1 hP.2 ent109 (fun W2 hk2 Z y v hy hv2 => list1_ok y most W2 _ v b5_2 hv2 (own_keepL (own_keepL own_b5_2 hk (by simp [ne_bo_b5_2.symm, ne_bm_b5_2.symm])) hk2 (by simp [ne_bo_b5_2.symm, ne_bm_b5_2.symm])))).mono (fun _ _ ⟨v, h1, h2, h3, h4⟩ => ⟨v, h1, h2, fresh_d hk hg h3, h4⟩)) ?_
  refine .op (φ := IsD (Fr W2) (valsD (if tkB x e name (listE most) then listV most (getV x name) else []))) (st_d (sub_frnl (in_cons own_bo.lt (in_cons own_bm.lt in_nil)))) (sp_assign (hlc rfl)) ?_
  refine .done ⟨by kernel_rfl, fun a4 g W4 y4 zz4 hk hg hV hR hP => ?_⟩
  obtain ⟨e6, -, -, -, -, -⟩ := hV
  obtain ⟨v6_4, ev⟩ : ∃ v, sl a4 6 = v := ⟨_, rfl⟩
  rw [ev] at e6
  have D_v6_4 : Rd W4 (SF w [b5_2, bo, bm]) (valsD (if tkB x e name (listE most) then listV most (getV x name) else [])) v6_4 := fr_end (M := [b5_2, bo, bm]) e6 kw [] in_nil (in_cons own_b5_2.lt (in_cons own_bo.lt (in_cons own_bm.lt in_nil)))
  replace e6 := ev; clear ev
  obtain ⟨v6_4a, v6_4c, ev, D2⟩ := rdVs_out D_v6_4
  subst ev; replace D_v6_4 := D2; clear D2
  replace D_cn := sa_keepL D_cn hk (by simp)
  replace D_ci := sa_keepL D_ci hk (by simp)
  replace own_b5_2 := own_keepL own_b5_2 hk (by simp [ne_bo_b5_2.symm, ne_bm_b5_2.symm])
  obtain ⟨own_bo, own_bm⟩ := hP
  replace own_bo : Own W4 bo [(.int .u8 (x.k)), (.int .i64 (x.n)), (.string (x.t)), (.slice cna (x.ns.length) cnc), (.slice cia (x.xs.length) cic), (.map (some bm)), (.int .i64 (tkE x e name (listE most)))] 74 := own_bo
  replace own_bm : OwnM W4 bm (tkA x A e name (listE most)) := own_bm
  replace kw := keeps_L kw hk (in_cons (.inr (by simp)) (in_cons (.inr (by simp)) in_nil))
  clear hR hk hg
  refine tail_nil (hK3 _ _ ?_)
  refine wp_ret ?_
  refine (show bodyPost Try.prog Try.f46 _ .ret _ _ from ret1 rfl zz4 e6 ⟨_, rfl, kw, ?_⟩)
  exact ⟨sf_fr D_v6_4, own_bo, own_bm⟩
set_option maxRecDepth 100000 in
theorem ListD_ok (k : Nat) (n : Int) (t : ByteArray) (cn ci mv : Value) (e : Int) (hE : errK k e ≠ 0) (name : ByteArray) (most : Int) (w : World) (bo : Nat) (own_bo : Own w bo [.int .u8 k, .int .i64 n, .string t, cn, ci, mv, .int .i64 e] 74) : Calls Try.prog 46 #[.pointer (some ⟨bo, 0, none⟩), .string name, .int .i64 most] w (Ret w fun u _ => u = .slice none 0 0) := by
  refine enter Try.func46 rfl Try.ntmps46 (lbr rfl) fun a0 y0 zz0 harg => ?_
  have e0 : sl a0 0 = (.pointer (some ⟨bo, 0, none⟩)) := harg 0 (lbr rfl)
  have e1 : sl a0 1 = (.string (name)) := harg 1 (lbr rfl)
  have e2 : sl a0 2 = (.int .i64 (most)) := harg 2 (lbr rfl)
  have kw := Keeps.refl All w
  clear harg
  refine wp_seq_k fun K1 hK1 => ?_
  refine rg mixed y0 zz0 ?_
  refine .boxOp (v := (.int .i64 (most))) (hbs rfl e2) ?_
  refine .i (sp_assign Has.cst) ?_
  refine .done ⟨by kernel_rfl, fun a2 g W2 y2 zz2 hk hg hV hR hP => ?_⟩
  obtain ⟨-, ⟨b5_2, e5, hb5, own_b5_2⟩, -⟩ := hV
  have lo_b5_2 : w.heap.size ≤ b5_2 := Nat.le_trans kw.size (hg.lo _ _ hb5)
  have ne_bo_b5_2 : bo ≠ b5_2 := Nat.ne_of_lt (Nat.lt_of_lt_of_le own_bo.lt (hg.lo _ _ hb5))
  have own_b5_2 : Own W2 b5_2 [(.int .i64 (most))] 3 := own_b5_2
  replace e0 := (hR 0 rfl).trans e0
  replace e1 := (hR 1 rfl).trans e1
  replace own_bo := own_bo.ext hk
  replace kw := kw.x hk
  clear hR hk hg hP hb5
  refine tail_nil (hK1 _ _ ?_)
  refine wp_seq_k fun K3 hK3 => ?_
  refine rg mixed y2 zz2 ?_
  refine .i (sp_move (hbs rfl e0)) ?_
  refine .i (sp_move (hbs rfl e1)) ?_
  refine .i (v := (.func (.func 109) #[] #[(.pointer (some ⟨b5_2, 0, none⟩))])) (sp_mkF1 (hbs rfl e5)) ?_
  refine .i (v := (.slice none 0 0)) (sp_call3 (φ1 := Is (.pointer (some ⟨bo, 0, none⟩))) (φ2 := Is (.string (name))) (φ3 := Is (.func (.func 109) #[] #[(.pointer (some ⟨b5_2, 0, none⟩))])) ent108 (hlc rfl) (hlc rfl) (hlc rfl) (fun g u1 u2 u3 W hk hgk h1 h2 h3 => by have h1 : u1 = _ := h1; subst u1; have h2 : u2 = _ := h2; subst u2; have h3 : u3 = _ := h3; subst u3; exact takeLD_ok _ _ _ _ _ _ _ hE _ _ W _ (own_bo.ext hk))) ?_
  refine .i (sp_assign (hlc rfl)) ?_
  refine .done ⟨by kernel_rfl, fun a4 g W4 y4 zz4 hk hg hV hR hP => ?_⟩
  obtain ⟨e6, -, -, -, -, -⟩ := hV
  have e6 : sl a4 6 = (.slice none 0 0) := e6
  replace own_bo := own_bo.ext hk
  replace own_b5_2 := own_b5_2.ext hk
  replace kw := kw.x hk
  clear hR hk hg hP
  refine tail_nil (hK3 _ _ ?_)
  refine wp_ret ?_
  refine (show bodyPost Try.prog Try.f46 _ .ret _ _ from ret1 rfl zz4 e6 ⟨_, rfl, kw, ?_⟩)
  exact rfl
end Go.Proofs.Ytnobijngkpflcaa
namespace Go.Proofs.Ytnobijngkpflcaa
open Go.Eng
set_option maxRecDepth 100000 in
theorem long11_ok (l : List Cl) (w : World) (S : BSet) (v : Value) (hv : Rd w S (clsD l) v) : Calls Try.prog 27 #[v] w (Ret w fun u _ => u = .bool (decide (5000 ≤ szC l 0))) := by
  have hmx : l.length ≤ maxLen := rdCls_len hv
  simp only [maxLen] at hmx
  obtain ⟨va, vc, ev, D_v⟩ := rdCls_out (rd_arg hv)
  subst ev
  refine enter Try.func27 rfl Try.ntmps27 (lbr rfl) fun a0 y0 zz0 harg => ?_
  have e0 : sl a0 0 = (.slice va (l.length) vc) := harg 0 (lbr rfl)
  have kw := Keeps.refl All w
  clear harg
  refine wp_seq_k fun K1 hK1 => ?_
  refine rg mixed y0 zz0 ?_
  refine .i (sp_assign Has.cst) ?_
  refine .done ⟨by kernel_rfl, fun a2 g W2 y2 zz2 hk hg hV hR hP => ?_⟩
  obtain ⟨-, -⟩ := hV
  replace e0 := (hR 0 rfl).trans e0
  replace D_v := D_v.ext hk
  replace kw := kw.x hk
  clear hR hk hg hP
  refine tail_nil (hK1 _ _ ?_)
  refine wp_seq_k fun K3 hK3 => ?_
  refine rg mixed y2 zz2 ?_
  refine .i (sp_assign Has.cst) ?_
  refine .done ⟨by kernel_rfl, fun a4 g W4 y4 zz4 hk hg hV hR hP => ?_⟩
  obtain ⟨e3, -⟩ := hV
  replace e0 := (hR 0 rfl).trans e0
  replace D_v := D_v.ext hk
  have e3 : sl a4 3 = (.int .i64 (0)) := e3
  replace kw := kw.x hk
  clear hR hk hg hP
  refine tail_nil (hK3 _ _ ?_)
  refine wp_seq_k fun K5 hK5 => ?_
  refine wp_seq_k fun K6 hK6 => ?_
  refine rg mixed y4 zz4 ?_
  refine .i (sp_assign Has.cst) ?_
  refine .done ⟨by kernel_rfl, fun a7 g W7 y7 zz7 hk hg hV hR hP => ?_⟩
  obtain ⟨e4, -⟩ := hV
  replace e0 := (hR 0 rfl).trans e0
  replace e3 := (hR 3 rfl).trans e3
  replace D_v := D_v.ext hk
  have e4 : sl a7 4 = (.int .i64 (0)) := e4
  replace kw := kw.x hk
  clear hR hk hg hP
  refine tail_nil (hK6 _ _ ?_)
  refine wp_block ?_
  refine wp_for (l.length) (fun k a W => ∃ (n2 : Nat), a.tmps.size = 27 ∧ a.defers = [] ∧ Keeps All w W ∧ sl a 0 = (.slice va (l.length) vc) ∧ sl a 3 = (.int .i64 ((n2 : Nat))) ∧ sl a 4 = (.int .i64 ((k : Nat))) ∧ Rd W (SA w S []) (clsD (l)) (.slice va (l.length) vc) ∧ (szC l 0 = szC (l.drop k) n2) ∧ (n2 ≤ 20020)) ⟨0, y7, zz7, kw, e0, (e3.trans (congrArg (Value.int .i64) (rfl))), (e4.trans (congrArg (Value.int .i64) (rfl))), D_v, rfl, by omega⟩ ?_
  clear kw e0 e3 e4 D_v
  rintro k a8 W8 hkk ⟨n2, y8, zz8, kw, e0, e3, e4, D_v, hin, hb2⟩
  refine wp_seq_k fun K9 hK9 => ?_
  refine wp_seq_k fun K10 hK10 => ?_
  refine rg mixed y8 zz8 ?_
  refine .i (sp_move (hbs rfl e4)) ?_
  refine .i (sp_move (hbs rfl e0)) ?_
  refine .i (sp_lenL Try.underlying46 ((hlc rfl).dat D_v sub_all)) ?_
  refine .i (sp_lss (hlc rfl) (hlc rfl)) ?_
  refine .i (sp_move (hlc rfl)) ?_
  refine .e (t := 9) rfl (hlc rfl) (fun hg => sp_move (hbs rfl e3)) ?_
  refine .e (t := 9) rfl (hlc rfl) (fun hg => sp_lss ((hlc rfl).undE hg) Has.cst) ?_
  refine .i (sp_and (hlc rfl) ((hlc rfl).weak fun hq => hq)) ?_
  refine .done ⟨by kernel_rfl, fun a11 g W11 y11 zz11 hk hg hV hR hP => ?_⟩
  obtain ⟨e12, -, -, -, -, -, -, -, -⟩ := hV
  replace e0 := (hR 0 rfl).trans e0
  replace e3 := (hR 3 rfl).trans e3
  replace e4 := (hR 4 rfl).trans e4
  replace D_v := D_v.ext hk
  replace e12 := e12.q
  replace kw := kw.x hk
  clear hR hk hg hP
  refine tail_nil (hK10 _ _ ?_)
  refine wp_cond_split e12 (fun hc => ?_) (fun hc => ?_)
  ·
   simp at hc
   obtain ⟨hlt, hn5⟩ := hc
   have hn3 : n2 < 5000 := by omega
   rw [List.drop_eq_getElem_cons hlt, szC, if_pos hn3] at hin
   refine wp_skip (hK9 _ _ ?_)
   refine wp_seq_k fun K12 hK12 => ?_
   refine wp_block ?_
   refine rg mixed y11 zz11 ?_
   refine .i (sp_move (hbs rfl e3)) ?_
   refine .i (sp_add (hlc rfl) Has.cst (i64_in (by omega))) ?_
   refine .i (sp_move (hbs rfl e0)) ?_
   refine .i (sp_move (hbs rfl e4)) ?_
   refine .rf (X := SA w S []) (e := Cl.d (l[k]'hlt)) (sp_indexL (i := k) ((hlc rfl).dat D_v sub_all) (hlc rfl) Try.underlying46 sz54 rfl hlt) ?_
   refine .rf (X := SA w S []) (e := D.str ((l[k]'hlt).nm)) (sp_fieldR (hlc rfl) Try.underlying54 rfl sz9 rfl (by first | rfl | simp [widths, width, hssD, width_V])) ?_
   refine .i (sp_loadStr (hlc rfl) agg9 sz9) ?_
   refine .i (sp_lenS Try.underlying9 (hlc rfl)) ?_
   refine .i (sp_min Has.cst (hlc rfl)) ?_
   refine .i (sp_add (hlc rfl) (hlc rfl) (i64_in (by omega))) ?_
   refine .i (sp_assign (hlc rfl)) ?_
   refine .done ⟨by kernel_rfl, fun a13 g W13 y13 zz13 hk hg hV hR hP => ?_⟩
   obtain ⟨e3, -, -, -, -, -, -, -, -, -, -, -⟩ := hV
   replace e0 := (hR 0 rfl).trans e0
   replace e4 := (hR 4 rfl).trans e4
   replace D_v := D_v.ext hk
   replace e3 := e3.q
   replace kw := kw.x hk
   clear hR hk hg hP
   refine tail_nil (hK12 _ _ ?_)
   refine rg mixed y13 zz13 ?_
   refine .i (sp_move (hbs rfl e4)) ?_
   refine .i (sp_add (hlc rfl) Has.cst (i64_in (by omega))) ?_
   refine .i (sp_assign (hlc rfl)) ?_
   refine .done ⟨by kernel_rfl, fun a14 g W14 y14 zz14 hk hg hV hR hP => ?_⟩
   obtain ⟨e4, -, -, -⟩ := hV
   replace e0 := (hR 0 rfl).trans e0
   replace e3 := (hR 3 rfl).trans e3
   replace D_v := D_v.ext hk
   replace e4 := e4.q
   replace kw := kw.x hk
   clear hR hk hg hP
   exact tail_nil ⟨hlt, (n2 + 10 + min 5000 (l[k]'hlt).nm.size), y14, zz14, kw, e0, (e3.trans (congrArg (Value.int .i64) (by push_cast; omega))), (e4.trans (congrArg (Value.int .i64) (by simp))), D_v, hin, by omega⟩
  ·
   have hfin : szC l 0 = n2 := by
    rw [hin]; simp at hc
    by_cases hlt : k < l.length
    · exact szC_big _ (by have := hc hlt; omega)
    · rw [List.drop_eq_nil_of_le (by omega)]; rfl
   refine wp_exit (hK5 _ _ ?_)
   refine wp_seq_k fun K15 hK15 => ?_
   refine rg mixed y11 zz11 ?_
   refine .i (sp_move (hbs rfl e3)) ?_
   refine .i (sp_geq (hlc rfl) Has.cst) ?_
   refine .i (sp_assign (hlc rfl)) ?_
   refine .done ⟨by kernel_rfl, fun a16 g W16 y16 zz16 hk hg hV hR hP => ?_⟩
   obtain ⟨e2, -, -, -⟩ := hV
   replace D_v := D_v.ext hk
   replace e2 := e2.q
   replace kw := kw.x hk
   clear hR hk hg hP
   refine tail_nil (hK15 _ _ ?_)
   refine wp_ret ?_
   refine (show bodyPost Try.prog Try.f27 _ .ret _ _ from ret1 rfl zz16 e2 ⟨_, rfl, kw, ?_⟩)
   rw [hfin]
   exact congrArg Value.bool (decide_eq_decide.2 (by omega))
set_option maxRecDepth 100000 in
set_option maxHeartbeats 2000000 in
theorem quiet_ok (x : V) (A : As) (e : Int) (hA : AB 1000000 A) (hx : x.wt ≤ 1073741824) (hxt : x.t.size ≤ maxLen) (c : Cl) (w : World) (S : BSet) (cn ci : Value) (bo bm : Nat) (hS : ∀ b o, S b o → Cln o) (hM : ∀ b ∈ [bo, bm], ∀ o, ¬ S b o) (hne : bo ≠ bm) (hv : Rd w S (strsD x.ns) cn) (hu : Rd w S (valsD x.xs) ci) (own_bo : Own w bo [.int .u8 x.k, .int .i64 x.n, .string x.t, cn, ci, .map (some bm), .int .i64 (e)] 74) (own_bm : OwnM w bm A) (vc : Value) (hc : Rd w S c.d vc) : Calls Try.prog 35 #[.pointer (some ⟨bo, 0, none⟩), vc] w (RetL w [bo, bm] fun u W => u = .bool (qR x e c) ∧ Own W bo [.int .u8 x.k, .int .i64 x.n, .string x.t, cn, ci, .map (some bm), .int .i64 (qE x e c)] 74 ∧ OwnM W bm (qA x A e c)) := by
  have hwg := Nat.le_trans (getV_wt x c.nm) hx
  obtain ⟨ev, hb_p1_1⟩ := rdCl_out (rd_argM (M := [bo, bm]) hc hM)
  subst ev
  obtain ⟨cna, cnc, ev, D_cn⟩ := rdS_out (rd_argM (M := [bo, bm]) hv hM)
  subst ev
  obtain ⟨cia, cic, ev, D_ci⟩ := rdVs_out (rd_argM (M := [bo, bm]) hu hM)
  subst ev
  refine enter Try.func35 rfl Try.ntmps35 (lbr rfl) fun a0 y0 zz0 harg => ?_
  have e0 : sl a0 0 = (.pointer (some ⟨bo, 0, none⟩)) := harg 0 (lbr rfl)
  have e1 : sl a0 1 = (.agg #[(.int .u8 (c.wh)), (.string (c.nm)), (.int .i64 (c.lo)), (.int .i64 (c.hi)), (.int .i64 (c.mo)), (.int .i64 (c.er))]) := harg 1 (lbr rfl)
  have kw := Keeps.refl (fun k => k ∉ [bo, bm]) w
  clear harg
  refine wp_seq_k fun K1 hK1 => ?_
  refine rg mixed y0 zz0 ?_
  refine .boxOp (v := (.agg #[(.int .u8 (c.wh)), (.string (c.nm)), (.int .i64 (c.lo)), (.int .i64 (c.hi)), (.int .i64 (c.mo)), (.int .i64 (c.er))])) (hbs rfl e1) ?_
  refine .i (sp_assign Has.cst) ?_
  refine .done ⟨by kernel_rfl, fun a2 g W2 y2 zz2 hk hg hV hR hP => ?_⟩
  obtain ⟨-, ⟨b3_2, e3, hb3, own_b3_2⟩, -⟩ := hV
  have lo_b3_2 : w.heap.size ≤ b3_2 := Nat.le_trans kw.size (hg.lo _ _ hb3)
  have ne_bo_b3_2 : bo ≠ b3_2 := Nat.ne_of_lt (Nat.lt_of_lt_of_le own_bo.lt (hg.lo _ _ hb3))
  have ne_bm_b3_2 : bm ≠ b3_2 := Nat.ne_of_lt (Nat.lt_of_lt_of_le own_bm.lt (hg.lo _ _ hb3))
  have own_b3_2 : Own W2 b3_2 [(.int .u8 (c.wh)), (.string (c.nm)), (.int .i64 (c.lo)), (.int .i64 (c.hi)), (.int .i64 (c.mo)), (.int .i64 (c.er))] 54 := own_b3_2
  replace e0 := (hR 0 rfl).trans e0
  replace D_cn := sa_more D_cn hk [b3_2] (in_cons (hg.lo _ _ hb3) in_nil)
  replace D_ci := sa_more D_ci hk [b3_2] (in_cons (hg.lo _ _ hb3) in_nil)
  replace own_bo := own_bo.ext hk
  replace own_bm := own_bm.ext hk
  replace kw := kw.x hk
  clear hR hk hg hP hb3
  refine tail_nil (hK1 _ _ ?_)
  refine wp_seq_k fun K3 hK3 => ?_
  refine wp_seq_k fun K4 hK4 => ?_
  refine rg mixed y2 zz2 ?_
  refine .i (fo 0 (hbs rfl e3) Try.underlying54 rfl sz5 rfl) ?_
  refine .i (lo1 (hlc rfl) own_b3_2 trivial agg5 sz5 rfl) ?_
  refine .done ⟨by kernel_rfl, fun a5 g W5 y5 zz5 hk hg hV hR hP => ?_⟩
  obtain ⟨e6, -, -⟩ := hV
  replace e0 := (hR 0 rfl).trans e0
  replace e3 := (hR 3 rfl).trans e3
  replace D_cn := D_cn.ext hk
  replace D_ci := D_ci.ext hk
  have e6 : sl a5 6 = (.int .u8 (c.wh)) := e6
  replace own_bo := own_bo.ext hk
  replace own_bm := own_bm.ext hk
  replace own_b3_2 := own_b3_2.ext hk
  replace kw := kw.x hk
  clear hR hk hg hP
  refine tail_nil (hK4 _ _ ?_)
  refine wp_block ?_
  refine wp_seq_k fun K6 hK6 => ?_
  refine rg mixed y5 zz5 ?_
  refine .i (sp_eql (hbs rfl e6) Has.cst) ?_
  refine .i (sp_assign (hlc rfl)) ?_
  refine .done ⟨by kernel_rfl, fun a7 g W7 y7 zz7 hk hg hV hR hP => ?_⟩
  obtain ⟨e7, -, -⟩ := hV
  replace e0 := (hR 0 rfl).trans e0
  replace e3 := (hR 3 rfl).trans e3
  replace e6 := (hR 6 rfl).trans e6
  replace D_cn := D_cn.ext hk
  replace D_ci := D_ci.ext hk
  have e7 : sl a7 7 = (.bool ((c.wh : Int) == (0 : Int))) := e7
  replace own_bo := own_bo.ext hk
  replace own_bm := own_bm.ext hk
  replace own_b3_2 := own_b3_2.ext hk
  replace kw := kw.x hk
  clear hR hk hg hP
  refine tail_nil (hK6 _ _ ?_)
  refine wp_cond_split e7 (fun hc => ?_) (fun hc => ?_)
  ·
   have hw : c.wh = 0 := by have := eq_of_beq hc; omega
   have hR : qR x e c = !(decide (errK x.k e = 0) && getB x c.nm) := by rw [qR, if_pos hw]
   have hE1 : qE x e c = e := by rw [qE, if_pos hw]
   have hA1 : qA x A e c = A := by rw [qA, if_pos hw]
   refine wp_seq_k fun K8 hK8 => ?_
   refine rg mixed y7 zz7 ?_
   refine .i (sp_move (hbs rfl e0)) ?_
   refine .i (fo 1 (hbs rfl e3) Try.underlying54 rfl sz9 rfl) ?_
   refine .i (lo1 (hlc rfl) own_b3_2 trivial agg9 sz9 rfl) ?_
   refine .i (v := (.bool (decide (errK x.k e = 0) && getB x c.nm))) (sp_call2 (φ1 := Is (.pointer (some ⟨bo, 0, none⟩))) (φ2 := Is (.string (c.nm))) ent42 (hlc rfl) (hlc rfl) (fun g u1 u2 W hk hgk h1 h2 => by have h1 : u1 = _ := h1; subst u1; have h2 : u2 = _ := h2; subst u2; exact HasO_ok (x) (e) hx hxt (c.nm) W _ _ _ _ _ (sa_cln hS) (D_cn.ext hk) (D_ci.ext hk) (own_bo.ext hk))) ?_
   refine .i (sp_not (hlc rfl)) ?_
   refine .i (sp_assign (hlc rfl)) ?_
   refine .done ⟨by kernel_rfl, fun a9 g W9 y9 zz9 hk hg hV hR hP => ?_⟩
   obtain ⟨e4, -, -, -, -, -, -⟩ := hV
   replace D_cn := D_cn.ext hk
   replace D_ci := D_ci.ext hk
   replace e4 := e4.q
   replace own_bo := own_bo.ext hk
   replace own_bm := own_bm.ext hk
   replace own_b3_2 := own_b3_2.ext hk
   replace kw := kw.x hk
   clear hR hk hg hP
   refine tail_nil (hK8 _ _ ?_)
   refine wp_ret ?_
   refine (show bodyPost Try.prog Try.f35 _ .ret _ _ from ret1 rfl zz9 e4 ⟨_, rfl, kw, ?_⟩)
   rw [hR, hE1, hA1]
   exact ⟨rfl, own_bo, own_bm⟩
  ·
   have n0 : ¬ c.wh = 0 := by have := ne_of_beq_false hc; omega
   refine wp_seq_k fun K10 hK10 => ?_
   refine rg mixed y7 zz7 ?_
   refine .i (sp_eql (hbs rfl e6) Has.cst) ?_
   refine .i (sp_assign (hlc rfl)) ?_
   refine .done ⟨by kernel_rfl, fun a11 g W11 y11 zz11 hk hg hV hR hP => ?_⟩
   obtain ⟨e14, -, -⟩ := hV
   replace e0 := (hR 0 rfl).trans e0
   replace e3 := (hR 3 rfl).trans e3
   replace e6 := (hR 6 rfl).trans e6
   replace D_cn := D_cn.ext hk
   replace D_ci := D_ci.ext hk
   have e14 : sl a11 14 = (.bool ((c.wh : Int) == (1 : Int))) := e14
   replace own_bo := own_bo.ext hk
   replace own_bm := own_bm.ext hk
   replace own_b3_2 := own_b3_2.ext hk
   replace kw := kw.x hk
   clear hR hk hg hP
   refine tail_nil (hK10 _ _ ?_)
   refine wp_cond_split e14 (fun hc => ?_) (fun hc => ?_)
   ·
    have hw : c.wh = 1 := by have := eq_of_beq hc; omega
    have hR : qR x e c = decide ((if tkB x e c.nm textE then textV (getV x c.nm) else ⟨#[]⟩) = (⟨#[]⟩ : ByteArray)) := by rw [qR, if_neg n0, if_pos hw]
    have hE1 : qE x e c = tkE x e c.nm textE := by rw [qE, if_neg n0, if_pos hw]
    have hA1 : qA x A e c = tkA x A e c.nm textE := by rw [qA, if_neg n0, if_pos hw]
    refine wp_seq_k fun K12 hK12 => ?_
    refine wp_reg (fun k => k ∉ [bo, bm]) (Ψ := fun W => Own W bo [(.int .u8 (x.k)), (.int .i64 (x.n)), (.string (x.t)), (.slice cna (x.ns.length) cnc), (.slice cia (x.xs.length) cic), (.map (some bm)), (.int .i64 (e))] 74 ∧ OwnM W bm (A)) mixed y11 zz11 (stE_and stE_own stE_ownM) ⟨own_bo, own_bm⟩ ?_
    refine .i (sp_move (hbs rfl e0)) ?_
    refine .i (fo 1 (hbs rfl e3) Try.underlying54 rfl sz9 rfl) ?_
    refine .i (lo1 (hlc rfl) own_b3_2 (by simp [ne_bo_b3_2.symm, ne_bm_b3_2.symm]) agg9 sz9 rfl) ?_
    refine .callL2 (φ1 := Is (.pointer (some ⟨bo, 0, none⟩))) (φ2 := Is (.string (c.nm))) (φ := Is (.string (if tkB x e c.nm textE then textV (getV x c.nm) else ⟨#[]⟩))) (Ψ' := fun W => Own W bo [(.int .u8 (x.k)), (.int .i64 (x.n)), (.string (x.t)), (.slice cna (x.ns.length) cnc), (.slice cia (x.xs.length) cic), (.map (some bm)), (.int .i64 (tkE x e c.nm textE))] 74 ∧ OwnM W bm (tkA x A e c.nm textE)) ent43 (hlc rfl) (hlc rfl) (st_is _) (stE_and stE_own stE_ownM) (fun g u1 u2 W hk hg h1 h2 hP => by have h1 : u1 = _ := h1; subst u1; have h2 : u2 = _ := h2; subst u2; exact (Text_ok (x) (A) (e) hA hx hxt c.nm W _ _ _ _ _ (sa_cln hS) (sa_notin (by simp)) hne (sa_keepL D_cn hk (by simp)) (sa_keepL D_ci hk (by simp)) hP.1 hP.2)) ?_
    refine .i (sp_sEql (hlc rfl) Has.cst) ?_
    refine .i (sp_assign (hlc rfl)) ?_
    refine .done ⟨by kernel_rfl, fun a13 g W13 y13 zz13 hk hg hV hR hP => ?_⟩
    obtain ⟨e4, -, -, -, -, -, -⟩ := hV
    replace e4 := e4.q
    replace D_cn := sa_keepL D_cn hk (by simp)
    replace D_ci := sa_keepL D_ci hk (by simp)
    replace own_b3_2 := own_keepL own_b3_2 hk (by simp [ne_bo_b3_2.symm, ne_bm_b3_2.symm])
    obtain ⟨own_bo, own_bm⟩ := hP
    replace own_bo : Own W13 bo [(.int .u8 (x.k)), (.int .i64 (x.n)), (.string (x.t)), (.slice cna (x.ns.length) cnc), (.slice cia (x.xs.length) cic), (.map (some bm)), (.int .i64 (tkE x e c.nm textE))] 74 := own_bo
    replace own_bm : OwnM W13 bm (tkA x A e c.nm textE) := own_bm
    replace kw := keeps_L kw hk (in_cons (.inr (by simp)) (in_cons (.inr (by simp)) in_nil))
    clear hR hk hg
    refine tail_nil (hK12 _ _ ?_)
    refine wp_ret ?_
    refine (show bodyPost Try.prog Try.f35 _ .ret _ _ from ret1 rfl zz13 e4 ⟨_, rfl, kw, ?_⟩)
    rw [hR, hE1, hA1]
    exact ⟨rfl, own_bo, own_bm⟩
   ·
    have n1 : ¬ c.wh = 1 := by have := ne_of_beq_false hc; omega
    refine wp_seq_k fun K14 hK14 => ?_
    refine rg mixed y11 zz11 ?_
    refine .i (sp_eql (hbs rfl e6) Has.cst) ?_
    refine .i (sp_assign (hlc rfl)) ?_
    refine .done ⟨by kernel_rfl, fun a15 g W15 y15 zz15 hk hg hV hR hP => ?_⟩
    obtain ⟨e21, -, -⟩ := hV
    replace e0 := (hR 0 rfl).trans e0
    replace e3 := (hR 3 rfl).trans e3
    replace e6 := (hR 6 rfl).trans e6
    replace D_cn := D_cn.ext hk
    replace D_ci := D_ci.ext hk
    have e21 : sl a15 21 = (.bool ((c.wh : Int) == (2 : Int))) := e21
    replace own_bo := own_bo.ext hk
    replace own_bm := own_bm.ext hk
    replace own_b3_2 := own_b3_2.ext hk
    replace kw := kw.x hk
    clear hR hk hg hP
    refine tail_nil (hK14 _ _ ?_)
    refine wp_cond_split e21 (fun hc => ?_) (fun hc => ?_)
    ·
     have hw : c.wh = 2 := by have := eq_of_beq hc; omega
     have hR : qR x e c = ((if tkB x e c.nm (numE c.lo c.hi) then numV c.lo c.hi (getV x c.nm) else 0) == 0) := by rw [qR, if_neg n0, if_neg n1, if_pos hw]
     have hE1 : qE x e c = tkE x e c.nm (numE c.lo c.hi) := by rw [qE, if_neg n0, if_neg n1, if_pos hw]
     have hA1 : qA x A e c = tkA x A e c.nm (numE c.lo c.hi) := by rw [qA, if_neg n0, if_neg n1, if_pos hw]
     refine wp_seq_k fun K16 hK16 => ?_
     refine wp_reg (fun k => k ∉ [bo, bm]) (Ψ := fun W => Own W bo [(.int .u8 (x.k)), (.int .i64 (x.n)), (.string (x.t)), (.slice cna (x.ns.length) cnc), (.slice cia (x.xs.length) cic), (.map (some bm)), (.int .i64 (e))] 74 ∧ OwnM W bm (A)) mixed y15 zz15 (stE_and stE_own stE_ownM) ⟨own_bo, own_bm⟩ ?_
     refine .i (sp_move (hbs rfl e0)) ?_
     refine .i (fo 1 (hbs rfl e3) Try.underlying54 rfl sz9 rfl) ?_
     refine .i (lo1 (hlc rfl) own_b3_2 (by simp [ne_bo_b3_2.symm, ne_bm_b3_2.symm]) agg9 sz9 rfl) ?_
     refine .i (fo 2 (hbs rfl e3) Try.underlying54 rfl sz2 rfl) ?_
     refine .i (lo1 (hlc rfl) own_b3_2 (by simp [ne_bo_b3_2.symm, ne_bm_b3_2.symm]) agg2 sz2 rfl) ?_
     refine .i (fo 3 (hbs rfl e3) Try.underlying54 rfl sz2 rfl) ?_
     refine .i (lo1 (hlc rfl) own_b3_2 (by simp [ne_bo_b3_2.symm, ne_bm_b3_2.symm]) agg2 sz2 rfl) ?_
     refine .callL4 (φ1 := Is (.pointer (some ⟨bo, 0, none⟩))) (φ2 := Is (.string (c.nm))) (φ3 := Is (.int .i64 (c.lo))) (φ4 := Is (.int .i64 (c.hi))) (φ := Is (.int .i64 (if tkB x e c.nm (numE c.lo c.hi) then numV c.lo c.hi (getV x c.nm) else 0))) (Ψ' := fun W => Own W bo [(.int .u8 (x.k)), (.int .i64 (x.n)), (.string (x.t)), (.slice cna (x.ns.length) cnc), (.slice cia (x.xs.length) cic), (.map (some bm)), (.int .i64 (tkE x e c.nm (numE c.lo c.hi)))] 74 ∧ OwnM W bm (tkA x A e c.nm (numE c.lo c.hi))) ent44 (hlc rfl) (hlc rfl) (hlc rfl) (hlc rfl) (st_is _) (stE_and stE_own stE_ownM) (fun g u1 u2 u3 u4 W hk hg h1 h2 h3 h4 hP => by have h1 : u1 = _ := h1; subst u1; have h2 : u2 = _ := h2; subst u2; have h3 : u3 = _ := h3; subst u3; have h4 : u4 = _ := h4; subst u4; exact (Num_ok (x) (A) (e) hA hx hxt c.nm c.lo c.hi W _ _ _ _ _ (sa_cln hS) (sa_notin (by simp)) hne (sa_keepL D_cn hk (by simp)) (sa_keepL D_ci hk (by simp)) hP.1 hP.2)) ?_
     refine .i (sp_eql (hlc rfl) Has.cst) ?_
     refine .i (sp_assign (hlc rfl)) ?_
     refine .done ⟨by kernel_rfl, fun a17 g W17 y17 zz17 hk hg hV hR hP => ?_⟩
     obtain ⟨e4, -, -, -, -, -, -, -, -, -, -⟩ := hV
     replace e4 := e4.q
     replace D_cn := sa_keepL D_cn hk (by simp)
     replace D_ci := sa_keepL D_ci hk (by simp)
     replace own_b3_2 := own_keepL own_b3_2 hk (by simp [ne_bo_b3_2.symm, ne_bm_b3_2.symm])
     obtain ⟨own_bo, own_bm⟩ := hP
     replace own_bo : Own W17 bo [(.int .u8 (x.k)), (.int .i64 (x.n)), (.string (x.t)), (.slice cna (x.ns.length) cnc), (.slice cia (x.xs.length) cic), (.map (some bm)), (.int .i64 (tkE x e c.nm (numE c.lo c.hi)))] 74 := own_bo
     replace own_bm : OwnM W17 bm (tkA x A e c.nm (numE c.lo c.hi)) := own_bm
     replace kw := keeps_L kw hk (in_cons (.inr (by simp)) (in_cons (.inr (by simp)) in_nil))
     clear hR hk hg
     refine tail_nil (hK16 _ _ ?_)
     refine wp_ret ?_
     refine (show bodyPost Try.prog Try.f35 _ .ret _ _ from ret1 rfl zz17 e4 ⟨_, rfl, kw, ?_⟩)
     rw [hR, hE1, hA1]
     exact ⟨rfl, own_bo, own_bm⟩
    ·
     have n2 : ¬ c.wh = 2 := by have := ne_of_beq_false hc; omega
     refine wp_seq_k fun K18 hK18 => ?_
     refine rg mixed y15 zz15 ?_
     refine .i (sp_eql (hbs rfl e6) Has.cst) ?_
     refine .i (sp_assign (hlc rfl)) ?_
     refine .done ⟨by kernel_rfl, fun a19 g W19 y19 zz19 hk hg hV hR hP => ?_⟩
     obtain ⟨e32, -, -⟩ := hV
     replace e0 := (hR 0 rfl).trans e0
     replace e3 := (hR 3 rfl).trans e3
     replace e6 := (hR 6 rfl).trans e6
     replace D_cn := D_cn.ext hk
     replace D_ci := D_ci.ext hk
     have e32 : sl a19 32 = (.bool ((c.wh : Int) == (3 : Int))) := e32
     replace own_bo := own_bo.ext hk
     replace own_bm := own_bm.ext hk
     replace own_b3_2 := own_b3_2.ext hk
     replace kw := kw.x hk
     clear hR hk hg hP
     refine tail_nil (hK18 _ _ ?_)
     refine wp_cond_split e32 (fun hc => ?_) (fun hc => ?_)
     ·
      have hw : c.wh = 3 := by have := eq_of_beq hc; omega
      have hR : qR x e c = !(if tkB x e c.nm boolE then boolV (getV x c.nm) else false) := by rw [qR, if_neg n0, if_neg n1, if_neg n2, if_pos hw]
      have hE1 : qE x e c = tkE x e c.nm boolE := by rw [qE, if_neg n0, if_neg n1, if_neg n2, if_pos hw]
      have hA1 : qA x A e c = tkA x A e c.nm boolE := by rw [qA, if_neg n0, if_neg n1, if_neg n2, if_pos hw]
      refine wp_seq_k fun K20 hK20 => ?_
      refine wp_reg (fun k => k ∉ [bo, bm]) (Ψ := fun W => Own W bo [(.int .u8 (x.k)), (.int .i64 (x.n)), (.string (x.t)), (.slice cna (x.ns.length) cnc), (.slice cia (x.xs.length) cic), (.map (some bm)), (.int .i64 (e))] 74 ∧ OwnM W bm (A)) mixed y19 zz19 (stE_and stE_own stE_ownM) ⟨own_bo, own_bm⟩ ?_
      refine .i (sp_move (hbs rfl e0)) ?_
      refine .i (fo 1 (hbs rfl e3) Try.underlying54 rfl sz9 rfl) ?_
      refine .i (lo1 (hlc rfl) own_b3_2 (by simp [ne_bo_b3_2.symm, ne_bm_b3_2.symm]) agg9 sz9 rfl) ?_
      refine .callL2 (φ1 := Is (.pointer (some ⟨bo, 0, none⟩))) (φ2 := Is (.string (c.nm))) (φ := Is (.bool (if tkB x e c.nm boolE then boolV (getV x c.nm) else false))) (Ψ' := fun W => Own W bo [(.int .u8 (x.k)), (.int .i64 (x.n)), (.string (x.t)), (.slice cna (x.ns.length) cnc), (.slice cia (x.xs.length) cic), (.map (some bm)), (.int .i64 (tkE x e c.nm boolE))] 74 ∧ OwnM W bm (tkA x A e c.nm boolE)) ent45 (hlc rfl) (hlc rfl) (st_is _) (stE_and stE_own stE_ownM) (fun g u1 u2 W hk hg h1 h2 hP => by have h1 : u1 = _ := h1; subst u1; have h2 : u2 = _ := h2; subst u2; exact (Bool_ok (x) (A) (e) hA hx hxt c.nm W _ _ _ _ _ (sa_cln hS) (sa_notin (by simp)) hne (sa_keepL D_cn hk (by simp)) (sa_keepL D_ci hk (by simp)) hP.1 hP.2)) ?_
      refine .i (sp_not (hlc rfl)) ?_
      refine .i (sp_assign (hlc rfl)) ?_
      refine .done ⟨by kernel_rfl, fun a21 g W21 y21 zz21 hk hg hV hR hP => ?_⟩
      obtain ⟨e4, -, -, -, -, -, -⟩ := hV
      replace e4 := e4.q
      replace D_cn := sa_keepL D_cn hk (by simp)
      replace D_ci := sa_keepL D_ci hk (by simp)
      replace own_b3_2 := own_keepL own_b3_2 hk (by simp [ne_bo_b3_2.symm, ne_bm_b3_2.symm])
      obtain ⟨own_bo, own_bm⟩ := hP
      replace own_bo : Own W21 bo [(.int .u8 (x.k)), (.int .i64 (x.n)), (.string (x.t)), (.slice cna (x.ns.length) cnc), (.slice cia (x.xs.length) cic), (.map (some bm)), (.int .i64 (tkE x e c.nm boolE))] 74 := own_bo
      replace own_bm : OwnM W21 bm (tkA x A e c.nm boolE) := own_bm
      replace kw := keeps_L kw hk (in_cons (.inr (by simp)) (in_cons (.inr (by simp)) in_nil))
      clear hR hk hg
      refine tail_nil (hK20 _ _ ?_)
      refine wp_ret ?_
      refine (show bodyPost Try.prog Try.f35 _ .ret _ _ from ret1 rfl zz21 e4 ⟨_, rfl, kw, ?_⟩)
      rw [hR, hE1, hA1]
      exact ⟨rfl, own_bo, own_bm⟩
     ·
      have n3 : ¬ c.wh = 3 := by have := ne_of_beq_false hc; omega
      refine wp_seq_k fun K22 hK22 => ?_
      refine rg mixed y19 zz19 ?_
      refine .i (sp_eql (hbs rfl e6) Has.cst) ?_
      refine .i (sp_assign (hlc rfl)) ?_
      refine .done ⟨by kernel_rfl, fun a23 g W23 y23 zz23 hk hg hV hR hP => ?_⟩
      obtain ⟨e39, -, -⟩ := hV
      replace e0 := (hR 0 rfl).trans e0
      replace e3 := (hR 3 rfl).trans e3
      replace e6 := (hR 6 rfl).trans e6
      replace D_cn := D_cn.ext hk
      replace D_ci := D_ci.ext hk
      have e39 : sl a23 39 = (.bool ((c.wh : Int) == (4 : Int))) := e39
      replace own_bo := own_bo.ext hk
      replace own_bm := own_bm.ext hk
      replace own_b3_2 := own_b3_2.ext hk
      replace kw := kw.x hk
      clear hR hk hg hP
      refine tail_nil (hK22 _ _ ?_)
      refine wp_cond_split e39 (fun hc => ?_) (fun hc => ?_)
      ·
       have hw : c.wh = 4 := by have := eq_of_beq hc; omega
       have hR : qR x e c = (((if tkB x e c.nm (listE c.mo) then listV c.mo (getV x c.nm) else []).length : Int) == 0) := by rw [qR, if_neg n0, if_neg n1, if_neg n2, if_neg n3, if_pos hw]
       have hE1 : qE x e c = tkE x e c.nm (listE c.mo) := by rw [qE, if_neg n0, if_neg n1, if_neg n2, if_neg n3, if_pos hw]
       have hA1 : qA x A e c = tkA x A e c.nm (listE c.mo) := by rw [qA, if_neg n0, if_neg n1, if_neg n2, if_neg n3, if_pos hw]
       refine wp_seq_k fun K24 hK24 => ?_
       refine wp_reg (fun k => k ∉ [bo, bm]) (Ψ := fun W => Own W bo [(.int .u8 (x.k)), (.int .i64 (x.n)), (.string (x.t)), (.slice cna (x.ns.length) cnc), (.slice cia (x.xs.length) cic), (.map (some bm)), (.int .i64 (e))] 74 ∧ OwnM W bm (A)) mixed y23 zz23 (stE_and stE_own stE_ownM) ⟨own_bo, own_bm⟩ ?_
       refine .i (sp_move (hbs rfl e0)) ?_
       refine .i (fo 1 (hbs rfl e3) Try.underlying54 rfl sz9 rfl) ?_
       refine .i (lo1 (hlc rfl) own_b3_2 (by simp [ne_bo_b3_2.symm, ne_bm_b3_2.symm]) agg9 sz9 rfl) ?_
       refine .i (fo 4 (hbs rfl e3) Try.underlying54 rfl sz3 rfl) ?_
       refine .i (lo1 (hlc rfl) own_b3_2 (by simp [ne_bo_b3_2.symm, ne_bm_b3_2.symm]) agg3 sz3 rfl) ?_
       refine .callL3 (φ1 := Is (.pointer (some ⟨bo, 0, none⟩))) (φ2 := Is (.string (c.nm))) (φ3 := Is (.int .i64 (c.mo))) (φ := IsD (Fr W23) (valsD (if tkB x e c.nm (listE c.mo) then listV c.mo (getV x c.nm) else []))) (Ψ' := fun W => Own W bo [(.int .u8 (x.k)), (.int .i64 (x.n)), (.string (x.t)), (.slice cna (x.ns.length) cnc), (.slice cia (x.xs.length) cic), (.map (some bm)), (.int .i64 (tkE x e c.nm (listE c.mo)))] 74 ∧ OwnM W bm (tkA x A e c.nm (listE c.mo))) ent46 (hlc rfl) (hlc rfl) (hlc rfl) (st_d (sub_frnl (in_cons own_bo.lt (in_cons own_bm.lt in_nil)))) (stE_and stE_own stE_ownM) (fun g u1 u2 u3 W hk hg h1 h2 h3 hP => by have h1 : u1 = _ := h1; subst u1; have h2 : u2 = _ := h2; subst u2; have h3 : u3 = _ := h3; subst u3; exact (List_ok (x) (A) (e) hA hx hxt c.nm c.mo W _ _ _ _ _ (sa_cln hS) (sa_notin (by simp)) hne (sa_keepL D_cn hk (by simp)) (sa_keepL D_ci hk (by simp)) hP.1 hP.2).mono (fun _ _ ⟨v, h1, h2, h3, h4⟩ => ⟨v, h1, h2, fresh_d hk hg h3, h4⟩)) ?_
       refine .done ⟨by kernel_rfl, fun a25 g W25 y25 zz25 hk hg hV hR hP => ?_⟩
       obtain ⟨e46, -, -, -, -, -, -⟩ := hV
       obtain ⟨v46_25, ev⟩ : ∃ v, sl a25 46 = v := ⟨_, rfl⟩
       rw [ev] at e46
       have D_v46_25 : Rd W25 (SF w [b3_2, bo, bm]) (valsD (if tkB x e c.nm (listE c.mo) then listV c.mo (getV x c.nm) else [])) v46_25 := fr_end (M := [b3_2, bo, bm]) e46 kw [] in_nil (in_cons own_b3_2.lt (in_cons own_bo.lt (in_cons own_bm.lt in_nil)))
       replace e46 := ev; clear ev
       obtain ⟨v46_25a, v46_25c, ev, D2⟩ := rdVs_out D_v46_25
       subst ev; replace D_v46_25 := D2; clear D2
       replace D_cn := sa_keepL D_cn hk (by simp)
       replace D_ci := sa_keepL D_ci hk (by simp)
       replace own_b3_2 := own_keepL own_b3_2 hk (by simp [ne_bo_b3_2.symm, ne_bm_b3_2.symm])
       obtain ⟨own_bo, own_bm⟩ := hP
       replace own_bo : Own W25 bo [(.int .u8 (x.k)), (.int .i64 (x.n)), (.string (x.t)), (.slice cna (x.ns.length) cnc), (.slice cia (x.xs.length) cic), (.map (some bm)), (.int .i64 (tkE x e c.nm (listE c.mo)))] 74 := own_bo
       replace own_bm : OwnM W25 bm (tkA x A e c.nm (listE c.mo)) := own_bm
       replace kw := keeps_L kw hk (in_cons (.inr (by simp)) (in_cons (.inr (by simp)) in_nil))
       clear hR hk hg
       refine tail_reg 3 All y25 zz25 st_tr trivial rfl ?_
       refine .i (sp_lenVs Try.underlying31 ((hbs rfl e46).dat D_v46_25 sub_all)) ?_
       refine .i (sp_eql (hlc rfl) Has.cst) ?_
       refine .i (sp_assign (hlc rfl)) ?_
       refine .done ⟨by kernel_rfl, fun a26 g W26 y26 zz26 hk hg hV hR hP => ?_⟩
       refine tail_nil ?_
       show runTail _ _ _ _ _ _
       obtain ⟨e4, -, -, -⟩ := hV
       replace D_cn := D_cn.ext hk
       replace D_ci := D_ci.ext hk
       replace D_v46_25 := D_v46_25.ext hk
       replace e4 := e4.q
       replace own_bo := own_bo.ext hk
       replace own_bm := own_bm.ext hk
       replace own_b3_2 := own_b3_2.ext hk
       replace kw := kw.x hk
       clear hR hk hg hP
       refine tail_nil (hK24 _ _ ?_)
       refine wp_ret ?_
       refine (show bodyPost Try.prog Try.f35 _ .ret _ _ from ret1 rfl zz26 e4 ⟨_, rfl, kw, ?_⟩)
       rw [hR, hE1, hA1]
       exact ⟨rfl, own_bo, own_bm⟩
      ·
       have n4 : ¬ c.wh = 4 := by have := ne_of_beq_false hc; omega
       refine wp_seq_k fun K27 hK27 => ?_
       refine rg mixed y23 zz23 ?_
       refine .i (sp_eql (hbs rfl e6) Has.cst) ?_
       refine .i (sp_assign (hlc rfl)) ?_
       refine .done ⟨by kernel_rfl, fun a28 g W28 y28 zz28 hk hg hV hR hP => ?_⟩
       obtain ⟨e49, -, -⟩ := hV
       replace e0 := (hR 0 rfl).trans e0
       replace e3 := (hR 3 rfl).trans e3
       replace e6 := (hR 6 rfl).trans e6
       replace D_cn := D_cn.ext hk
       replace D_ci := D_ci.ext hk
       have e49 : sl a28 49 = (.bool ((c.wh : Int) == (5 : Int))) := e49
       replace own_bo := own_bo.ext hk
       replace own_bm := own_bm.ext hk
       replace own_b3_2 := own_b3_2.ext hk
       replace kw := kw.x hk
       clear hR hk hg hP
       refine tail_nil (hK27 _ _ ?_)
       refine wp_cond_split e49 (fun hc => ?_) (fun hc => ?_)
       ·
        have hw : c.wh = 5 := by have := eq_of_beq hc; omega
        have hR : qR x e c = (((if tkB x e c.nm (textsE c.mo) then textsL c.mo (getV x c.nm) else []).length : Int) == 0) := by rw [qR, if_neg n0, if_neg n1, if_neg n2, if_neg n3, if_neg n4, if_pos hw]
        have hE1 : qE x e c = tkE x e c.nm (textsE c.mo) := by rw [qE, if_neg n0, if_neg n1, if_neg n2, if_neg n3, if_neg n4, if_pos hw]
        have hA1 : qA x A e c = tkA x A e c.nm (textsE c.mo) := by rw [qA, if_neg n0, if_neg n1, if_neg n2, if_neg n3, if_neg n4, if_pos hw]
        refine wp_seq_k fun K29 hK29 => ?_
        refine wp_reg (fun k => k ∉ [bo, bm]) (Ψ := fun W => Own W bo [(.int .u8 (x.k)), (.int .i64 (x.n)), (.string (x.t)), (.slice cna (x.ns.length) cnc), (.slice cia (x.xs.length) cic), (.map (some bm)), (.int .i64 (e))] 74 ∧ OwnM W bm (A)) mixed y28 zz28 (stE_and stE_own stE_ownM) ⟨own_bo, own_bm⟩ ?_
        refine .i (sp_move (hbs rfl e0)) ?_
        refine .i (fo 1 (hbs rfl e3) Try.underlying54 rfl sz9 rfl) ?_
        refine .i (lo1 (hlc rfl) own_b3_2 (by simp [ne_bo_b3_2.symm, ne_bm_b3_2.symm]) agg9 sz9 rfl) ?_
        refine .i (fo 4 (hbs rfl e3) Try.underlying54 rfl sz3 rfl) ?_
        refine .i (lo1 (hlc rfl) own_b3_2 (by simp [ne_bo_b3_2.symm, ne_bm_b3_2.symm]) agg3 sz3 rfl) ?_
        refine .callL3 (φ1 := Is (.pointer (some ⟨bo, 0, none⟩))) (φ2 := Is (.string (c.nm))) (φ3 := Is (.int .i64 (c.mo))) (φ := IsD (Fr W28) (strsD (if tkB x e c.nm (textsE c.mo) then textsL c.mo (getV x c.nm) else []))) (Ψ' := fun W => Own W bo [(.int .u8 (x.k)), (.int .i64 (x.n)), (.string (x.t)), (.slice cna (x.ns.length) cnc), (.slice cia (x.xs.length) cic), (.map (some bm)), (.int .i64 (tkE x e c.nm (textsE c.mo)))] 74 ∧ OwnM W bm (tkA x A e c.nm (textsE c.mo))) ent41 (hlc rfl) (hlc rfl) (hlc rfl) (st_d (sub_frnl (in_cons own_bo.lt (in_cons own_bm.lt in_nil)))) (stE_and stE_own stE_ownM) (fun g u1 u2 u3 W hk hg h1 h2 h3 hP => by have h1 : u1 = _ := h1; subst u1; have h2 : u2 = _ := h2; subst u2; have h3 : u3 = _ := h3; subst u3; exact (Texts_ok (x) (A) (e) hA hx hxt c.nm c.mo W _ _ _ _ _ (sa_cln hS) (sa_notin (by simp)) hne (sa_keepL D_cn hk (by simp)) (sa_keepL D_ci hk (by simp)) hP.1 hP.2).mono (fun _ _ ⟨v, h1, h2, h3, h4⟩ => ⟨v, h1, h2, fresh_d hk hg h3, h4⟩)) ?_
        refine .done ⟨by kernel_rfl, fun a30 g W30 y30 zz30 hk hg hV hR hP => ?_⟩
        obtain ⟨e56, -, -, -, -, -, -⟩ := hV
        obtain ⟨v56_30, ev⟩ : ∃ v, sl a30 56 = v := ⟨_, rfl⟩
        rw [ev] at e56
        have D_v56_30 : Rd W30 (SF w [b3_2, bo, bm]) (strsD (if tkB x e c.nm (textsE c.mo) then textsL c.mo (getV x c.nm) else [])) v56_30 := fr_end (M := [b3_2, bo, bm]) e56 kw [] in_nil (in_cons own_b3_2.lt (in_cons own_bo.lt (in_cons own_bm.lt in_nil)))
        replace e56 := ev; clear ev
        obtain ⟨v56_30a, v56_30c, ev, D2⟩ := rdS_out D_v56_30
        subst ev; replace D_v56_30 := D2; clear D2
        replace D_cn := sa_keepL D_cn hk (by simp)
        replace D_ci := sa_keepL D_ci hk (by simp)
        replace own_b3_2 := own_keepL own_b3_2 hk (by simp [ne_bo_b3_2.symm, ne_bm_b3_2.symm])
        obtain ⟨own_bo, own_bm⟩ := hP
        replace own_bo : Own W30 bo [(.int .u8 (x.k)), (.int .i64 (x.n)), (.string (x.t)), (.slice cna (x.ns.length) cnc), (.slice cia (x.xs.length) cic), (.map (some bm)), (.int .i64 (tkE x e c.nm (textsE c.mo)))] 74 := own_bo
        replace own_bm : OwnM W30 bm (tkA x A e c.nm (textsE c.mo)) := own_bm
        replace kw := keeps_L kw hk (in_cons (.inr (by simp)) (in_cons (.inr (by simp)) in_nil))
        clear hR hk hg
        refine tail_reg 3 All y30 zz30 st_tr trivial rfl ?_
        refine .i (sp_lenSs Try.underlying23 ((hbs rfl e56).dat D_v56_30 sub_all)) ?_
        refine .i (sp_eql (hlc rfl) Has.cst) ?_
        refine .i (sp_assign (hlc rfl)) ?_
        refine .done ⟨by kernel_rfl, fun a31 g W31 y31 zz31 hk hg hV hR hP => ?_⟩
        refine tail_nil ?_
        show runTail _ _ _ _ _ _
        obtain ⟨e4, -, -, -⟩ := hV
        replace D_cn := D_cn.ext hk
        replace D_ci := D_ci.ext hk
        replace D_v56_30 := D_v56_30.ext hk
        replace e4 := e4.q
        replace own_bo := own_bo.ext hk
        replace own_bm := own_bm.ext hk
        replace own_b3_2 := own_b3_2.ext hk
        replace kw := kw.x hk
        clear hR hk hg hP
        refine tail_nil (hK29 _ _ ?_)
        refine wp_ret ?_
        refine (show bodyPost Try.prog Try.f35 _ .ret _ _ from ret1 rfl zz31 e4 ⟨_, rfl, kw, ?_⟩)
        rw [hR, hE1, hA1]
        exact ⟨rfl, own_bo, own_bm⟩
       ·
        have n5 : ¬ c.wh = 5 := by have := ne_of_beq_false hc; omega
        refine wp_seq_k fun K32 hK32 => ?_
        refine rg mixed y28 zz28 ?_
        refine .i (sp_eql (hbs rfl e6) Has.cst) ?_
        refine .i (sp_assign (hlc rfl)) ?_
        refine .done ⟨by kernel_rfl, fun a33 g W33 y33 zz33 hk hg hV hR hP => ?_⟩
        obtain ⟨e59, -, -⟩ := hV
        replace e0 := (hR 0 rfl).trans e0
        replace e3 := (hR 3 rfl).trans e3
        replace e6 := (hR 6 rfl).trans e6
        replace D_cn := D_cn.ext hk
        replace D_ci := D_ci.ext hk
        have e59 : sl a33 59 = (.bool ((c.wh : Int) == (6 : Int))) := e59
        replace own_bo := own_bo.ext hk
        replace own_bm := own_bm.ext hk
        replace own_b3_2 := own_b3_2.ext hk
        replace kw := kw.x hk
        clear hR hk hg hP
        refine tail_nil (hK32 _ _ ?_)
        refine wp_cond_split e59 (fun hc => ?_) (fun hc => ?_)
        ·
         have hw : c.wh = 6 := by have := eq_of_beq hc; omega
         have hR : qR x e c = V.beq (if tkB x e c.nm (obE c.mo) then obV c.mo (getV x c.nm) else ⟨0, 0, ⟨#[]⟩, [], []⟩) ⟨0, 0, ⟨#[]⟩, [], []⟩ := by rw [qR, if_neg n0, if_neg n1, if_neg n2, if_neg n3, if_neg n4, if_neg n5, if_pos hw]
         have hE1 : qE x e c = tkE x e c.nm (obE c.mo) := by rw [qE, if_neg n0, if_neg n1, if_neg n2, if_neg n3, if_neg n4, if_neg n5, if_pos hw]
         have hA1 : qA x A e c = tkA x A e c.nm (obE c.mo) := by rw [qA, if_neg n0, if_neg n1, if_neg n2, if_neg n3, if_neg n4, if_neg n5, if_pos hw]
         have hcb : (if tkB x e c.nm (obE c.mo) then obV c.mo (getV x c.nm) else (⟨0, 0, ⟨#[]⟩, [], []⟩ : V)).cnt ≤ 1073741824 := by split; exact Nat.le_trans (cnt_wt _) (Nat.le_trans (obV_wt _ _) hwg); exact Nat.le_of_ble_eq_true (by kernel_rfl)
         refine wp_seq_k fun K34 hK34 => ?_
         refine wp_reg (fun k => k ∉ [bo, bm]) (Ψ := fun W => Own W bo [(.int .u8 (x.k)), (.int .i64 (x.n)), (.string (x.t)), (.slice cna (x.ns.length) cnc), (.slice cia (x.xs.length) cic), (.map (some bm)), (.int .i64 (e))] 74 ∧ OwnM W bm (A)) mixed y33 zz33 (stE_and stE_own stE_ownM) ⟨own_bo, own_bm⟩ ?_
         refine .i (sp_move (hbs rfl e0)) ?_
         refine .i (fo 1 (hbs rfl e3) Try.underlying54 rfl sz9 rfl) ?_
         refine .i (lo1 (hlc rfl) own_b3_2 (by simp [ne_bo_b3_2.symm, ne_bm_b3_2.symm]) agg9 sz9 rfl) ?_
         refine .i (fo 4 (hbs rfl e3) Try.underlying54 rfl sz3 rfl) ?_
         refine .i (lo1 (hlc rfl) own_b3_2 (by simp [ne_bo_b3_2.symm, ne_bm_b3_2.symm]) agg3 sz3 rfl) ?_
         refine .callL3 (φ1 := Is (.pointer (some ⟨bo, 0, none⟩))) (φ2 := Is (.string (c.nm))) (φ3 := Is (.int .i64 (c.mo))) (φ := IsD (Fr W33) (V.d (if tkB x e c.nm (obE c.mo) then obV c.mo (getV x c.nm) else ⟨0, 0, ⟨#[]⟩, [], []⟩))) (Ψ' := fun W => Own W bo [(.int .u8 (x.k)), (.int .i64 (x.n)), (.string (x.t)), (.slice cna (x.ns.length) cnc), (.slice cia (x.xs.length) cic), (.map (some bm)), (.int .i64 (tkE x e c.nm (obE c.mo)))] 74 ∧ OwnM W bm (tkA x A e c.nm (obE c.mo))) ent47 (hlc rfl) (hlc rfl) (hlc rfl) (st_d (sub_frnl (in_cons own_bo.lt (in_cons own_bm.lt in_nil)))) (stE_and stE_own stE_ownM) (fun g u1 u2 u3 W hk hg h1 h2 h3 hP => by have h1 : u1 = _ := h1; subst u1; have h2 : u2 = _ := h2; subst u2; have h3 : u3 = _ := h3; subst u3; exact (Object_ok (x) (A) (e) hA hx hxt c.nm c.mo W _ _ _ _ _ (sa_cln hS) (sa_notin (by simp)) hne (sa_keepL D_cn hk (by simp)) (sa_keepL D_ci hk (by simp)) hP.1 hP.2).mono (fun _ _ ⟨v, h1, h2, h3, h4⟩ => ⟨v, h1, h2, fresh_d hk hg h3, h4⟩)) ?_
         refine .done ⟨by kernel_rfl, fun a35 g W35 y35 zz35 hk hg hV hR hP => ?_⟩
         obtain ⟨e66, -, -, -, -, -, -⟩ := hV
         obtain ⟨v66_35, ev⟩ : ∃ v, sl a35 66 = v := ⟨_, rfl⟩
         rw [ev] at e66
         have D_v66_35 : Rd W35 (SF w [b3_2, bo, bm]) (V.d (if tkB x e c.nm (obE c.mo) then obV c.mo (getV x c.nm) else ⟨0, 0, ⟨#[]⟩, [], []⟩)) v66_35 := fr_end (M := [b3_2, bo, bm]) e66 kw [] in_nil (in_cons own_b3_2.lt (in_cons own_bo.lt (in_cons own_bm.lt in_nil)))
         replace e66 := ev; clear ev
         obtain ⟨cn66_35a, cn66_35c, ci66_35a, ci66_35c, ev, ht_v66_35, D_cn66_35, D_ci66_35⟩ := rdV_out D_v66_35
         subst ev; clear D_v66_35
         replace D_cn := sa_keepL D_cn hk (by simp)
         replace D_ci := sa_keepL D_ci hk (by simp)
         replace own_b3_2 := own_keepL own_b3_2 hk (by simp [ne_bo_b3_2.symm, ne_bm_b3_2.symm])
         obtain ⟨own_bo, own_bm⟩ := hP
         replace own_bo : Own W35 bo [(.int .u8 (x.k)), (.int .i64 (x.n)), (.string (x.t)), (.slice cna (x.ns.length) cnc), (.slice cia (x.xs.length) cic), (.map (some bm)), (.int .i64 (tkE x e c.nm (obE c.mo)))] 74 := own_bo
         replace own_bm : OwnM W35 bm (tkA x A e c.nm (obE c.mo)) := own_bm
         replace kw := keeps_L kw hk (in_cons (.inr (by simp)) (in_cons (.inr (by simp)) in_nil))
         clear hR hk hg
         refine tail_reg 3 All y35 zz35 st_tr trivial rfl ?_
         refine .i (v := (.agg #[(.int .u8 (0)), (.int .i64 (0)), (.string (⟨#[]⟩)), (.slice none 0 0), (.slice none 0 0)])) (sp_build (vs := []) Try.underlying33 z33 (pl33 Try.underlying33) trivial rfl) ?_
         refine .i (v := (.bool (V.beq ((if tkB x e c.nm (obE c.mo) then obV c.mo (getV x c.nm) else ⟨0, 0, ⟨#[]⟩, [], []⟩)) (V.mk (0) (0) (⟨#[]⟩) ([]) ([]))))) (sp_call2 (φ1 := IsD (SF w [b3_2, bo, bm]) (V.d ((if tkB x e c.nm (obE c.mo) then obV c.mo (getV x c.nm) else ⟨0, 0, ⟨#[]⟩, [], []⟩)))) (φ2 := IsD (SF w [b3_2, bo, bm]) (V.d (V.mk (0) (0) (⟨#[]⟩) ([]) ([])))) ent34 ((hbs rfl e66).dat (rdV_in (x := (if tkB x e c.nm (obE c.mo) then obV c.mo (getV x c.nm) else ⟨0, 0, ⟨#[]⟩, [], []⟩)) ht_v66_35 D_cn66_35 D_ci66_35 : Rd W35 (SF w [b3_2, bo, bm]) (V.d ((if tkB x e c.nm (obE c.mo) then obV c.mo (getV x c.nm) else ⟨0, 0, ⟨#[]⟩, [], []⟩))) _) sub_all) ((hlc rfl).dat (rdV_mk (lbr rfl) (rd_nil _) (rd_nil _) : Rd W35 (SF w [b3_2, bo, bm]) (V.d (V.mk (0) (0) (⟨#[]⟩) ([]) ([]))) _) sub_all) (fun g u1 u2 W hk hgk h1 h2 => refSame_all _ ((if tkB x e c.nm (obE c.mo) then obV c.mo (getV x c.nm) else ⟨0, 0, ⟨#[]⟩, [], []⟩)) (V.mk (0) (0) (⟨#[]⟩) ([]) ([])) (Nat.le_refl _) (by first | omega | exact Nat.le_of_ble_eq_true (by kernel_rfl)) W _ _ _ h1 h2)) ?_
         refine .i (sp_assign (hlc rfl)) ?_
         refine .done ⟨by kernel_rfl, fun a36 g W36 y36 zz36 hk hg hV hR hP => ?_⟩
         refine tail_nil ?_
         show runTail _ _ _ _ _ _
         obtain ⟨e4, -, -, -⟩ := hV
         replace D_cn := D_cn.ext hk
         replace D_ci := D_ci.ext hk
         replace D_cn66_35 := D_cn66_35.ext hk
         replace D_ci66_35 := D_ci66_35.ext hk
         replace e4 := e4.q
         replace own_bo := own_bo.ext hk
         replace own_bm := own_bm.ext hk
         replace own_b3_2 := own_b3_2.ext hk
         replace kw := kw.x hk
         clear hR hk hg hP
         refine tail_nil (hK34 _ _ ?_)
         refine wp_ret ?_
         refine (show bodyPost Try.prog Try.f35 _ .ret _ _ from ret1 rfl zz36 e4 ⟨_, rfl, kw, ?_⟩)
         rw [hR, hE1, hA1]
         exact ⟨rfl, own_bo, own_bm⟩
        ·
         have n6 : ¬ c.wh = 6 := by have := ne_of_beq_false hc; omega
         refine wp_seq_k fun K37 hK37 => ?_
         refine rg mixed y33 zz33 ?_
         refine .i (sp_eql (hbs rfl e6) Has.cst) ?_
         refine .i (sp_assign (hlc rfl)) ?_
         refine .done ⟨by kernel_rfl, fun a38 g W38 y38 zz38 hk hg hV hR hP => ?_⟩
         obtain ⟨e69, -, -⟩ := hV
         replace e0 := (hR 0 rfl).trans e0
         replace e3 := (hR 3 rfl).trans e3
         replace e6 := (hR 6 rfl).trans e6
         replace D_cn := D_cn.ext hk
         replace D_ci := D_ci.ext hk
         have e69 : sl a38 69 = (.bool ((c.wh : Int) == (7 : Int))) := e69
         replace own_bo := own_bo.ext hk
         replace own_bm := own_bm.ext hk
         replace own_b3_2 := own_b3_2.ext hk
         replace kw := kw.x hk
         clear hR hk hg hP
         refine tail_nil (hK37 _ _ ?_)
         refine wp_cond_split e69 (fun hc => ?_) (fun hc => ?_)
         ·
          have hw : c.wh = 7 := by have := eq_of_beq hc; omega
          have hR : qR x e c = V.beq (if tkB x e c.nm anyE then getV x c.nm else ⟨0, 0, ⟨#[]⟩, [], []⟩) ⟨0, 0, ⟨#[]⟩, [], []⟩ := by rw [qR, if_neg n0, if_neg n1, if_neg n2, if_neg n3, if_neg n4, if_neg n5, if_neg n6, if_pos hw]
          have hE1 : qE x e c = tkE x e c.nm anyE := by rw [qE, if_neg n0, if_neg n1, if_neg n2, if_neg n3, if_neg n4, if_neg n5, if_neg n6, if_pos hw]
          have hA1 : qA x A e c = tkA x A e c.nm anyE := by rw [qA, if_neg n0, if_neg n1, if_neg n2, if_neg n3, if_neg n4, if_neg n5, if_neg n6, if_pos hw]
          have hcb : (if tkB x e c.nm anyE then getV x c.nm else (⟨0, 0, ⟨#[]⟩, [], []⟩ : V)).cnt ≤ 1073741824 := by split; exact Nat.le_trans (cnt_wt _) hwg; exact Nat.le_of_ble_eq_true (by kernel_rfl)
          refine wp_seq_k fun K39 hK39 => ?_
          refine wp_reg (fun k => k ∉ [bo, bm]) (Ψ := fun W => Own W bo [(.int .u8 (x.k)), (.int .i64 (x.n)), (.string (x.t)), (.slice cna (x.ns.length) cnc), (.slice cia (x.xs.length) cic), (.map (some bm)), (.int .i64 (e))] 74 ∧ OwnM W bm (A)) mixed y38 zz38 (stE_and stE_own stE_ownM) ⟨own_bo, own_bm⟩ ?_
          refine .i (sp_move (hbs rfl e0)) ?_
          refine .i (fo 1 (hbs rfl e3) Try.underlying54 rfl sz9 rfl) ?_
          refine .i (lo1 (hlc rfl) own_b3_2 (by simp [ne_bo_b3_2.symm, ne_bm_b3_2.symm]) agg9 sz9 rfl) ?_
          refine .callL2 (φ1 := Is (.pointer (some ⟨bo, 0, none⟩))) (φ2 := Is (.string (c.nm))) (φ := IsD (Fr W38) (V.d (if tkB x e c.nm anyE then getV x c.nm else ⟨0, 0, ⟨#[]⟩, [], []⟩))) (Ψ' := fun W => Own W bo [(.int .u8 (x.k)), (.int .i64 (x.n)), (.string (x.t)), (.slice cna (x.ns.length) cnc), (.slice cia (x.xs.length) cic), (.map (some bm)), (.int .i64 (tkE x e c.nm anyE))] 74 ∧ OwnM W bm (tkA x A e c.nm anyE)) ent48 (hlc rfl) (hlc rfl) (st_d (sub_frnl (in_cons own_bo.lt (in_cons own_bm.lt in_nil)))) (stE_and stE_own stE_ownM) (fun g u1 u2 W hk hg h1 h2 hP => by have h1 : u1 = _ := h1; subst u1; have h2 : u2 = _ := h2; subst u2; exact (Any_ok (x) (A) (e) hA hx hxt c.nm W _ _ _ _ _ (sa_cln hS) (sa_notin (by simp)) hne (sa_keepL D_cn hk (by simp)) (sa_keepL D_ci hk (by simp)) hP.1 hP.2).mono (fun _ _ ⟨v, h1, h2, h3, h4⟩ => ⟨v, h1, h2, fresh_d hk hg h3, h4⟩)) ?_
          refine .done ⟨by kernel_rfl, fun a40 g W40 y40 zz40 hk hg hV hR hP => ?_⟩
          obtain ⟨e74, -, -, -, -⟩ := hV
          obtain ⟨v74_40, ev⟩ : ∃ v, sl a40 74 = v := ⟨_, rfl⟩
          rw [ev] at e74
          have D_v74_40 : Rd W40 (SF w [b3_2, bo, bm]) (V.d (if tkB x e c.nm anyE then getV x c.nm else ⟨0, 0, ⟨#[]⟩, [], []⟩)) v74_40 := fr_end (M := [b3_2, bo, bm]) e74 kw [] in_nil (in_cons own_b3_2.lt (in_cons own_bo.lt (in_cons own_bm.lt in_nil)))
          replace e74 := ev; clear ev
          obtain ⟨cn74_40a, cn74_40c, ci74_40a, ci74_40c, ev, ht_v74_40, D_cn74_40, D_ci74_40⟩ := rdV_out D_v74_40
          subst ev; clear D_v74_40
          replace D_cn := sa_keepL D_cn hk (by simp)
          replace D_ci := sa_keepL D_ci hk (by simp)
          replace own_b3_2 := own_keepL own_b3_2 hk (by simp [ne_bo_b3_2.symm, ne_bm_b3_2.symm])
          obtain ⟨own_bo, own_bm⟩ := hP
          replace own_bo : Own W40 bo [(.int .u8 (x.k)), (.int .i64 (x.n)), (.string (x.t)), (.slice cna (x.ns.length) cnc), (.slice cia (x.xs.length) cic), (.map (some bm)), (.int .i64 (tkE x e c.nm anyE))] 74 := own_bo
          replace own_bm : OwnM W40 bm (tkA x A e c.nm anyE) := own_bm
          replace kw := keeps_L kw hk (in_cons (.inr (by simp)) (in_cons (.inr (by simp)) in_nil))
          clear hR hk hg
          refine tail_reg 3 All y40 zz40 st_tr trivial rfl ?_
          refine .i (v := (.agg #[(.int .u8 (0)), (.int .i64 (0)), (.string (⟨#[]⟩)), (.slice none 0 0), (.slice none 0 0)])) (sp_build (vs := []) Try.underlying33 z33 (pl33 Try.underlying33) trivial rfl) ?_
          refine .i (v := (.bool (V.beq ((if tkB x e c.nm anyE then getV x c.nm else ⟨0, 0, ⟨#[]⟩, [], []⟩)) (V.mk (0) (0) (⟨#[]⟩) ([]) ([]))))) (sp_call2 (φ1 := IsD (SF w [b3_2, bo, bm]) (V.d ((if tkB x e c.nm anyE then getV x c.nm else ⟨0, 0, ⟨#[]⟩, [], []⟩)))) (φ2 := IsD (SF w [b3_2, bo, bm]) (V.d (V.mk (0) (0) (⟨#[]⟩) ([]) ([])))) ent34 ((hbs rfl e74).dat (rdV_in (x := (if tkB x e c.nm anyE then getV x c.nm else ⟨0, 0, ⟨#[]⟩, [], []⟩)) ht_v74_40 D_cn74_40 D_ci74_40 : Rd W40 (SF w [b3_2, bo, bm]) (V.d ((if tkB x e c.nm anyE then getV x c.nm else ⟨0, 0, ⟨#[]⟩, [], []⟩))) _) sub_all) ((hlc rfl).dat (rdV_mk (lbr rfl) (rd_nil _) (rd_nil _) : Rd W40 (SF w [b3_2, bo, bm]) (V.d (V.mk (0) (0) (⟨#[]⟩) ([]) ([]))) _) sub_all) (fun g u1 u2 W hk hgk h1 h2 => refSame_all _ ((if tkB x e c.nm anyE then getV x c.nm else ⟨0, 0, ⟨#[]⟩, [], []⟩)) (V.mk (0) (0) (⟨#[]⟩) ([]) ([])) (Nat.le_refl _) (by first | omega | exact Nat.le_of_ble_eq_true (by kernel_rfl)) W _ _ _ h1 h2)) ?_
          refine .i (sp_assign (hlc rfl)) ?_
          refine .done ⟨by kernel_rfl, fun a41 g W41 y41 zz41 hk hg hV hR hP => ?_⟩
          refine tail_nil ?_
          show runTail _ _ _ _ _ _
          obtain ⟨e4, -, -, -⟩ := hV
          replace D_cn := D_cn.ext hk
          replace D_ci := D_ci.ext hk
          replace D_cn74_40 := D_cn74_40.ext hk
          replace D_ci74_40 := D_ci74_40.ext hk
          replace e4 := e4.q
          replace own_bo := own_bo.ext hk
          replace own_bm := own_bm.ext hk
          replace own_b3_2 := own_b3_2.ext hk
          replace kw := kw.x hk
          clear hR hk hg hP
          refine tail_nil (hK39 _ _ ?_)
          refine wp_ret ?_
          refine (show bodyPost Try.prog Try.f35 _ .ret _ _ from ret1 rfl zz41 e4 ⟨_, rfl, kw, ?_⟩)
          rw [hR, hE1, hA1]
          exact ⟨rfl, own_bo, own_bm⟩
         ·
          have n7 : ¬ c.wh = 7 := by have := ne_of_beq_false hc; omega
          refine wp_seq_k fun K42 hK42 => ?_
          refine rg mixed y38 zz38 ?_
          refine .i (sp_eql (hbs rfl e6) Has.cst) ?_
          refine .i (sp_assign (hlc rfl)) ?_
          refine .done ⟨by kernel_rfl, fun a43 g W43 y43 zz43 hk hg hV hR hP => ?_⟩
          obtain ⟨e77, -, -⟩ := hV
          replace e0 := (hR 0 rfl).trans e0
          replace e3 := (hR 3 rfl).trans e3
          replace D_cn := D_cn.ext hk
          replace D_ci := D_ci.ext hk
          have e77 : sl a43 77 = (.bool ((c.wh : Int) == (8 : Int))) := e77
          replace own_bo := own_bo.ext hk
          replace own_bm := own_bm.ext hk
          replace own_b3_2 := own_b3_2.ext hk
          replace kw := kw.x hk
          clear hR hk hg hP
          refine tail_nil (hK42 _ _ ?_)
          refine wp_cond_split e77 (fun hc => ?_) (fun hc => ?_)
          ·
           have hw : c.wh = 8 := by have := eq_of_beq hc; omega
           have hR : qR x e c = true := by rw [qR, if_neg n0, if_neg n1, if_neg n2, if_neg n3, if_neg n4, if_neg n5, if_neg n6, if_neg n7]
           have hE1 : qE x e c = failK x.k e c.er := by rw [qE, if_neg n0, if_neg n1, if_neg n2, if_neg n3, if_neg n4, if_neg n5, if_neg n6, if_neg n7, if_pos hw]
           have hA1 : qA x A e c = A := by rw [qA, if_neg n0, if_neg n1, if_neg n2, if_neg n3, if_neg n4, if_neg n5, if_neg n6, if_neg n7]
           refine wp_reg (fun k => k ∉ [bo]) (Ψ := fun W => Own W bo [(.int .u8 (x.k)), (.int .i64 (x.n)), (.string (x.t)), (.slice cna (x.ns.length) cnc), (.slice cia (x.xs.length) cic), (.map (some bm)), (.int .i64 (e))] 74) mixed y43 zz43 stE_own own_bo ?_
           refine .i (sp_move (hbs rfl e0)) ?_
           refine .i (fo 5 (hbs rfl e3) Try.underlying54 rfl sz28 rfl) ?_
           refine .i (lo1 (hlc rfl) own_b3_2 (by simp [ne_bo_b3_2.symm]) agg28 sz28 rfl) ?_
           refine .callL2 (φ1 := Is (.pointer (some ⟨bo, 0, none⟩))) (φ2 := Is (.int .i64 (c.er))) (φ := Is (.tuple #[])) (Ψ' := fun W => Own W bo [(.int .u8 (x.k)), (.int .i64 (x.n)), (.string (x.t)), (.slice cna (x.ns.length) cnc), (.slice cia (x.xs.length) cic), (.map (some bm)), (.int .i64 (failK x.k e c.er))] 74) ent22 (hlc rfl) (hlc rfl) (st_is _) stE_own (fun g u1 u2 W hk hg h1 h2 hP => by have h1 : u1 = _ := h1; subst u1; have h2 : u2 = _ := h2; subst u2; exact (Fail_ok _ _ _ _ _ _ _ (c.er) W _ hP)) ?_
           refine .done ⟨by kernel_rfl, fun a44 g W44 y44 zz44 hk hg hV hR hP => ?_⟩
           obtain ⟨-, -, -, -, -⟩ := hV
           replace D_cn := sa_keepL D_cn hk (by simp)
           replace D_ci := sa_keepL D_ci hk (by simp)
           replace own_bm := ownM_keepL own_bm hk (by simp [hne.symm])
           replace own_b3_2 := own_keepL own_b3_2 hk (by simp [ne_bo_b3_2.symm])
           have own_bo := hP
           replace own_bo : Own W44 bo [(.int .u8 (x.k)), (.int .i64 (x.n)), (.string (x.t)), (.slice cna (x.ns.length) cnc), (.slice cia (x.xs.length) cic), (.map (some bm)), (.int .i64 (failK x.k e c.er))] 74 := own_bo
           replace kw := keeps_L kw hk (in_cons (.inr (by simp)) in_nil)
           clear hR hk hg hP
           refine tail_nil (hK3 _ _ ?_)
           refine wp_seq_k fun K45 hK45 => ?_
           refine rg mixed y44 zz44 ?_
           refine .i (sp_assign Has.cst) ?_
           refine .done ⟨by kernel_rfl, fun a46 g W46 y46 zz46 hk hg hV hR hP => ?_⟩
           obtain ⟨e4, -⟩ := hV
           replace D_cn := D_cn.ext hk
           replace D_ci := D_ci.ext hk
           have e4 : sl a46 4 = (.bool (true)) := e4
           replace own_bo := own_bo.ext hk
           replace own_bm := own_bm.ext hk
           replace own_b3_2 := own_b3_2.ext hk
           replace kw := kw.x hk
           clear hR hk hg hP
           refine tail_nil (hK45 _ _ ?_)
           refine wp_ret ?_
           refine (show bodyPost Try.prog Try.f35 _ .ret _ _ from ret1 rfl zz46 e4 ⟨_, rfl, kw, ?_⟩)
           rw [hR, hE1, hA1]
           exact ⟨rfl, own_bo, own_bm⟩
          ·
           have n8 : ¬ c.wh = 8 := by have := ne_of_beq_false hc; omega
           have hR : qR x e c = true := by rw [qR, if_neg n0, if_neg n1, if_neg n2, if_neg n3, if_neg n4, if_neg n5, if_neg n6, if_neg n7]
           have hE1 : qE x e c = e := by rw [qE, if_neg n0, if_neg n1, if_neg n2, if_neg n3, if_neg n4, if_neg n5, if_neg n6, if_neg n7, if_neg n8]
           have hA1 : qA x A e c = A := by rw [qA, if_neg n0, if_neg n1, if_neg n2, if_neg n3, if_neg n4, if_neg n5, if_neg n6, if_neg n7]
           refine wp_skip (hK3 _ _ ?_)
           refine wp_seq_k fun K47 hK47 => ?_
           refine rg mixed y43 zz43 ?_
           refine .i (sp_assign Has.cst) ?_
           refine .done ⟨by kernel_rfl, fun a48 g W48 y48 zz48 hk hg hV hR hP => ?_⟩
           obtain ⟨e4, -⟩ := hV
           replace D_cn := D_cn.ext hk
           replace D_ci := D_ci.ext hk
           have e4 : sl a48 4 = (.bool (true)) := e4
           replace own_bo := own_bo.ext hk
           replace own_bm := own_bm.ext hk
           replace own_b3_2 := own_b3_2.ext hk
           replace kw := kw.x hk
           clear hR hk hg hP
           refine tail_nil (hK47 _ _ ?_)
           refine wp_ret ?_
           refine (show bodyPost Try.prog Try.f35 _ .ret _ _ from ret1 rfl zz48 e4 ⟨_, rfl, kw, ?_⟩)
           rw [hR, hE1, hA1]
           exact ⟨rfl, own_bo, own_bm⟩
set_option maxRecDepth 100000 in
set_option maxHeartbeats 2000000 in
theorem quietD_ok (k : Nat) (n : Int) (t : ByteArray) (cn ci mv : Value) (e : Int) (hE : errK k e ≠ 0) (c : Cl) (w : World) (S : BSet) (vc : Value) (bo : Nat) (hM : ∀ b ∈ [bo], ∀ o, ¬ S b o) (own_bo : Own w bo [.int .u8 k, .int .i64 n, .string t, cn, ci, mv, .int .i64 e] 74) (hc : Rd w S c.d vc) : Calls Try.prog 35 #[.pointer (some ⟨bo, 0, none⟩), vc] w (RetL w [bo] fun u W => u = .bool true ∧ Own W bo [.int .u8 k, .int .i64 n, .string t, cn, ci, mv, .int .i64 e] 74) := by
  obtain ⟨ev, hb_p1_1⟩ := rdCl_out (rd_argM (M := [bo]) hc hM)
  subst ev
  refine enter Try.func35 rfl Try.ntmps35 (lbr rfl) fun a0 y0 zz0 harg => ?_
  have e0 : sl a0 0 = (.pointer (some ⟨bo, 0, none⟩)) := harg 0 (lbr rfl)
  have e1 : sl a0 1 = (.agg #[(.int .u8 (c.wh)), (.string (c.nm)), (.int .i64 (c.lo)), (.int .i64 (c.hi)), (.int .i64 (c.mo)), (.int .i64 (c.er))]) := harg 1 (lbr rfl)
  have kw := Keeps.refl (fun k => k ∉ [bo]) w
  clear harg
  refine wp_seq_k fun K1 hK1 => ?_
  refine rg mixed y0 zz0 ?_
  refine .boxOp (v := (.agg #[(.int .u8 (c.wh)), (.string (c.nm)), (.int .i64 (c.lo)), (.int .i64 (c.hi)), (.int .i64 (c.mo)), (.int .i64 (c.er))])) (hbs rfl e1) ?_
  refine .i (sp_assign Has.cst) ?_
  refine .done ⟨by kernel_rfl, fun a2 g W2 y2 zz2 hk hg hV hR hP => ?_⟩
  obtain ⟨-, ⟨b3_2, e3, hb3, own_b3_2⟩, -⟩ := hV
  have lo_b3_2 : w.heap.size ≤ b3_2 := Nat.le_trans kw.size (hg.lo _ _ hb3)
  have ne_bo_b3_2 : bo ≠ b3_2 := Nat.ne_of_lt (Nat.lt_of_lt_of_le own_bo.lt (hg.lo _ _ hb3))
  have own_b3_2 : Own W2 b3_2 [(.int .u8 (c.wh)), (.string (c.nm)), (.int .i64 (c.lo)), (.int .i64 (c.hi)), (.int .i64 (c.mo)), (.int .i64 (c.er))] 54 := own_b3_2
  replace e0 := (hR 0 rfl).trans e0
  replace own_bo := own_bo.ext hk
  replace kw := kw.x hk
  clear hR hk hg hP hb3
  refine tail_nil (hK1 _ _ ?_)
  refine wp_seq_k fun K3 hK3 => ?_
  refine wp_seq_k fun K4 hK4 => ?_
  refine rg mixed y2 zz2 ?_
  refine .i (fo 0 (hbs rfl e3) Try.underlying54 rfl sz5 rfl) ?_
  refine .i (lo1 (hlc rfl) own_b3_2 trivial agg5 sz5 rfl) ?_
  refine .done ⟨by kernel_rfl, fun a5 g W5 y5 zz5 hk hg hV hR hP => ?_⟩
  obtain ⟨e6, -, -⟩ := hV
  replace e0 := (hR 0 rfl).trans e0
  replace e3 := (hR 3 rfl).trans e3
  have e6 : sl a5 6 = (.int .u8 (c.wh)) := e6
  replace own_bo := own_bo.ext hk
  replace own_b3_2 := own_b3_2.ext hk
  replace kw := kw.x hk
  clear hR hk hg hP
  refine tail_nil (hK4 _ _ ?_)
  refine wp_block ?_
  refine wp_seq_k fun K6 hK6 => ?_
  refine rg mixed y5 zz5 ?_
  refine .i (sp_eql (hbs rfl e6) Has.cst) ?_
  refine .i (sp_assign (hlc rfl)) ?_
  refine .done ⟨by kernel_rfl, fun a7 g W7 y7 zz7 hk hg hV hR hP => ?_⟩
  obtain ⟨e7, -, -⟩ := hV
  replace e0 := (hR 0 rfl).trans e0
  replace e3 := (hR 3 rfl).trans e3
  replace e6 := (hR 6 rfl).trans e6
  have e7 : sl a7 7 = (.bool ((c.wh : Int) == (0 : Int))) := e7
  replace own_bo := own_bo.ext hk
  replace own_b3_2 := own_b3_2.ext hk
  replace kw := kw.x hk
  clear hR hk hg hP
  refine tail_nil (hK6 _ _ ?_)
  refine wp_cond_split e7 (fun hc => ?_) (fun hc => ?_)
  ·
   refine wp_seq_k fun K8 hK8 => ?_
   refine rg mixed y7 zz7 ?_
   refine .i (sp_move (hbs rfl e0)) ?_
   refine .i (fo 1 (hbs rfl e3) Try.underlying54 rfl sz9 rfl) ?_
   refine .i (lo1 (hlc rfl) own_b3_2 trivial agg9 sz9 rfl) ?_
   refine .i (v := (.bool (false))) (sp_call2 (φ1 := Is (.pointer (some ⟨bo, 0, none⟩))) (φ2 := Is (.string (c.nm))) ent42 (hlc rfl) (hlc rfl) (fun g u1 u2 W hk hgk h1 h2 => by have h1 : u1 = _ := h1; subst u1; have h2 : u2 = _ := h2; subst u2; exact HasOD_ok _ _ _ _ _ _ _ hE _ W _ (own_bo.ext hk))) ?_
   refine .i (sp_not (hlc rfl)) ?_
   refine .i (sp_assign (hlc rfl)) ?_
   refine .done ⟨by kernel_rfl, fun a9 g W9 y9 zz9 hk hg hV hR hP => ?_⟩
   obtain ⟨e4, -, -, -, -, -, -⟩ := hV
   have e4 : sl a9 4 = (.bool (!false)) := e4
   replace own_bo := own_bo.ext hk
   replace own_b3_2 := own_b3_2.ext hk
   replace kw := kw.x hk
   clear hR hk hg hP
   refine tail_nil (hK8 _ _ ?_)
   refine wp_ret ?_
   refine (show bodyPost Try.prog Try.f35 _ .ret _ _ from ret1 rfl zz9 e4 ⟨_, rfl, kw, ?_⟩)
   refine ⟨?_, own_bo⟩
   first | rfl | exact congrArg Value.bool (by first | rfl | exact beq_refl _ | simp)
  ·
   refine wp_seq_k fun K10 hK10 => ?_
   refine rg mixed y7 zz7 ?_
   refine .i (sp_eql (hbs rfl e6) Has.cst) ?_
   refine .i (sp_assign (hlc rfl)) ?_
   refine .done ⟨by kernel_rfl, fun a11 g W11 y11 zz11 hk hg hV hR hP => ?_⟩
   obtain ⟨e14, -, -⟩ := hV
   replace e0 := (hR 0 rfl).trans e0
   replace e3 := (hR 3 rfl).trans e3
   replace e6 := (hR 6 rfl).trans e6
   have e14 : sl a11 14 = (.bool ((c.wh : Int) == (1 : Int))) := e14
   replace own_bo := own_bo.ext hk
   replace own_b3_2 := own_b3_2.ext hk
   replace kw := kw.x hk
   clear hR hk hg hP
   refine tail_nil (hK10 _ _ ?_)
   refine wp_cond_split e14 (fun hc => ?_) (fun hc => ?_)
   ·
    refine wp_seq_k fun K12 hK12 => ?_
    refine rg mixed y11 zz11 ?_
    refine .i (sp_move (hbs rfl e0)) ?_
    refine .i (fo 1 (hbs rfl e3) Try.underlying54 rfl sz9 rfl) ?_
    refine .i (lo1 (hlc rfl) own_b3_2 trivial agg9 sz9 rfl) ?_
    refine .i (v := (.string (⟨#[]⟩))) (sp_call2 (φ1 := Is (.pointer (some ⟨bo, 0, none⟩))) (φ2 := Is (.string (c.nm))) ent43 (hlc rfl) (hlc rfl) (fun g u1 u2 W hk hgk h1 h2 => by have h1 : u1 = _ := h1; subst u1; have h2 : u2 = _ := h2; subst u2; exact TextD_ok _ _ _ _ _ _ _ hE _ W _ (own_bo.ext hk))) ?_
    refine .i (sp_sEql (hlc rfl) Has.cst) ?_
    refine .i (sp_assign (hlc rfl)) ?_
    refine .done ⟨by kernel_rfl, fun a13 g W13 y13 zz13 hk hg hV hR hP => ?_⟩
    obtain ⟨e4, -, -, -, -, -, -⟩ := hV
    replace e4 := e4.q
    replace own_bo := own_bo.ext hk
    replace own_b3_2 := own_b3_2.ext hk
    replace kw := kw.x hk
    clear hR hk hg hP
    refine tail_nil (hK12 _ _ ?_)
    refine wp_ret ?_
    refine (show bodyPost Try.prog Try.f35 _ .ret _ _ from ret1 rfl zz13 e4 ⟨_, rfl, kw, ?_⟩)
    refine ⟨?_, own_bo⟩
    first | rfl | exact congrArg Value.bool (by first | rfl | exact beq_refl _ | simp)
   ·
    refine wp_seq_k fun K14 hK14 => ?_
    refine rg mixed y11 zz11 ?_
    refine .i (sp_eql (hbs rfl e6) Has.cst) ?_
    refine .i (sp_assign (hlc rfl)) ?_
    refine .done ⟨by kernel_rfl, fun a15 g W15 y15 zz15 hk hg hV hR hP => ?_⟩
    obtain ⟨e21, -, -⟩ := hV
    replace e0 := (hR 0 rfl).trans e0
    replace e3 := (hR 3 rfl).trans e3
    replace e6 := (hR 6 rfl).trans e6
    have e21 : sl a15 21 = (.bool ((c.wh : Int) == (2 : Int))) := e21
    replace own_bo := own_bo.ext hk
    replace own_b3_2 := own_b3_2.ext hk
    replace kw := kw.x hk
    clear hR hk hg hP
    refine tail_nil (hK14 _ _ ?_)
    refine wp_cond_split e21 (fun hc => ?_) (fun hc => ?_)
    ·
     refine wp_seq_k fun K16 hK16 => ?_
     refine rg mixed y15 zz15 ?_
     refine .i (sp_move (hbs rfl e0)) ?_
     refine .i (fo 1 (hbs rfl e3) Try.underlying54 rfl sz9 rfl) ?_
     refine .i (lo1 (hlc rfl) own_b3_2 trivial agg9 sz9 rfl) ?_
     refine .i (fo 2 (hbs rfl e3) Try.underlying54 rfl sz2 rfl) ?_
     refine .i (lo1 (hlc rfl) own_b3_2 trivial agg2 sz2 rfl) ?_
     refine .i (fo 3 (hbs rfl e3) Try.underlying54 rfl sz2 rfl) ?_
     refine .i (lo1 (hlc rfl) own_b3_2 trivial agg2 sz2 rfl) ?_
     refine .i (v := (.int .i64 (0))) (sp_call4 (φ1 := Is (.pointer (some ⟨bo, 0, none⟩))) (φ2 := Is (.string (c.nm))) (φ3 := Is (.int .i64 (c.lo))) (φ4 := Is (.int .i64 (c.hi))) ent44 (hlc rfl) (hlc rfl) (hlc rfl) (hlc rfl) (fun g u1 u2 u3 u4 W hk hgk h1 h2 h3 h4 => by have h1 : u1 = _ := h1; subst u1; have h2 : u2 = _ := h2; subst u2; have h3 : u3 = _ := h3; subst u3; have h4 : u4 = _ := h4; subst u4; exact NumD_ok _ _ _ _ _ _ _ hE _ _ _ W _ (own_bo.ext hk))) ?_
     refine .i (sp_eql (hlc rfl) Has.cst) ?_
     refine .i (sp_assign (hlc rfl)) ?_
     refine .done ⟨by kernel_rfl, fun a17 g W17 y17 zz17 hk hg hV hR hP => ?_⟩
     obtain ⟨e4, -, -, -, -, -, -, -, -, -, -⟩ := hV
     have e4 : sl a17 4 = (.bool ((0 : Int) == (0 : Int))) := e4
     replace own_bo := own_bo.ext hk
     replace own_b3_2 := own_b3_2.ext hk
     replace kw := kw.x hk
     clear hR hk hg hP
     refine tail_nil (hK16 _ _ ?_)
     refine wp_ret ?_
     refine (show bodyPost Try.prog Try.f35 _ .ret _ _ from ret1 rfl zz17 e4 ⟨_, rfl, kw, ?_⟩)
     refine ⟨?_, own_bo⟩
     first | rfl | exact congrArg Value.bool (by first | rfl | exact beq_refl _ | simp)
    ·
     refine wp_seq_k fun K18 hK18 => ?_
     refine rg mixed y15 zz15 ?_
     refine .i (sp_eql (hbs rfl e6) Has.cst) ?_
     refine .i (sp_assign (hlc rfl)) ?_
     refine .done ⟨by kernel_rfl, fun a19 g W19 y19 zz19 hk hg hV hR hP => ?_⟩
     obtain ⟨e32, -, -⟩ := hV
     replace e0 := (hR 0 rfl).trans e0
     replace e3 := (hR 3 rfl).trans e3
     replace e6 := (hR 6 rfl).trans e6
     have e32 : sl a19 32 = (.bool ((c.wh : Int) == (3 : Int))) := e32
     replace own_bo := own_bo.ext hk
     replace own_b3_2 := own_b3_2.ext hk
     replace kw := kw.x hk
     clear hR hk hg hP
     refine tail_nil (hK18 _ _ ?_)
     refine wp_cond_split e32 (fun hc => ?_) (fun hc => ?_)
     ·
      refine wp_seq_k fun K20 hK20 => ?_
      refine rg mixed y19 zz19 ?_
      refine .i (sp_move (hbs rfl e0)) ?_
      refine .i (fo 1 (hbs rfl e3) Try.underlying54 rfl sz9 rfl) ?_
      refine .i (lo1 (hlc rfl) own_b3_2 trivial agg9 sz9 rfl) ?_
      refine .i (v := (.bool (false))) (sp_call2 (φ1 := Is (.pointer (some ⟨bo, 0, none⟩))) (φ2 := Is (.string (c.nm))) ent45 (hlc rfl) (hlc rfl) (fun g u1 u2 W hk hgk h1 h2 => by have h1 : u1 = _ := h1; subst u1; have h2 : u2 = _ := h2; subst u2; exact BoolD_ok _ _ _ _ _ _ _ hE _ W _ (own_bo.ext hk))) ?_
      refine .i (sp_not (hlc rfl)) ?_
      refine .i (sp_assign (hlc rfl)) ?_
      refine .done ⟨by kernel_rfl, fun a21 g W21 y21 zz21 hk hg hV hR hP => ?_⟩
      obtain ⟨e4, -, -, -, -, -, -⟩ := hV
      have e4 : sl a21 4 = (.bool (!false)) := e4
      replace own_bo := own_bo.ext hk
      replace own_b3_2 := own_b3_2.ext hk
      replace kw := kw.x hk
      clear hR hk hg hP
      refine tail_nil (hK20 _ _ ?_)
      refine wp_ret ?_
      refine (show bodyPost Try.prog Try.f35 _ .ret _ _ from ret1 rfl zz21 e4 ⟨_, rfl, kw, ?_⟩)
      refine ⟨?_, own_bo⟩
      first | rfl | exact congrArg Value.bool (by first | rfl | exact beq_refl _ | simp)
     ·
      refine wp_seq_k fun K22 hK22 => ?_
      refine rg mixed y19 zz19 ?_
      refine .i (sp_eql (hbs rfl e6) Has.cst) ?_
      refine .i (sp_assign (hlc rfl)) ?_
      refine .done ⟨by kernel_rfl, fun a23 g W23 y23 zz23 hk hg hV hR hP => ?_⟩
      obtain ⟨e39, -, -⟩ := hV
      replace e0 := (hR 0 rfl).trans e0
      replace e3 := (hR 3 rfl).trans e3
      replace e6 := (hR 6 rfl).trans e6
      have e39 : sl a23 39 = (.bool ((c.wh : Int) == (4 : Int))) := e39
      replace own_bo := own_bo.ext hk
      replace own_b3_2 := own_b3_2.ext hk
      replace kw := kw.x hk
      clear hR hk hg hP
      refine tail_nil (hK22 _ _ ?_)
      refine wp_cond_split e39 (fun hc => ?_) (fun hc => ?_)
      ·
       refine wp_seq_k fun K24 hK24 => ?_
       refine rg mixed y23 zz23 ?_
       refine .i (sp_move (hbs rfl e0)) ?_
       refine .i (fo 1 (hbs rfl e3) Try.underlying54 rfl sz9 rfl) ?_
       refine .i (lo1 (hlc rfl) own_b3_2 trivial agg9 sz9 rfl) ?_
       refine .i (fo 4 (hbs rfl e3) Try.underlying54 rfl sz3 rfl) ?_
       refine .i (lo1 (hlc rfl) own_b3_2 trivial agg3 sz3 rfl) ?_
       refine .i (v := (.slice none 0 0)) (sp_call3 (φ1 := Is (.pointer (some ⟨bo, 0, none⟩))) (φ2 := Is (.string (c.nm))) (φ3 := Is (.int .i64 (c.mo))) ent46 (hlc rfl) (hlc rfl) (hlc rfl) (fun g u1 u2 u3 W hk hgk h1 h2 h3 => by have h1 : u1 = _ := h1; subst u1; have h2 : u2 = _ := h2; subst u2; have h3 : u3 = _ := h3; subst u3; exact ListD_ok _ _ _ _ _ _ _ hE _ _ W _ (own_bo.ext hk))) ?_
       refine .i (sp_lenV Try.underlying31 (hlc rfl)) ?_
       refine .i (sp_eql (hlc rfl) Has.cst) ?_
       refine .i (sp_assign (hlc rfl)) ?_
       refine .done ⟨by kernel_rfl, fun a25 g W25 y25 zz25 hk hg hV hR hP => ?_⟩
       obtain ⟨e4, -, -, -, -, -, -, -, -, -⟩ := hV
       replace e4 := e4.q
       replace own_bo := own_bo.ext hk
       replace own_b3_2 := own_b3_2.ext hk
       replace kw := kw.x hk
       clear hR hk hg hP
       refine tail_nil (hK24 _ _ ?_)
       refine wp_ret ?_
       refine (show bodyPost Try.prog Try.f35 _ .ret _ _ from ret1 rfl zz25 e4 ⟨_, rfl, kw, ?_⟩)
       refine ⟨?_, own_bo⟩
       first | rfl | exact congrArg Value.bool (by first | rfl | exact beq_refl _ | simp)
      ·
       refine wp_seq_k fun K26 hK26 => ?_
       refine rg mixed y23 zz23 ?_
       refine .i (sp_eql (hbs rfl e6) Has.cst) ?_
       refine .i (sp_assign (hlc rfl)) ?_
       refine .done ⟨by kernel_rfl, fun a27 g W27 y27 zz27 hk hg hV hR hP => ?_⟩
       obtain ⟨e49, -, -⟩ := hV
       replace e0 := (hR 0 rfl).trans e0
       replace e3 := (hR 3 rfl).trans e3
       replace e6 := (hR 6 rfl).trans e6
       have e49 : sl a27 49 = (.bool ((c.wh : Int) == (5 : Int))) := e49
       replace own_bo := own_bo.ext hk
       replace own_b3_2 := own_b3_2.ext hk
       replace kw := kw.x hk
       clear hR hk hg hP
       refine tail_nil (hK26 _ _ ?_)
       refine wp_cond_split e49 (fun hc => ?_) (fun hc => ?_)
       ·
        refine wp_seq_k fun K28 hK28 => ?_
        refine rg mixed y27 zz27 ?_
        refine .i (sp_move (hbs rfl e0)) ?_
        refine .i (fo 1 (hbs rfl e3) Try.underlying54 rfl sz9 rfl) ?_
        refine .i (lo1 (hlc rfl) own_b3_2 trivial agg9 sz9 rfl) ?_
        refine .i (fo 4 (hbs rfl e3) Try.underlying54 rfl sz3 rfl) ?_
        refine .i (lo1 (hlc rfl) own_b3_2 trivial agg3 sz3 rfl) ?_
        refine .i (v := (.slice none 0 0)) (sp_call3 (φ1 := Is (.pointer (some ⟨bo, 0, none⟩))) (φ2 := Is (.string (c.nm))) (φ3 := Is (.int .i64 (c.mo))) ent41 (hlc rfl) (hlc rfl) (hlc rfl) (fun g u1 u2 u3 W hk hgk h1 h2 h3 => by have h1 : u1 = _ := h1; subst u1; have h2 : u2 = _ := h2; subst u2; have h3 : u3 = _ := h3; subst u3; exact TextsD_ok _ _ _ _ _ _ _ hE _ _ W _ (own_bo.ext hk))) ?_
        refine .i (sp_lenV Try.underlying23 (hlc rfl)) ?_
        refine .i (sp_eql (hlc rfl) Has.cst) ?_
        refine .i (sp_assign (hlc rfl)) ?_
        refine .done ⟨by kernel_rfl, fun a29 g W29 y29 zz29 hk hg hV hR hP => ?_⟩
        obtain ⟨e4, -, -, -, -, -, -, -, -, -⟩ := hV
        replace e4 := e4.q
        replace own_bo := own_bo.ext hk
        replace own_b3_2 := own_b3_2.ext hk
        replace kw := kw.x hk
        clear hR hk hg hP
        refine tail_nil (hK28 _ _ ?_)
        refine wp_ret ?_
        refine (show bodyPost Try.prog Try.f35 _ .ret _ _ from ret1 rfl zz29 e4 ⟨_, rfl, kw, ?_⟩)
        refine ⟨?_, own_bo⟩
        first | rfl | exact congrArg Value.bool (by first | rfl | exact beq_refl _ | simp)
       ·
        refine wp_seq_k fun K30 hK30 => ?_
        refine rg mixed y27 zz27 ?_
        refine .i (sp_eql (hbs rfl e6) Has.cst) ?_
        refine .i (sp_assign (hlc rfl)) ?_
        refine .done ⟨by kernel_rfl, fun a31 g W31 y31 zz31 hk hg hV hR hP => ?_⟩
        obtain ⟨e59, -, -⟩ := hV
        replace e0 := (hR 0 rfl).trans e0
        replace e3 := (hR 3 rfl).trans e3
        replace e6 := (hR 6 rfl).trans e6
        have e59 : sl a31 59 = (.bool ((c.wh : Int) == (6 : Int))) := e59
        replace own_bo := own_bo.ext hk
        replace own_b3_2 := own_b3_2.ext hk
        replace kw := kw.x hk
        clear hR hk hg hP
        refine tail_nil (hK30 _ _ ?_)
        refine wp_cond_split e59 (fun hc => ?_) (fun hc => ?_)
        ·
         refine wp_seq_k fun K32 hK32 => ?_
         refine rg mixed y31 zz31 ?_
         refine .i (sp_move (hbs rfl e0)) ?_
         refine .i (fo 1 (hbs rfl e3) Try.underlying54 rfl sz9 rfl) ?_
         refine .i (lo1 (hlc rfl) own_b3_2 trivial agg9 sz9 rfl) ?_
         refine .i (fo 4 (hbs rfl e3) Try.underlying54 rfl sz3 rfl) ?_
         refine .i (lo1 (hlc rfl) own_b3_2 trivial agg3 sz3 rfl) ?_
         refine .i (v := (.agg #[(.int .u8 (0)), (.int .i64 (0)), (.string (⟨#[]⟩)), (.slice none 0 0), (.slice none 0 0)])) (sp_call3 (φ1 := Is (.pointer (some ⟨bo, 0, none⟩))) (φ2 := Is (.string (c.nm))) (φ3 := Is (.int .i64 (c.mo))) ent47 (hlc rfl) (hlc rfl) (hlc rfl) (fun g u1 u2 u3 W hk hgk h1 h2 h3 => by have h1 : u1 = _ := h1; subst u1; have h2 : u2 = _ := h2; subst u2; have h3 : u3 = _ := h3; subst u3; exact ObjectD_ok _ _ _ _ _ _ _ hE _ _ W _ (own_bo.ext hk))) ?_
         refine .i (v := (.agg #[(.int .u8 (0)), (.int .i64 (0)), (.string (⟨#[]⟩)), (.slice none 0 0), (.slice none 0 0)])) (sp_build (vs := []) Try.underlying33 z33 (pl33 Try.underlying33) trivial rfl) ?_
         refine .i (v := (.bool (V.beq (V.mk (0) (0) (⟨#[]⟩) ([]) ([])) (V.mk (0) (0) (⟨#[]⟩) ([]) ([]))))) (sp_call2 (φ1 := IsD (SF w [b3_2, bo]) (V.d (V.mk (0) (0) (⟨#[]⟩) ([]) ([])))) (φ2 := IsD (SF w [b3_2, bo]) (V.d (V.mk (0) (0) (⟨#[]⟩) ([]) ([])))) ent34 ((hlc rfl).dat (rdV_mk (by decide) (rd_nil _) (rd_nil _) : Rd W31 (SF w [b3_2, bo]) (V.d (V.mk (0) (0) (⟨#[]⟩) ([]) ([]))) _) sub_all) ((hlc rfl).dat (rdV_mk (lbr rfl) (rd_nil _) (rd_nil _) : Rd W31 (SF w [b3_2, bo]) (V.d (V.mk (0) (0) (⟨#[]⟩) ([]) ([]))) _) sub_all) (fun g u1 u2 W hk hgk h1 h2 => refSame_all _ (V.mk (0) (0) (⟨#[]⟩) ([]) ([])) (V.mk (0) (0) (⟨#[]⟩) ([]) ([])) (Nat.le_refl _) (by first | omega | exact Nat.le_of_ble_eq_true (by kernel_rfl)) W _ _ _ h1 h2)) ?_
         refine .i (sp_assign (hlc rfl)) ?_
         refine .done ⟨by kernel_rfl, fun a33 g W33 y33 zz33 hk hg hV hR hP => ?_⟩
         obtain ⟨e4, -, -, -, -, -, -, -, -, -⟩ := hV
         replace e4 := e4.q
         replace own_bo := own_bo.ext hk
         replace own_b3_2 := own_b3_2.ext hk
         replace kw := kw.x hk
         clear hR hk hg hP
         refine tail_nil (hK32 _ _ ?_)
         refine wp_ret ?_
         refine (show bodyPost Try.prog Try.f35 _ .ret _ _ from ret1 rfl zz33 e4 ⟨_, rfl, kw, ?_⟩)
         refine ⟨?_, own_bo⟩
         first | rfl | exact congrArg Value.bool (by first | rfl | exact beq_refl _ | simp)
        ·
         refine wp_seq_k fun K34 hK34 => ?_
         refine rg mixed y31 zz31 ?_
         refine .i (sp_eql (hbs rfl e6) Has.cst) ?_
         refine .i (sp_assign (hlc rfl)) ?_
         refine .done ⟨by kernel_rfl, fun a35 g W35 y35 zz35 hk hg hV hR hP => ?_⟩
         obtain ⟨e69, -, -⟩ := hV
         replace e0 := (hR 0 rfl).trans e0
         replace e3 := (hR 3 rfl).trans e3
         replace e6 := (hR 6 rfl).trans e6
         have e69 : sl a35 69 = (.bool ((c.wh : Int) == (7 : Int))) := e69
         replace own_bo := own_bo.ext hk
         replace own_b3_2 := own_b3_2.ext hk
         replace kw := kw.x hk
         clear hR hk hg hP
         refine tail_nil (hK34 _ _ ?_)
         refine wp_cond_split e69 (fun hc => ?_) (fun hc => ?_)
         ·
          refine wp_seq_k fun K36 hK36 => ?_
          refine rg mixed y35 zz35 ?_
          refine .i (sp_move (hbs rfl e0)) ?_
          refine .i (fo 1 (hbs rfl e3) Try.underlying54 rfl sz9 rfl) ?_
          refine .i (lo1 (hlc rfl) own_b3_2 trivial agg9 sz9 rfl) ?_
          refine .i (v := (.agg #[(.int .u8 (0)), (.int .i64 (0)), (.string (⟨#[]⟩)), (.slice none 0 0), (.slice none 0 0)])) (sp_call2 (φ1 := Is (.pointer (some ⟨bo, 0, none⟩))) (φ2 := Is (.string (c.nm))) ent48 (hlc rfl) (hlc rfl) (fun g u1 u2 W hk hgk h1 h2 => by have h1 : u1 = _ := h1; subst u1; have h2 : u2 = _ := h2; subst u2; exact AnyD_ok _ _ _ _ _ _ _ hE _ W _ (own_bo.ext hk))) ?_
          refine .i (v := (.agg #[(.int .u8 (0)), (.int .i64 (0)), (.string (⟨#[]⟩)), (.slice none 0 0), (.slice none 0 0)])) (sp_build (vs := []) Try.underlying33 z33 (pl33 Try.underlying33) trivial rfl) ?_
          refine .i (v := (.bool (V.beq (V.mk (0) (0) (⟨#[]⟩) ([]) ([])) (V.mk (0) (0) (⟨#[]⟩) ([]) ([]))))) (sp_call2 (φ1 := IsD (SF w [b3_2, bo]) (V.d (V.mk (0) (0) (⟨#[]⟩) ([]) ([])))) (φ2 := IsD (SF w [b3_2, bo]) (V.d (V.mk (0) (0) (⟨#[]⟩) ([]) ([])))) ent34 ((hlc rfl).dat (rdV_mk (by decide) (rd_nil _) (rd_nil _) : Rd W35 (SF w [b3_2, bo]) (V.d (V.mk (0) (0) (⟨#[]⟩) ([]) ([]))) _) sub_all) ((hlc rfl).dat (rdV_mk (lbr rfl) (rd_nil _) (rd_nil _) : Rd W35 (SF w [b3_2, bo]) (V.d (V.mk (0) (0) (⟨#[]⟩) ([]) ([]))) _) sub_all) (fun g u1 u2 W hk hgk h1 h2 => refSame_all _ (V.mk (0) (0) (⟨#[]⟩) ([]) ([])) (V.mk (0) (0) (⟨#[]⟩) ([]) ([])) (Nat.le_refl _) (by first | omega | exact Nat.le_of_ble_eq_true (by kernel_rfl)) W _ _ _ h1 h2)) ?_
          refine .i (sp_assign (hlc rfl)) ?_
          refine .done ⟨by kernel_rfl, fun a37 g W37 y37 zz37 hk hg hV hR hP => ?_⟩
          obtain ⟨e4, -, -, -, -, -, -, -⟩ := hV
          replace e4 := e4.q
          replace own_bo := own_bo.ext hk
          replace own_b3_2 := own_b3_2.ext hk
          replace kw := kw.x hk
          clear hR hk hg hP
          refine tail_nil (hK36 _ _ ?_)
          refine wp_ret ?_
          refine (show bodyPost Try.prog Try.f35 _ .ret _ _ from ret1 rfl zz37 e4 ⟨_, rfl, kw, ?_⟩)
          refine ⟨?_, own_bo⟩
          first | rfl | exact congrArg Value.bool (by first | rfl | exact beq_refl _ | simp)
         ·
          refine wp_seq_k fun K38 hK38 => ?_
          refine rg mixed y35 zz35 ?_
          refine .i (sp_eql (hbs rfl e6) Has.cst) ?_
          refine .i (sp_assign (hlc rfl)) ?_
          refine .done ⟨by kernel_rfl, fun a39 g W39 y39 zz39 hk hg hV hR hP => ?_⟩
          obtain ⟨e77, -, -⟩ := hV
          replace e0 := (hR 0 rfl).trans e0
          replace e3 := (hR 3 rfl).trans e3
          have e77 : sl a39 77 = (.bool ((c.wh : Int) == (8 : Int))) := e77
          replace own_bo := own_bo.ext hk
          replace own_b3_2 := own_b3_2.ext hk
          replace kw := kw.x hk
          clear hR hk hg hP
          refine tail_nil (hK38 _ _ ?_)
          refine wp_cond_split e77 (fun hc => ?_) (fun hc => ?_)
          ·
           refine wp_reg (fun k => k ∉ [bo]) (Ψ := fun W => Own W bo [(.int .u8 ((k : Nat))), (.int .i64 (n)), (.string (t)), cn, ci, mv, (.int .i64 (e))] 74) mixed y39 zz39 stE_own own_bo ?_
           refine .i (sp_move (hbs rfl e0)) ?_
           refine .i (fo 5 (hbs rfl e3) Try.underlying54 rfl sz28 rfl) ?_
           refine .i (lo1 (hlc rfl) own_b3_2 (by simp [ne_bo_b3_2.symm]) agg28 sz28 rfl) ?_
           refine .callL2 (φ1 := Is (.pointer (some ⟨bo, 0, none⟩))) (φ2 := Is (.int .i64 (c.er))) (φ := Is (.tuple #[])) (Ψ' := fun W => Own W bo [(.int .u8 ((k : Nat))), (.int .i64 (n)), (.string (t)), cn, ci, mv, (.int .i64 (e))] 74) ent22 (hlc rfl) (hlc rfl) (st_is _) stE_own (fun g u1 u2 W hk hg h1 h2 hP => by have h1 : u1 = _ := h1; subst u1; have h2 : u2 = _ := h2; subst u2; exact (Fail_ok _ _ _ _ _ _ _ (c.er) W _ hP).mono (fun _ _ ⟨v, h1, h2, h3, h4⟩ => ⟨v, h1, h2, h3, by rw [failK_dead hE] at h4; exact h4⟩)) ?_
           refine .done ⟨by kernel_rfl, fun a40 g W40 y40 zz40 hk hg hV hR hP => ?_⟩
           obtain ⟨-, -, -, -, -⟩ := hV
           replace own_b3_2 := own_keepL own_b3_2 hk (by simp [ne_bo_b3_2.symm])
           have own_bo := hP
           replace own_bo : Own W40 bo [(.int .u8 ((k : Nat))), (.int .i64 (n)), (.string (t)), cn, ci, mv, (.int .i64 (e))] 74 := own_bo
           replace kw := keeps_L kw hk (in_cons (.inr (by simp)) in_nil)
           clear hR hk hg hP
           refine tail_nil (hK3 _ _ ?_)
           refine wp_seq_k fun K41 hK41 => ?_
           refine rg mixed y40 zz40 ?_
           refine .i (sp_assign Has.cst) ?_
           refine .done ⟨by kernel_rfl, fun a42 g W42 y42 zz42 hk hg hV hR hP => ?_⟩
           obtain ⟨e4, -⟩ := hV
           have e4 : sl a42 4 = (.bool (true)) := e4
           replace own_bo := own_bo.ext hk
           replace own_b3_2 := own_b3_2.ext hk
           replace kw := kw.x hk
           clear hR hk hg hP
           refine tail_nil (hK41 _ _ ?_)
           refine wp_ret ?_
           refine (show bodyPost Try.prog Try.f35 _ .ret _ _ from ret1 rfl zz42 e4 ⟨_, rfl, kw, ?_⟩)
           refine ⟨?_, own_bo⟩
           first | rfl | exact congrArg Value.bool (by first | rfl | exact beq_refl _ | simp)
          ·
           refine wp_skip (hK3 _ _ ?_)
           refine wp_seq_k fun K43 hK43 => ?_
           refine rg mixed y39 zz39 ?_
           refine .i (sp_assign Has.cst) ?_
           refine .done ⟨by kernel_rfl, fun a44 g W44 y44 zz44 hk hg hV hR hP => ?_⟩
           obtain ⟨e4, -⟩ := hV
           have e4 : sl a44 4 = (.bool (true)) := e4
           replace own_bo := own_bo.ext hk
           replace own_b3_2 := own_b3_2.ext hk
           replace kw := kw.x hk
           clear hR hk hg hP
           refine tail_nil (hK43 _ _ ?_)
           refine wp_ret ?_
           refine (show bodyPost Try.prog Try.f35 _ .ret _ _ from ret1 rfl zz44 e4 ⟨_, rfl, kw, ?_⟩)
           refine ⟨?_, own_bo⟩
           first | rfl | exact congrArg Value.bool (by first | rfl | exact beq_refl _ | simp)
end Go.Proofs.Ytnobijngkpflcaa
