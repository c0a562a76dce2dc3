import Derived.Test.YtnobijngkpflcaaH3
namespace Go.Proofs.Ytnobijngkpflcaa
open Go.Eng
set_option maxRecDepth 100000 in
theorem num1_ok (x : V) (lo hi : Int) (w : World) (S : BSet) (v : Value) (b1 b2 : Nat) (hv : Rd w S x.d v) (own_b1 : Own w b1 [.int .i64 lo] 2) (own_b2 : Own w b2 [.int .i64 hi] 2) : Calls Try.prog 105 #[v, .pointer (some ⟨b1, 0, none⟩), .pointer (some ⟨b2, 0, none⟩)] w (Ret w fun r _ => r = .tuple #[.int .i64 (numV lo hi x), .int .i64 (numE lo hi x)]) := by
  obtain ⟨cn0a, cn0c, ci0a, ci0c, ev, ht0, D_cn0, D_ci0⟩ := rdV_out (rd_arg hv)
  subst ev
  refine enter Try.func105 rfl Try.ntmps105 (lbr rfl) fun a0 y0 zz0 harg => ?_
  have e0 : sl a0 0 = (.agg #[(.int .u8 (x.k)), (.int .i64 (x.n)), (.string (x.t)), (.slice cn0a (x.ns.length) cn0c), (.slice ci0a (x.xs.length) ci0c)]) := harg 0 (lbr rfl)
  have e1 : sl a0 1 = (.pointer (some ⟨b1, 0, none⟩)) := harg 1 (lbr rfl)
  have e2 : sl a0 2 = (.pointer (some ⟨b2, 0, none⟩)) := harg 2 (lbr rfl)
  have kw := Keeps.refl All w
  clear harg
  refine wp_seq_k fun K1 hK1 => ?_
  refine rg mixed y0 zz0 ?_
  refine .boxOp (v := (.agg #[(.int .u8 (x.k)), (.int .i64 (x.n)), (.string (x.t)), (.slice cn0a (x.ns.length) cn0c), (.slice ci0a (x.xs.length) ci0c)])) (hbs rfl e0) ?_
  refine .i (sp_assign Has.cst) ?_
  refine .i (sp_assign Has.cst) ?_
  refine .done ⟨by kernel_rfl, fun a2 g W2 y2 zz2 hk hg hV hR hP => ?_⟩
  obtain ⟨-, -, ⟨b3_2, e3, hb3, own_b3_2⟩, -⟩ := hV
  have lo_b3_2 : w.heap.size ≤ b3_2 := Nat.le_trans kw.size (hg.lo _ _ hb3)
  have ne_b1_b3_2 : b1 ≠ b3_2 := Nat.ne_of_lt (Nat.lt_of_lt_of_le own_b1.lt (hg.lo _ _ hb3))
  have ne_b2_b3_2 : b2 ≠ b3_2 := Nat.ne_of_lt (Nat.lt_of_lt_of_le own_b2.lt (hg.lo _ _ hb3))
  have own_b3_2 : Own W2 b3_2 [(.int .u8 (x.k)), (.int .i64 (x.n)), (.string (x.t)), (.slice cn0a (x.ns.length) cn0c), (.slice ci0a (x.xs.length) ci0c)] 33 := own_b3_2
  replace e1 := (hR 1 rfl).trans e1
  replace e2 := (hR 2 rfl).trans e2
  replace D_cn0 := sa_more D_cn0 hk [b3_2] (in_cons (hg.lo _ _ hb3) in_nil)
  replace D_ci0 := sa_more D_ci0 hk [b3_2] (in_cons (hg.lo _ _ hb3) in_nil)
  replace own_b1 := own_b1.ext hk
  replace own_b2 := own_b2.ext hk
  replace kw := kw.x hk
  clear hR hk hg hP hb3
  refine tail_nil (hK1 _ _ ?_)
  refine wp_seq_k fun K3 hK3 => ?_
  refine wp_seq_k fun K4 hK4 => ?_
  refine rg mixed y2 zz2 ?_
  refine .i (fo 0 (hbs rfl e3) Try.underlying33 rfl sz5 rfl) ?_
  refine .i (lo1 (hlc rfl) own_b3_2 trivial agg5 sz5 rfl) ?_
  refine .i (sp_neq (hlc rfl) Has.cst) ?_
  refine .done ⟨by kernel_rfl, fun a5 g W5 y5 zz5 hk hg hV hR hP => ?_⟩
  obtain ⟨e8, -, -, -⟩ := hV
  replace e1 := (hR 1 rfl).trans e1
  replace e2 := (hR 2 rfl).trans e2
  replace e3 := (hR 3 rfl).trans e3
  replace D_cn0 := D_cn0.ext hk
  replace D_ci0 := D_ci0.ext hk
  have e8 : sl a5 8 = (.bool ((x.k : Int) != (2 : Int))) := e8
  replace own_b1 := own_b1.ext hk
  replace own_b2 := own_b2.ext hk
  replace own_b3_2 := own_b3_2.ext hk
  replace kw := kw.x hk
  clear hR hk hg hP
  refine tail_nil (hK4 _ _ ?_)
  refine wp_cond_split e8 (fun hc => ?_) (fun hc => ?_)
  ·
   have hk : x.k ≠ 2 := by simp at hc; omega
   have hf : numE lo hi x = 10 := by rw [numE, if_pos hk]
   have hv2 : numV lo hi x = 0 := by rw [numV, hf]; rfl
   refine wp_seq_k fun K6 hK6 => ?_
   refine rg mixed y5 zz5 ?_
   refine .i (sp_assign Has.cst) ?_
   refine .i (sp_assign Has.cst) ?_
   refine .done ⟨by kernel_rfl, fun a7 g W7 y7 zz7 hk hg hV hR hP => ?_⟩
   obtain ⟨e5, e4, -⟩ := hV
   replace D_cn0 := D_cn0.ext hk
   replace D_ci0 := D_ci0.ext hk
   have e4 : sl a7 4 = (.int .i64 (0)) := e4
   have e5 : sl a7 5 = (.int .i64 (10)) := e5
   replace own_b1 := own_b1.ext hk
   replace own_b2 := own_b2.ext hk
   replace own_b3_2 := own_b3_2.ext hk
   replace kw := kw.x hk
   clear hR hk hg hP
   refine tail_nil (hK6 _ _ ?_)
   refine wp_ret ?_
   refine (show bodyPost Try.prog Try.f105 _ .ret _ _ from ret2 rfl zz7 e4 e5 ⟨_, rfl, kw, ?_⟩)
   rw [hf, hv2]
  ·
   have hk : ¬ x.k ≠ 2 := by simp at hc; omega
   refine wp_skip (hK3 _ _ ?_)
   refine wp_seq_k fun K8 hK8 => ?_
   refine wp_seq_k fun K9 hK9 => ?_
   refine rg mixed y5 zz5 ?_
   refine .i (fo 1 (hbs rfl e3) Try.underlying33 rfl sz2 rfl) ?_
   refine .i (lo1 (hlc rfl) own_b3_2 trivial agg2 sz2 rfl) ?_
   refine .i (lo1 (hbs rfl e1) own_b1 trivial agg2 sz2 rfl) ?_
   refine .i (sp_lss (hlc rfl) (hlc rfl)) ?_
   refine .i (sp_move (hlc rfl)) ?_
   refine .e (t := 13) rfl (hlc rfl) (fun hg => fo 1 (hbs rfl e3) Try.underlying33 rfl sz2 rfl) ?_
   refine .e (t := 13) rfl (hlc rfl) (fun hg => lo1 ((hlc rfl).undE hg) own_b3_2 trivial agg2 sz2 rfl) ?_
   refine .e (t := 13) rfl (hlc rfl) (fun hg => lo1 (hbs rfl e2) own_b2 trivial agg2 sz2 rfl) ?_
   refine .e (t := 13) rfl (hlc rfl) (fun hg => sp_gtr ((hlc rfl).undE hg) ((hlc rfl).undE hg)) ?_
   refine .i (sp_or (hlc rfl) ((hlc rfl).weak fun hq => hq)) ?_
   refine .done ⟨by kernel_rfl, fun a10 g W10 y10 zz10 hk hg hV hR hP => ?_⟩
   obtain ⟨e18, -, -, -, -, -, -, -, -, -, -⟩ := hV
   replace e3 := (hR 3 rfl).trans e3
   replace D_cn0 := D_cn0.ext hk
   replace D_ci0 := D_ci0.ext hk
   replace e18 := e18.q
   replace own_b1 := own_b1.ext hk
   replace own_b2 := own_b2.ext hk
   replace own_b3_2 := own_b3_2.ext hk
   replace kw := kw.x hk
   clear hR hk hg hP
   refine tail_nil (hK9 _ _ ?_)
   refine wp_cond_split e18 (fun hc => ?_) (fun hc => ?_)
   ·
    have hl : x.n < lo ∨ hi < x.n := by simpa using hc
    have hf : numE lo hi x = 1 := by rw [numE, if_neg hk, if_pos hl]
    have hv2 : numV lo hi x = 0 := by rw [numV, hf]; rfl
    refine wp_seq_k fun K11 hK11 => ?_
    refine rg mixed y10 zz10 ?_
    refine .i (sp_assign Has.cst) ?_
    refine .i (sp_assign Has.cst) ?_
    refine .done ⟨by kernel_rfl, fun a12 g W12 y12 zz12 hk hg hV hR hP => ?_⟩
    obtain ⟨e5, e4, -⟩ := hV
    replace D_cn0 := D_cn0.ext hk
    replace D_ci0 := D_ci0.ext hk
    have e4 : sl a12 4 = (.int .i64 (0)) := e4
    have e5 : sl a12 5 = (.int .i64 (1)) := e5
    replace own_b1 := own_b1.ext hk
    replace own_b2 := own_b2.ext hk
    replace own_b3_2 := own_b3_2.ext hk
    replace kw := kw.x hk
    clear hR hk hg hP
    refine tail_nil (hK11 _ _ ?_)
    refine wp_ret ?_
    refine (show bodyPost Try.prog Try.f105 _ .ret _ _ from ret2 rfl zz12 e4 e5 ⟨_, rfl, kw, ?_⟩)
    rw [hf, hv2]
   ·
    have hl : ¬ (x.n < lo ∨ hi < x.n) := by simp at hc; omega
    have hf : numE lo hi x = 0 := by rw [numE, if_neg hk, if_neg hl]
    have hv2 : numV lo hi x = x.n := by rw [numV, if_pos hf]
    refine wp_skip (hK8 _ _ ?_)
    refine wp_seq_k fun K13 hK13 => ?_
    refine rg mixed y10 zz10 ?_
    refine .i (fo 1 (hbs rfl e3) Try.underlying33 rfl sz2 rfl) ?_
    refine .i (lo1 (hlc rfl) own_b3_2 trivial agg2 sz2 rfl) ?_
    refine .i (sp_assign (hlc rfl)) ?_
    refine .i (sp_assign Has.cst) ?_
    refine .done ⟨by kernel_rfl, fun a14 g W14 y14 zz14 hk hg hV hR hP => ?_⟩
    obtain ⟨e5, e4, -, -, -⟩ := hV
    replace D_cn0 := D_cn0.ext hk
    replace D_ci0 := D_ci0.ext hk
    have e4 : sl a14 4 = (.int .i64 (x.n)) := e4
    have e5 : sl a14 5 = (.int .i64 (0)) := e5
    replace own_b1 := own_b1.ext hk
    replace own_b2 := own_b2.ext hk
    replace own_b3_2 := own_b3_2.ext hk
    replace kw := kw.x hk
    clear hR hk hg hP
    refine tail_nil (hK13 _ _ ?_)
    refine wp_ret ?_
    refine (show bodyPost Try.prog Try.f105 _ .ret _ _ from ret2 rfl zz14 e4 e5 ⟨_, rfl, kw, ?_⟩)
    rw [hf, hv2]

set_option maxRecDepth 100000 in
theorem takeS_ok (x : V) (A : As) (e : Int) (hA : AB 1000000 A) (hx : x.wt ≤ 1073741824) (hxt : x.t.size ≤ maxLen) (name : ByteArray) (fi : FuncId) (cb : Array Value) (ce : V → Int) (fv : V → List ByteArray) (w : World) (S : BSet) (cn ci : Value) (bo bm : Nat) (hS : ∀ b o, S b o → Cln o) (hM : ∀ b ∈ [bo, bm], ∀ o, ¬ S b o) (hne : bo ≠ bm) (hv : Rd w S (strsD x.ns) cn) (hu : Rd w S (valsD x.xs) ci) (own_bo : Own w bo [.int .u8 x.k, .int .i64 x.n, .string x.t, cn, ci, .map (some bm), .int .i64 (e)] 74) (own_bm : OwnM w bm A) (ef : Enters Try.prog fi) (hf : ∀ W, Keeps (fun k => k ∉ [bo, bm]) w W → ∀ (y : V) (v : Value), y.wt ≤ 1073741824 → Rd W (Fr w) y.d v → Calls Try.prog fi (#[v] ++ cb) W (Ret W fun r W2 => ∃ r1, r = .tuple #[r1, .int .i64 (ce y)] ∧ Rd W2 (Fr W) (strsD (fv y)) r1)) : Calls Try.prog 98 #[.pointer (some ⟨bo, 0, none⟩), .string name, .func (.func fi) #[] cb] w (RetL w [bo, bm] fun u W => Rd W (Fr w) (strsD (if tkB x e name ce then fv (getV x name) else [])) u ∧ Own W bo [.int .u8 x.k, .int .i64 x.n, .string x.t, cn, ci, .map (some bm), .int .i64 (tkE x e name ce)] 74 ∧ OwnM W bm (tkA x A e name ce)) := by
  have hwx := wt_eq x
  have hwl := wts_len x.xs
  have hwn := wtN_len x.ns
  obtain ⟨cna, cnc, ev, D_cn⟩ := rdS_out (rd_argM (M := [bo, bm]) hv hM)
  subst ev
  obtain ⟨cia, cic, ev, D_ci⟩ := rdVs_out (rd_argM (M := [bo, bm]) hu hM)
  subst ev
  refine enter Try.func98 rfl Try.ntmps98 (lbr rfl) fun a0 y0 zz0 harg => ?_
  have e0 : sl a0 0 = (.pointer (some ⟨bo, 0, none⟩)) := harg 0 (lbr rfl)
  have e1 : sl a0 1 = (.string (name)) := harg 1 (lbr rfl)
  have e2 : sl a0 2 = (.func (.func fi) #[] cb) := harg 2 (lbr rfl)
  have kw := Keeps.refl (fun k => k ∉ [bo, bm]) w
  clear harg
  refine wp_seq_k fun K1 hK1 => ?_
  refine rg mixed y0 zz0 ?_
  refine .i (sp_assign Has.cst) ?_
  refine .done ⟨by kernel_rfl, fun a2 g W2 y2 zz2 hk hg hV hR hP => ?_⟩
  obtain ⟨-, -⟩ := hV
  replace e0 := (hR 0 rfl).trans e0
  replace e1 := (hR 1 rfl).trans e1
  replace e2 := (hR 2 rfl).trans e2
  replace D_cn := D_cn.ext hk
  replace D_ci := D_ci.ext hk
  replace own_bo := own_bo.ext hk
  replace own_bm := own_bm.ext hk
  replace kw := kw.x hk
  clear hR hk hg hP
  refine tail_nil (hK1 _ _ ?_)
  refine wp_seq_k fun K3 hK3 => ?_
  refine rg mixed y2 zz2 ?_
  refine .i (sp_assign Has.cst) ?_
  refine .done ⟨by kernel_rfl, fun a4 g W4 y4 zz4 hk hg hV hR hP => ?_⟩
  obtain ⟨e7, -⟩ := hV
  replace e0 := (hR 0 rfl).trans e0
  replace e1 := (hR 1 rfl).trans e1
  replace e2 := (hR 2 rfl).trans e2
  replace D_cn := D_cn.ext hk
  replace D_ci := D_ci.ext hk
  have e7 : sl a4 7 = (.slice none 0 0) := e7
  replace own_bo := own_bo.ext hk
  replace own_bm := own_bm.ext hk
  replace kw := kw.x hk
  clear hR hk hg hP
  refine tail_nil (hK3 _ _ ?_)
  refine wp_seq_k fun K5 hK5 => ?_
  refine wp_seq_k fun K6 hK6 => ?_
  refine rg mixed y4 zz4 ?_
  refine .i (sp_move (hbs rfl e0)) ?_
  refine .i (v := (.int .i64 (errK x.k e))) (sp_call1 (φ1 := Is (.pointer (some ⟨bo, 0, none⟩))) ent24 (hlc rfl) (fun g u1 W hk hgk h1 => by have h1 : u1 = _ := h1; subst u1; exact Err_ok _ _ _ _ _ _ _ W _ (own_bo.ext hk))) ?_
  refine .i (sp_neq (hlc rfl) Has.cst) ?_
  refine .done ⟨by kernel_rfl, fun a7 g W7 y7 zz7 hk hg hV hR hP => ?_⟩
  obtain ⟨e14, -, -, -⟩ := hV
  replace e0 := (hR 0 rfl).trans e0
  replace e1 := (hR 1 rfl).trans e1
  replace e2 := (hR 2 rfl).trans e2
  replace e7 := (hR 7 rfl).trans e7
  replace D_cn := D_cn.ext hk
  replace D_ci := D_ci.ext hk
  replace e14 := e14.q
  replace own_bo := own_bo.ext hk
  replace own_bm := own_bm.ext hk
  replace kw := kw.x hk
  clear hR hk hg hP
  refine tail_nil (hK6 _ _ ?_)
  refine wp_cond_split e14 (fun hc => ?_) (fun hc => ?_)
  ·
   have hE : errK x.k e ≠ 0 := by simpa using hc
   have h1 : tkE x e name ce = e := by rw [tkE, if_pos hE]
   have h2 : tkB x e name ce = false := by simp [tkB, hE]
   have h3 : tkA x A e name ce = A := by rw [tkA, h2]; rfl
   refine wp_seq_k fun K8 hK8 => ?_
   refine rg mixed y7 zz7 ?_
   refine .i (sp_move (hbs rfl e7)) ?_
   refine .i (sp_assign (hlc rfl)) ?_
   refine .done ⟨by kernel_rfl, fun a9 g W9 y9 zz9 hk hg hV hR hP => ?_⟩
   obtain ⟨e6, -, -⟩ := hV
   replace D_cn := D_cn.ext hk
   replace D_ci := D_ci.ext hk
   have e6 : sl a9 6 = (.slice none 0 0) := e6
   replace own_bo := own_bo.ext hk
   replace own_bm := own_bm.ext hk
   replace kw := kw.x hk
   clear hR hk hg hP
   refine tail_nil (hK8 _ _ ?_)
   refine wp_ret ?_
   refine (show bodyPost Try.prog Try.f98 _ .ret _ _ from ret1 rfl zz9 e6 ⟨_, rfl, kw, ?_⟩)
   rw [h1, h3, h2]
   exact ⟨rd_nil _, own_bo, own_bm⟩
  ·
   have hE : errK x.k e = 0 := by simpa using hc
   have he0 := (errK_zero hE).1
   refine wp_skip (hK5 _ _ ?_)
   refine wp_seq_k fun K10 hK10 => ?_
   refine rg mixed y7 zz7 ?_
   refine .i (sp_move (hbs rfl e0)) ?_
   refine .i (sp_nilP (hlc rfl)) ?_
   refine .i (fo 0 (hlc rfl) Try.underlying74 rfl sz33 rfl) ?_
   refine .i (v := (.agg #[(.int .u8 (x.k)), (.int .i64 (x.n)), (.string (x.t)), (.slice cna (x.ns.length) cnc), (.slice cia (x.xs.length) cic)])) (loA (hlc rfl) own_bo trivial agg33 sz33 rfl rfl) ?_
   refine .i (sp_move (hbs rfl e1)) ?_
   refine .op (φ := IsT (IsD (Fr W7) (V.d (getV (x) name))) (Is (.bool (getB (x) name)))) (st_t (st_d sub_all) (st_is _)) (sp_call2 (φ1 := IsD (SA w S [bo, bm]) (V.d (x))) (φ2 := Is (.string (name))) ent101 ((hlc rfl).dat (rdV_in (x := x) hxt D_cn D_ci : Rd W7 (SA w S [bo, bm]) (V.d (x)) _) sub_all) (hlc rfl) (fun g u1 u2 W hk hgk h1 h2 => by have h2 : u2 = _ := h2; subst u2; exact (Get_ok (x) (name) (by omega) W _ _ (fun b o h => sa_cln hS b o h.1) h1).mono (fun _ _ ⟨v, h1, h2, r1, h3, h4⟩ => ⟨v, h1, h2, r1, _, h3, fresh_d hk hgk h4, rfl⟩))) ?_
   refine .op (φ := IsT (IsD (Fr W7) (V.d (getV (x) name))) (Is (.bool (getB (x) name)))) (st_t (st_d sub_all) (st_is _)) (sp_move (hlc rfl)) ?_
   refine .da (X := Fr W7) (e := V.d (getV (x) name)) (sp_ext2 (hlc rfl) rfl) ?_
   refine .i (v := (.bool (getB (x) name))) (sp_ext2' (hlc rfl) rfl) ?_
   refine .alloc z33 ?_
   refine .done ⟨by kernel_rfl, fun a11 g W11 y11 zz11 hk hg hV hR hP => ?_⟩
   obtain ⟨⟨b8_11, e8, hb8, own_b8_11⟩, e24, e23, -, -, -, -, -, -, -, -⟩ := hV
   have lo_b8_11 : w.heap.size ≤ b8_11 := Nat.le_trans kw.size (hg.lo _ _ hb8)
   have ne_bo_b8_11 : bo ≠ b8_11 := Nat.ne_of_lt (Nat.lt_of_lt_of_le own_bo.lt (hg.lo _ _ hb8))
   have ne_bm_b8_11 : bm ≠ b8_11 := Nat.ne_of_lt (Nat.lt_of_lt_of_le own_bm.lt (hg.lo _ _ hb8))
   have own_b8_11 : Own W11 b8_11 [(.int .u8 (0)), (.int .i64 (0)), (.string (⟨#[]⟩)), (.slice none 0 0), (.slice none 0 0)] 33 := own_b8_11
   replace e0 := (hR 0 rfl).trans e0
   replace e1 := (hR 1 rfl).trans e1
   replace e2 := (hR 2 rfl).trans e2
   replace e7 := (hR 7 rfl).trans e7
   replace D_cn := sa_more D_cn hk [b8_11] (in_cons (hg.lo _ _ hb8) in_nil)
   replace D_ci := sa_more D_ci hk [b8_11] (in_cons (hg.lo _ _ hb8) in_nil)
   obtain ⟨v23_11, ev⟩ : ∃ v, sl a11 23 = v := ⟨_, rfl⟩
   rw [ev] at e23
   have D_v23_11 : Rd W11 (SF w [b8_11, bo, bm]) (V.d (getV (x) name)) v23_11 := fr_end (M := [bo, bm]) e23 kw [b8_11] (in_cons ⟨_, hb8⟩ in_nil) (in_cons own_bo.lt (in_cons own_bm.lt in_nil))
   replace e23 := ev; clear ev
   obtain ⟨cn23_11a, cn23_11c, ci23_11a, ci23_11c, ev, ht_v23_11, D_cn23_11, D_ci23_11⟩ := rdV_out D_v23_11
   subst ev; clear D_v23_11
   have e24 : sl a11 24 = (.bool (getB (x) name)) := e24
   replace own_bo := own_bo.ext hk
   replace own_bm := own_bm.ext hk
   replace kw := kw.x hk
   clear hR hk hg hP hb8
   refine tail_store (b := b8_11) (o := 0) (v := (.agg #[(.int .u8 ((getV (x) name).k)), (.int .i64 ((getV (x) name).n)), (.string ((getV (x) name).t)), (.slice cn23_11a (((getV (x) name).ns).length) cn23_11c), (.slice ci23_11a (((getV (x) name).xs).length) ci23_11c)])) e8 e23 sz33 rfl own_b8_11 (lbr rfl) (all_cons rfl (all_cons rfl (all_cons rfl (all_cons rfl (all_cons rfl all_nil))))) (fun W12 hs own_b8_11 => ?_)
   have own_b8_11 : Own W12 b8_11 [(.int .u8 ((getV (x) name).k)), (.int .i64 ((getV (x) name).n)), (.string ((getV (x) name).t)), (.slice cn23_11a (((getV (x) name).ns).length) cn23_11c), (.slice ci23_11a (((getV (x) name).xs).length) ci23_11c)] 33 := own_b8_11
   replace own_bo := own_store own_bo hs ne_bo_b8_11
   replace own_bm := ownM_store own_bm hs ne_bm_b8_11
   replace D_cn := sa_store D_cn hs (by simp)
   replace D_ci := sa_store D_ci hs (by simp)
   replace D_cn23_11 := sf_store D_cn23_11 hs (by simp)
   replace D_ci23_11 := sf_store D_ci23_11 hs (by simp)
   replace kw := keeps_store kw hs lo_b8_11
   clear hs
   refine tail_assign (v := (.bool (getB (x) name))) e24 (by rw [y11]; exact Nat.le_of_ble_eq_true rfl) (fun a13 y13 zz13 e9 hr => ?_)
   replace y13 := y13.trans y11; replace zz13 := zz13.trans zz11
   replace e0 := (hr 0 (by decide)).trans e0
   replace e1 := (hr 1 (by decide)).trans e1
   replace e2 := (hr 2 (by decide)).trans e2
   replace e7 := (hr 7 (by decide)).trans e7
   replace e8 := (hr 8 (by decide)).trans e8
   replace e23 := (hr 23 (by decide)).trans e23
   replace e24 := (hr 24 (by decide)).trans e24
   clear hr
   refine tail_nil (hK10 _ _ ?_)
   refine wp_seq_k fun K14 hK14 => ?_
   refine wp_seq_k fun K15 hK15 => ?_
   refine rg mixed y13 zz13 ?_
   refine .i (sp_move (hbs rfl e9)) ?_
   refine .i (sp_not (hlc rfl)) ?_
   refine .done ⟨by kernel_rfl, fun a16 g W16 y16 zz16 hk hg hV hR hP => ?_⟩
   obtain ⟨e26, -, -⟩ := hV
   replace e0 := (hR 0 rfl).trans e0
   replace e1 := (hR 1 rfl).trans e1
   replace e2 := (hR 2 rfl).trans e2
   replace e7 := (hR 7 rfl).trans e7
   replace e8 := (hR 8 rfl).trans e8
   replace D_cn := D_cn.ext hk
   replace D_ci := D_ci.ext hk
   replace D_cn23_11 := D_cn23_11.ext hk
   replace D_ci23_11 := D_ci23_11.ext hk
   have e26 : sl a16 26 = (.bool (!(getB (x) name))) := e26
   replace own_bo := own_bo.ext hk
   replace own_bm := own_bm.ext hk
   replace own_b8_11 := own_b8_11.ext hk
   replace kw := kw.x hk
   clear hR hk hg hP
   refine tail_nil (hK15 _ _ ?_)
   refine wp_cond_split e26 (fun hc => ?_) (fun hc => ?_)
   ·
    have hg0 : getB x name = false := by simpa using hc
    have h1 : tkE x e name ce = failK x.k e 6 := by rw [tkE, if_neg (by simp [hE]), if_pos hg0, failK, if_pos hE]
    have h2 : tkB x e name ce = false := by simp [tkB, hg0]
    have h3 : tkA x A e name ce = A := by rw [tkA, h2]; rfl
    refine wp_seq_k fun K17 hK17 => ?_
    refine wp_reg (fun k => k ∉ [bo]) (Ψ := fun W => Own W bo [(.int .u8 (x.k)), (.int .i64 (x.n)), (.string (x.t)), (.slice cna (x.ns.length) cnc), (.slice cia (x.xs.length) cic), (.map (some bm)), (.int .i64 (e))] 74) mixed y16 zz16 stE_own own_bo ?_
    refine .i (sp_move (hbs rfl e0)) ?_
    refine .callL2 (φ1 := Is (.pointer (some ⟨bo, 0, none⟩))) (φ2 := Is (.int .i64 (6))) (φ := Is (.tuple #[])) (Ψ' := fun W => Own W bo [(.int .u8 (x.k)), (.int .i64 (x.n)), (.string (x.t)), (.slice cna (x.ns.length) cnc), (.slice cia (x.xs.length) cic), (.map (some bm)), (.int .i64 (failK x.k e 6))] 74) ent22 (hlc rfl) Has.cst (st_is _) stE_own (fun g u1 u2 W hk hg h1 h2 hP => by have h1 : u1 = _ := h1; subst u1; have h2 : u2 = _ := h2; subst u2; exact (Fail_ok _ _ _ _ _ _ _ (6) W _ hP)) ?_
    refine .done ⟨by kernel_rfl, fun a18 g W18 y18 zz18 hk hg hV hR hP => ?_⟩
    obtain ⟨-, -, -⟩ := hV
    replace e7 := (hR 7 rfl).trans e7
    replace D_cn := sa_keepL D_cn hk (by simp)
    replace D_ci := sa_keepL D_ci hk (by simp)
    replace D_cn23_11 := sf_keepL D_cn23_11 hk (by simp)
    replace D_ci23_11 := sf_keepL D_ci23_11 hk (by simp)
    replace own_bm := ownM_keepL own_bm hk (by simp [hne.symm])
    replace own_b8_11 := own_keepL own_b8_11 hk (by simp [ne_bo_b8_11.symm])
    have own_bo := hP
    replace own_bo : Own W18 bo [(.int .u8 (x.k)), (.int .i64 (x.n)), (.string (x.t)), (.slice cna (x.ns.length) cnc), (.slice cia (x.xs.length) cic), (.map (some bm)), (.int .i64 (failK x.k e 6))] 74 := own_bo
    replace kw := keeps_L kw hk (in_cons (.inr (by simp)) in_nil)
    clear hR hk hg hP
    refine tail_nil (hK17 _ _ ?_)
    refine wp_seq_k fun K19 hK19 => ?_
    refine rg mixed y18 zz18 ?_
    refine .i (sp_move (hbs rfl e7)) ?_
    refine .i (sp_assign (hlc rfl)) ?_
    refine .done ⟨by kernel_rfl, fun a20 g W20 y20 zz20 hk hg hV hR hP => ?_⟩
    obtain ⟨e6, -, -⟩ := hV
    replace D_cn := D_cn.ext hk
    replace D_ci := D_ci.ext hk
    have e6 : sl a20 6 = (.slice none 0 0) := e6
    replace own_bo := own_bo.ext hk
    replace own_bm := own_bm.ext hk
    replace own_b8_11 := own_b8_11.ext hk
    replace kw := kw.x hk
    clear hR hk hg hP
    refine tail_nil (hK19 _ _ ?_)
    refine wp_ret ?_
    refine (show bodyPost Try.prog Try.f98 _ .ret _ _ from ret1 rfl zz20 e6 ⟨_, rfl, kw, ?_⟩)
    rw [h1, h3, h2]
    exact ⟨rd_nil _, own_bo, own_bm⟩
   ·
    have hg1 : getB x name = true := by simpa using hc
    have hAn := hA name
    have hwg := Nat.le_trans (getV_wt x name) hx
    refine wp_skip (hK14 _ _ ?_)
    refine wp_seq_k fun K21 hK21 => ?_
    refine rg mixed y16 zz16 ?_
    refine .i (sp_move (hbs rfl e2)) ?_
    refine .i (v := (.agg #[(.int .u8 ((getV (x) name).k)), (.int .i64 ((getV (x) name).n)), (.string ((getV (x) name).t)), (.slice cn23_11a (((getV (x) name).ns).length) cn23_11c), (.slice ci23_11a (((getV (x) name).xs).length) ci23_11c)])) (loA (hbs rfl e8) own_b8_11 trivial agg33 sz33 rfl rfl) ?_
    refine .op (φ := IsT (IsD (Fr W16) (strsD (fv (getV x name)))) (Is (.int .i64 (ce (getV x name))))) (st_t (st_d sub_all) (st_is _)) (sp_callF1 ef (hlc rfl) (hlc rfl) (fun g W hk hgk => (hf W (kw.trans (.of_ext hk)) _ _ hwg (sf_fr (Rd.ext (rdV_in (x := (getV (x) name)) ht_v23_11 D_cn23_11 D_ci23_11 : Rd W16 (SF w [b8_11, bo, bm]) (V.d ((getV (x) name))) _) hk))).mono (fun _ _ ⟨v, h1, h2, r1, h3, h4⟩ => ⟨v, h1, h2, r1, _, h3, fresh_d hk hgk h4, rfl⟩))) ?_
    refine .op (φ := IsT (IsD (Fr W16) (strsD (fv (getV x name)))) (Is (.int .i64 (ce (getV x name))))) (st_t (st_d sub_all) (st_is _)) (sp_move (hlc rfl)) ?_
    refine .da (X := Fr W16) (e := strsD (fv (getV x name))) (sp_ext2 (hlc rfl) rfl) ?_
    refine .i (v := (.int .i64 (ce (getV x name)))) (sp_ext2' (hlc rfl) rfl) ?_
    refine .da (X := Fr W16) (e := strsD (fv (getV x name))) (sp_assign (hlc rfl)) ?_
    refine .i (sp_assign (hlc rfl)) ?_
    refine .done ⟨by kernel_rfl, fun a22 g W22 y22 zz22 hk hg hV hR hP => ?_⟩
    obtain ⟨e11, e10, -, -, -, -, -, -, -⟩ := hV
    replace e0 := (hR 0 rfl).trans e0
    replace e1 := (hR 1 rfl).trans e1
    replace e7 := (hR 7 rfl).trans e7
    replace D_cn := D_cn.ext hk
    replace D_ci := D_ci.ext hk
    replace D_cn23_11 := D_cn23_11.ext hk
    replace D_ci23_11 := D_ci23_11.ext hk
    obtain ⟨v10_22, ev⟩ : ∃ v, sl a22 10 = v := ⟨_, rfl⟩
    rw [ev] at e10
    have D_v10_22 : Rd W22 (SF w [b8_11, bo, bm]) (strsD (fv (getV x name))) v10_22 := fr_end (M := [b8_11, bo, bm]) e10 kw [] in_nil (in_cons own_b8_11.lt (in_cons own_bo.lt (in_cons own_bm.lt in_nil)))
    replace e10 := ev; clear ev
    obtain ⟨v10_22a, v10_22c, ev, D2⟩ := rdS_out D_v10_22
    subst ev; replace D_v10_22 := D2; clear D2
    have e11 : sl a22 11 = (.int .i64 (ce (getV x name))) := e11
    replace own_bo := own_bo.ext hk
    replace own_bm := own_bm.ext hk
    replace own_b8_11 := own_b8_11.ext hk
    replace kw := kw.x hk
    clear hR hk hg hP
    refine tail_nil (hK21 _ _ ?_)
    refine wp_seq_k fun K23 hK23 => ?_
    refine wp_seq_k fun K24 hK24 => ?_
    refine rg mixed y22 zz22 ?_
    refine .i (sp_move (hbs rfl e11)) ?_
    refine .i (sp_neq (hlc rfl) Has.cst) ?_
    refine .done ⟨by kernel_rfl, fun a25 g W25 y25 zz25 hk hg hV hR hP => ?_⟩
    obtain ⟨e37, -, -⟩ := hV
    replace e0 := (hR 0 rfl).trans e0
    replace e1 := (hR 1 rfl).trans e1
    replace e7 := (hR 7 rfl).trans e7
    replace e10 := (hR 10 rfl).trans e10
    replace e11 := (hR 11 rfl).trans e11
    replace D_cn := D_cn.ext hk
    replace D_ci := D_ci.ext hk
    replace D_v10_22 := D_v10_22.ext hk
    replace e37 := e37.q
    replace own_bo := own_bo.ext hk
    replace own_bm := own_bm.ext hk
    replace own_b8_11 := own_b8_11.ext hk
    replace kw := kw.x hk
    clear hR hk hg hP
    refine tail_nil (hK24 _ _ ?_)
    refine wp_cond_split e37 (fun hc => ?_) (fun hc => ?_)
    ·
     have hce : ce (getV x name) ≠ 0 := by simpa using hc
     have h1 : tkE x e name ce = failK x.k e (ce (getV x name)) := by rw [tkE, if_neg (by simp [hE]), if_neg (by simp [hg1]), failK, if_pos hE]
     have h2 : tkB x e name ce = false := by simp [tkB, hce]
     have h3 : tkA x A e name ce = A := by rw [tkA, h2]; rfl
     refine wp_seq_k fun K26 hK26 => ?_
     refine wp_reg (fun k => k ∉ [bo]) (Ψ := fun W => Own W bo [(.int .u8 (x.k)), (.int .i64 (x.n)), (.string (x.t)), (.slice cna (x.ns.length) cnc), (.slice cia (x.xs.length) cic), (.map (some bm)), (.int .i64 (e))] 74) mixed y25 zz25 stE_own own_bo ?_
     refine .i (sp_move (hbs rfl e0)) ?_
     refine .i (sp_move (hbs rfl e11)) ?_
     refine .callL2 (φ1 := Is (.pointer (some ⟨bo, 0, none⟩))) (φ2 := Is (.int .i64 (ce (getV x name)))) (φ := Is (.tuple #[])) (Ψ' := fun W => Own W bo [(.int .u8 (x.k)), (.int .i64 (x.n)), (.string (x.t)), (.slice cna (x.ns.length) cnc), (.slice cia (x.xs.length) cic), (.map (some bm)), (.int .i64 (failK x.k e (ce (getV x name))))] 74) ent22 (hlc rfl) (hlc rfl) (st_is _) stE_own (fun g u1 u2 W hk hg h1 h2 hP => by have h1 : u1 = _ := h1; subst u1; have h2 : u2 = _ := h2; subst u2; exact (Fail_ok _ _ _ _ _ _ _ (ce (getV x name)) W _ hP)) ?_
     refine .done ⟨by kernel_rfl, fun a27 g W27 y27 zz27 hk hg hV hR hP => ?_⟩
     obtain ⟨-, -, -, -⟩ := hV
     replace e7 := (hR 7 rfl).trans e7
     replace D_cn := sa_keepL D_cn hk (by simp)
     replace D_ci := sa_keepL D_ci hk (by simp)
     replace D_v10_22 := sf_keepL D_v10_22 hk (by simp)
     replace own_bm := ownM_keepL own_bm hk (by simp [hne.symm])
     replace own_b8_11 := own_keepL own_b8_11 hk (by simp [ne_bo_b8_11.symm])
     have own_bo := hP
     replace own_bo : Own W27 bo [(.int .u8 (x.k)), (.int .i64 (x.n)), (.string (x.t)), (.slice cna (x.ns.length) cnc), (.slice cia (x.xs.length) cic), (.map (some bm)), (.int .i64 (failK x.k e (ce (getV x name))))] 74 := own_bo
     replace kw := keeps_L kw hk (in_cons (.inr (by simp)) in_nil)
     clear hR hk hg hP
     refine tail_nil (hK26 _ _ ?_)
     refine wp_seq_k fun K28 hK28 => ?_
     refine rg mixed y27 zz27 ?_
     refine .i (sp_move (hbs rfl e7)) ?_
     refine .i (sp_assign (hlc rfl)) ?_
     refine .done ⟨by kernel_rfl, fun a29 g W29 y29 zz29 hk hg hV hR hP => ?_⟩
     obtain ⟨e6, -, -⟩ := hV
     replace D_cn := D_cn.ext hk
     replace D_ci := D_ci.ext hk
     have e6 : sl a29 6 = (.slice none 0 0) := e6
     replace own_bo := own_bo.ext hk
     replace own_bm := own_bm.ext hk
     replace own_b8_11 := own_b8_11.ext hk
     replace kw := kw.x hk
     clear hR hk hg hP
     refine tail_nil (hK28 _ _ ?_)
     refine wp_ret ?_
     refine (show bodyPost Try.prog Try.f98 _ .ret _ _ from ret1 rfl zz29 e6 ⟨_, rfl, kw, ?_⟩)
     rw [h1, h3, h2]
     exact ⟨rd_nil _, own_bo, own_bm⟩
    ·
     have hce : ce (getV x name) = 0 := by simpa using hc
     have h1 : tkE x e name ce = e := by rw [tkE, if_neg (by simp [hE]), if_neg (by simp [hg1]), hce, he0]
     have h2 : tkB x e name ce = true := by simp [tkB, hE, hg1, hce]
     have h3 : tkA x A e name ce = mset A name (mget A name + 1) := by rw [tkA, h2]; rfl
     refine wp_skip (hK23 _ _ ?_)
     refine wp_seq_k fun K30 hK30 => ?_
     refine rg mixed y25 zz25 ?_
     refine .i (sp_move (hbs rfl e0)) ?_
     refine .i (sp_nilP (hlc rfl)) ?_
     refine .i (fo 5 (hlc rfl) Try.underlying74 rfl sz72 rfl) ?_
     refine .i (lo1 (hlc rfl) own_bo trivial agg72 sz72 rfl) ?_
     refine .i (sp_move (hbs rfl e1)) ?_
     refine .i (sp_lookup Try.underlying72 Try.underlying9 z3 (hlc rfl) (hlc rfl) own_bm trivial) ?_
     refine .i (sp_add (hlc rfl) Has.cst (i64_in (by omega))) ?_
     refine .done ⟨by kernel_rfl, fun a31 g W31 y31 zz31 hk hg hV hR hP => ?_⟩
     obtain ⟨e48, -, e46, e45, -, -, -, -⟩ := hV
     replace e10 := (hR 10 rfl).trans e10
     replace D_cn := D_cn.ext hk
     replace D_ci := D_ci.ext hk
     replace D_v10_22 := D_v10_22.ext hk
     have e45 : sl a31 45 = (.map (some bm)) := e45
     have e46 : sl a31 46 = (.string (name)) := e46
     replace e48 := e48.q
     replace own_bo := own_bo.ext hk
     replace own_bm := own_bm.ext hk
     replace own_b8_11 := own_b8_11.ext hk
     replace kw := kw.x hk
     clear hR hk hg hP
     refine tail_updM Try.underlying72 Try.underlying9 e45 e46 e48 own_bm (fun W32 hs own_bm => ?_)
     have own_bm : OwnM W32 bm (mset A name ((mget A name : Int) + (1 : Int))) := own_bm
     replace own_bo := own_store own_bo hs hne
     replace own_b8_11 := own_store own_b8_11 hs ne_bm_b8_11.symm
     replace D_cn := sa_store D_cn hs (by simp)
     replace D_ci := sa_store D_ci hs (by simp)
     replace D_v10_22 := sf_store D_v10_22 hs (by simp)
     replace kw := keeps_storeN kw hs (by simp)
     clear hs
     refine tail_nil (hK30 _ _ ?_)
     refine wp_seq_k fun K33 hK33 => ?_
     refine rg mixed y31 zz31 ?_
     refine .i (sp_move (hbs rfl e10)) ?_
     refine .i (sp_assign (hlc rfl)) ?_
     refine .done ⟨by kernel_rfl, fun a34 g W34 y34 zz34 hk hg hV hR hP => ?_⟩
     obtain ⟨e6, -, -⟩ := hV
     replace D_cn := D_cn.ext hk
     replace D_ci := D_ci.ext hk
     replace D_v10_22 := D_v10_22.ext hk
     replace e6 := e6.q
     replace own_bo := own_bo.ext hk
     replace own_bm := own_bm.ext hk
     replace own_b8_11 := own_b8_11.ext hk
     replace kw := kw.x hk
     clear hR hk hg hP
     refine tail_nil (hK33 _ _ ?_)
     refine wp_ret ?_
     refine (show bodyPost Try.prog Try.f98 _ .ret _ _ from ret1 rfl zz34 e6 ⟨_, rfl, kw, ?_⟩)
     rw [h1, h3, h2]
     exact ⟨sf_fr D_v10_22, own_bo, own_bm⟩

set_option maxRecDepth 100000 in
theorem takeI_ok (x : V) (A : As) (e : Int) (hA : AB 1000000 A) (hx : x.wt ≤ 1073741824) (hxt : x.t.size ≤ maxLen) (name : ByteArray) (fi : FuncId) (cb : Array Value) (ce : V → Int) (fv : V → Int) (w : World) (S : BSet) (cn ci : Value) (bo bm : Nat) (hS : ∀ b o, S b o → Cln o) (hM : ∀ b ∈ [bo, bm], ∀ o, ¬ S b o) (hne : bo ≠ bm) (hv : Rd w S (strsD x.ns) cn) (hu : Rd w S (valsD x.xs) ci) (own_bo : Own w bo [.int .u8 x.k, .int .i64 x.n, .string x.t, cn, ci, .map (some bm), .int .i64 (e)] 74) (own_bm : OwnM w bm A) (ef : Enters Try.prog fi) (hf : ∀ W, Keeps (fun k => k ∉ [bo, bm]) w W → ∀ (y : V) (v : Value), y.wt ≤ 1073741824 → Rd W (Fr w) y.d v → Calls Try.prog fi (#[v] ++ cb) W (Ret W fun r _ => r = .tuple #[.int .i64 (fv y), .int .i64 (ce y)])) : Calls Try.prog 104 #[.pointer (some ⟨bo, 0, none⟩), .string name, .func (.func fi) #[] cb] w (RetL w [bo, bm] fun u W => u = .int .i64 (if tkB x e name ce then fv (getV x name) else 0) ∧ Own W bo [.int .u8 x.k, .int .i64 x.n, .string x.t, cn, ci, .map (some bm), .int .i64 (tkE x e name ce)] 74 ∧ OwnM W bm (tkA x A e name ce)) := by
  have hwx := wt_eq x
  have hwl := wts_len x.xs
  have hwn := wtN_len x.ns
  obtain ⟨cna, cnc, ev, D_cn⟩ := rdS_out (rd_argM (M := [bo, bm]) hv hM)
  subst ev
  obtain ⟨cia, cic, ev, D_ci⟩ := rdVs_out (rd_argM (M := [bo, bm]) hu hM)
  subst ev
  refine enter Try.func104 rfl Try.ntmps104 (lbr rfl) fun a0 y0 zz0 harg => ?_
  have e0 : sl a0 0 = (.pointer (some ⟨bo, 0, none⟩)) := harg 0 (lbr rfl)
  have e1 : sl a0 1 = (.string (name)) := harg 1 (lbr rfl)
  have e2 : sl a0 2 = (.func (.func fi) #[] cb) := harg 2 (lbr rfl)
  have kw := Keeps.refl (fun k => k ∉ [bo, bm]) w
  clear harg
  refine wp_seq_k fun K1 hK1 => ?_
  refine rg mixed y0 zz0 ?_
  refine .i (sp_assign Has.cst) ?_
  refine .done ⟨by kernel_rfl, fun a2 g W2 y2 zz2 hk hg hV hR hP => ?_⟩
  obtain ⟨-, -⟩ := hV
  replace e0 := (hR 0 rfl).trans e0
  replace e1 := (hR 1 rfl).trans e1
  replace e2 := (hR 2 rfl).trans e2
  replace D_cn := D_cn.ext hk
  replace D_ci := D_ci.ext hk
  replace own_bo := own_bo.ext hk
  replace own_bm := own_bm.ext hk
  replace kw := kw.x hk
  clear hR hk hg hP
  refine tail_nil (hK1 _ _ ?_)
  refine wp_seq_k fun K3 hK3 => ?_
  refine rg mixed y2 zz2 ?_
  refine .i (sp_assign Has.cst) ?_
  refine .done ⟨by kernel_rfl, fun a4 g W4 y4 zz4 hk hg hV hR hP => ?_⟩
  obtain ⟨e7, -⟩ := hV
  replace e0 := (hR 0 rfl).trans e0
  replace e1 := (hR 1 rfl).trans e1
  replace e2 := (hR 2 rfl).trans e2
  replace D_cn := D_cn.ext hk
  replace D_ci := D_ci.ext hk
  have e7 : sl a4 7 = (.int .i64 (0)) := e7
  replace own_bo := own_bo.ext hk
  replace own_bm := own_bm.ext hk
  replace kw := kw.x hk
  clear hR hk hg hP
  refine tail_nil (hK3 _ _ ?_)
  refine wp_seq_k fun K5 hK5 => ?_
  refine wp_seq_k fun K6 hK6 => ?_
  refine rg mixed y4 zz4 ?_
  refine .i (sp_move (hbs rfl e0)) ?_
  refine .i (v := (.int .i64 (errK x.k e))) (sp_call1 (φ1 := Is (.pointer (some ⟨bo, 0, none⟩))) ent24 (hlc rfl) (fun g u1 W hk hgk h1 => by have h1 : u1 = _ := h1; subst u1; exact Err_ok _ _ _ _ _ _ _ W _ (own_bo.ext hk))) ?_
  refine .i (sp_neq (hlc rfl) Has.cst) ?_
  refine .done ⟨by kernel_rfl, fun a7 g W7 y7 zz7 hk hg hV hR hP => ?_⟩
  obtain ⟨e14, -, -, -⟩ := hV
  replace e0 := (hR 0 rfl).trans e0
  replace e1 := (hR 1 rfl).trans e1
  replace e2 := (hR 2 rfl).trans e2
  replace e7 := (hR 7 rfl).trans e7
  replace D_cn := D_cn.ext hk
  replace D_ci := D_ci.ext hk
  replace e14 := e14.q
  replace own_bo := own_bo.ext hk
  replace own_bm := own_bm.ext hk
  replace kw := kw.x hk
  clear hR hk hg hP
  refine tail_nil (hK6 _ _ ?_)
  refine wp_cond_split e14 (fun hc => ?_) (fun hc => ?_)
  ·
   have hE : errK x.k e ≠ 0 := by simpa using hc
   have h1 : tkE x e name ce = e := by rw [tkE, if_pos hE]
   have h2 : tkB x e name ce = false := by simp [tkB, hE]
   have h3 : tkA x A e name ce = A := by rw [tkA, h2]; rfl
   refine wp_seq_k fun K8 hK8 => ?_
   refine rg mixed y7 zz7 ?_
   refine .i (sp_move (hbs rfl e7)) ?_
   refine .i (sp_assign (hlc rfl)) ?_
   refine .done ⟨by kernel_rfl, fun a9 g W9 y9 zz9 hk hg hV hR hP => ?_⟩
   obtain ⟨e6, -, -⟩ := hV
   replace D_cn := D_cn.ext hk
   replace D_ci := D_ci.ext hk
   have e6 : sl a9 6 = (.int .i64 (0)) := e6
   replace own_bo := own_bo.ext hk
   replace own_bm := own_bm.ext hk
   replace kw := kw.x hk
   clear hR hk hg hP
   refine tail_nil (hK8 _ _ ?_)
   refine wp_ret ?_
   refine (show bodyPost Try.prog Try.f104 _ .ret _ _ from ret1 rfl zz9 e6 ⟨_, rfl, kw, ?_⟩)
   rw [h1, h3, h2]
   exact ⟨rfl, own_bo, own_bm⟩
  ·
   have hE : errK x.k e = 0 := by simpa using hc
   have he0 := (errK_zero hE).1
   refine wp_skip (hK5 _ _ ?_)
   refine wp_seq_k fun K10 hK10 => ?_
   refine rg mixed y7 zz7 ?_
   refine .i (sp_move (hbs rfl e0)) ?_
   refine .i (sp_nilP (hlc rfl)) ?_
   refine .i (fo 0 (hlc rfl) Try.underlying74 rfl sz33 rfl) ?_
   refine .i (v := (.agg #[(.int .u8 (x.k)), (.int .i64 (x.n)), (.string (x.t)), (.slice cna (x.ns.length) cnc), (.slice cia (x.xs.length) cic)])) (loA (hlc rfl) own_bo trivial agg33 sz33 rfl rfl) ?_
   refine .i (sp_move (hbs rfl e1)) ?_
   refine .op (φ := IsT (IsD (Fr W7) (V.d (getV (x) name))) (Is (.bool (getB (x) name)))) (st_t (st_d sub_all) (st_is _)) (sp_call2 (φ1 := IsD (SA w S [bo, bm]) (V.d (x))) (φ2 := Is (.string (name))) ent101 ((hlc rfl).dat (rdV_in (x := x) hxt D_cn D_ci : Rd W7 (SA w S [bo, bm]) (V.d (x)) _) sub_all) (hlc rfl) (fun g u1 u2 W hk hgk h1 h2 => by have h2 : u2 = _ := h2; subst u2; exact (Get_ok (x) (name) (by omega) W _ _ (fun b o h => sa_cln hS b o h.1) h1).mono (fun _ _ ⟨v, h1, h2, r1, h3, h4⟩ => ⟨v, h1, h2, r1, _, h3, fresh_d hk hgk h4, rfl⟩))) ?_
   refine .op (φ := IsT (IsD (Fr W7) (V.d (getV (x) name))) (Is (.bool (getB (x) name)))) (st_t (st_d sub_all) (st_is _)) (sp_move (hlc rfl)) ?_
   refine .da (X := Fr W7) (e := V.d (getV (x) name)) (sp_ext2 (hlc rfl) rfl) ?_
   refine .i (v := (.bool (getB (x) name))) (sp_ext2' (hlc rfl) rfl) ?_
   refine .alloc z33 ?_
   refine .done ⟨by kernel_rfl, fun a11 g W11 y11 zz11 hk hg hV hR hP => ?_⟩
   obtain ⟨⟨b8_11, e8, hb8, own_b8_11⟩, e24, e23, -, -, -, -, -, -, -, -⟩ := hV
   have lo_b8_11 : w.heap.size ≤ b8_11 := Nat.le_trans kw.size (hg.lo _ _ hb8)
   have ne_bo_b8_11 : bo ≠ b8_11 := Nat.ne_of_lt (Nat.lt_of_lt_of_le own_bo.lt (hg.lo _ _ hb8))
   have ne_bm_b8_11 : bm ≠ b8_11 := Nat.ne_of_lt (Nat.lt_of_lt_of_le own_bm.lt (hg.lo _ _ hb8))
   have own_b8_11 : Own W11 b8_11 [(.int .u8 (0)), (.int .i64 (0)), (.string (⟨#[]⟩)), (.slice none 0 0), (.slice none 0 0)] 33 := own_b8_11
   replace e0 := (hR 0 rfl).trans e0
   replace e1 := (hR 1 rfl).trans e1
   replace e2 := (hR 2 rfl).trans e2
   replace e7 := (hR 7 rfl).trans e7
   replace D_cn := sa_more D_cn hk [b8_11] (in_cons (hg.lo _ _ hb8) in_nil)
   replace D_ci := sa_more D_ci hk [b8_11] (in_cons (hg.lo _ _ hb8) in_nil)
   obtain ⟨v23_11, ev⟩ : ∃ v, sl a11 23 = v := ⟨_, rfl⟩
   rw [ev] at e23
   have D_v23_11 : Rd W11 (SF w [b8_11, bo, bm]) (V.d (getV (x) name)) v23_11 := fr_end (M := [bo, bm]) e23 kw [b8_11] (in_cons ⟨_, hb8⟩ in_nil) (in_cons own_bo.lt (in_cons own_bm.lt in_nil))
   replace e23 := ev; clear ev
   obtain ⟨cn23_11a, cn23_11c, ci23_11a, ci23_11c, ev, ht_v23_11, D_cn23_11, D_ci23_11⟩ := rdV_out D_v23_11
   subst ev; clear D_v23_11
   have e24 : sl a11 24 = (.bool (getB (x) name)) := e24
   replace own_bo := own_bo.ext hk
   replace own_bm := own_bm.ext hk
   replace kw := kw.x hk
   clear hR hk hg hP hb8
   refine tail_store (b := b8_11) (o := 0) (v := (.agg #[(.int .u8 ((getV (x) name).k)), (.int .i64 ((getV (x) name).n)), (.string ((getV (x) name).t)), (.slice cn23_11a (((getV (x) name).ns).length) cn23_11c), (.slice ci23_11a (((getV (x) name).xs).length) ci23_11c)])) e8 e23 sz33 rfl own_b8_11 (lbr rfl) (all_cons rfl (all_cons rfl (all_cons rfl (all_cons rfl (all_cons rfl all_nil))))) (fun W12 hs own_b8_11 => ?_)
   have own_b8_11 : Own W12 b8_11 [(.int .u8 ((getV (x) name).k)), (.int .i64 ((getV (x) name).n)), (.string ((getV (x) name).t)), (.slice cn23_11a (((getV (x) name).ns).length) cn23_11c), (.slice ci23_11a (((getV (x) name).xs).length) ci23_11c)] 33 := own_b8_11
   replace own_bo := own_store own_bo hs ne_bo_b8_11
   replace own_bm := ownM_store own_bm hs ne_bm_b8_11
   replace D_cn := sa_store D_cn hs (by simp)
   replace D_ci := sa_store D_ci hs (by simp)
   replace D_cn23_11 := sf_store D_cn23_11 hs (by simp)
   replace D_ci23_11 := sf_store D_ci23_11 hs (by simp)
   replace kw := keeps_store kw hs lo_b8_11
   clear hs
   refine tail_assign (v := (.bool (getB (x) name))) e24 (by rw [y11]; exact Nat.le_of_ble_eq_true rfl) (fun a13 y13 zz13 e9 hr => ?_)
   replace y13 := y13.trans y11; replace zz13 := zz13.trans zz11
   replace e0 := (hr 0 (by decide)).trans e0
   replace e1 := (hr 1 (by decide)).trans e1
   replace e2 := (hr 2 (by decide)).trans e2
   replace e7 := (hr 7 (by decide)).trans e7
   replace e8 := (hr 8 (by decide)).trans e8
   replace e23 := (hr 23 (by decide)).trans e23
   replace e24 := (hr 24 (by decide)).trans e24
   clear hr
   refine tail_nil (hK10 _ _ ?_)
   refine wp_seq_k fun K14 hK14 => ?_
   refine wp_seq_k fun K15 hK15 => ?_
   refine rg mixed y13 zz13 ?_
   refine .i (sp_move (hbs rfl e9)) ?_
   refine .i (sp_not (hlc rfl)) ?_
   refine .done ⟨by kernel_rfl, fun a16 g W16 y16 zz16 hk hg hV hR hP => ?_⟩
   obtain ⟨e26, -, -⟩ := hV
   replace e0 := (hR 0 rfl).trans e0
   replace e1 := (hR 1 rfl).trans e1
   replace e2 := (hR 2 rfl).trans e2
   replace e7 := (hR 7 rfl).trans e7
   replace e8 := (hR 8 rfl).trans e8
   replace D_cn := D_cn.ext hk
   replace D_ci := D_ci.ext hk
   replace D_cn23_11 := D_cn23_11.ext hk
   replace D_ci23_11 := D_ci23_11.ext hk
   have e26 : sl a16 26 = (.bool (!(getB (x) name))) := e26
   replace own_bo := own_bo.ext hk
   replace own_bm := own_bm.ext hk
   replace own_b8_11 := own_b8_11.ext hk
   replace kw := kw.x hk
   clear hR hk hg hP
   refine tail_nil (hK15 _ _ ?_)
   refine wp_cond_split e26 (fun hc => ?_) (fun hc => ?_)
   ·
    have hg0 : getB x name = false := by simpa using hc
    have h1 : tkE x e name ce = failK x.k e 6 := by rw [tkE, if_neg (by simp [hE]), if_pos hg0, failK, if_pos hE]
    have h2 : tkB x e name ce = false := by simp [tkB, hg0]
    have h3 : tkA x A e name ce = A := by rw [tkA, h2]; rfl
    refine wp_seq_k fun K17 hK17 => ?_
    refine wp_reg (fun k => k ∉ [bo]) (Ψ := fun W => Own W bo [(.int .u8 (x.k)), (.int .i64 (x.n)), (.string (x.t)), (.slice cna (x.ns.length) cnc), (.slice cia (x.xs.length) cic), (.map (some bm)), (.int .i64 (e))] 74) mixed y16 zz16 stE_own own_bo ?_
    refine .i (sp_move (hbs rfl e0)) ?_
    refine .callL2 (φ1 := Is (.pointer (some ⟨bo, 0, none⟩))) (φ2 := Is (.int .i64 (6))) (φ := Is (.tuple #[])) (Ψ' := fun W => Own W bo [(.int .u8 (x.k)), (.int .i64 (x.n)), (.string (x.t)), (.slice cna (x.ns.length) cnc), (.slice cia (x.xs.length) cic), (.map (some bm)), (.int .i64 (failK x.k e 6))] 74) ent22 (hlc rfl) Has.cst (st_is _) stE_own (fun g u1 u2 W hk hg h1 h2 hP => by have h1 : u1 = _ := h1; subst u1; have h2 : u2 = _ := h2; subst u2; exact (Fail_ok _ _ _ _ _ _ _ (6) W _ hP)) ?_
    refine .done ⟨by kernel_rfl, fun a18 g W18 y18 zz18 hk hg hV hR hP => ?_⟩
    obtain ⟨-, -, -⟩ := hV
    replace e7 := (hR 7 rfl).trans e7
    replace D_cn := sa_keepL D_cn hk (by simp)
    replace D_ci := sa_keepL D_ci hk (by simp)
    replace D_cn23_11 := sf_keepL D_cn23_11 hk (by simp)
    replace D_ci23_11 := sf_keepL D_ci23_11 hk (by simp)
    replace own_bm := ownM_keepL own_bm hk (by simp [hne.symm])
    replace own_b8_11 := own_keepL own_b8_11 hk (by simp [ne_bo_b8_11.symm])
    have own_bo := hP
    replace own_bo : Own W18 bo [(.int .u8 (x.k)), (.int .i64 (x.n)), (.string (x.t)), (.slice cna (x.ns.length) cnc), (.slice cia (x.xs.length) cic), (.map (some bm)), (.int .i64 (failK x.k e 6))] 74 := own_bo
    replace kw := keeps_L kw hk (in_cons (.inr (by simp)) in_nil)
    clear hR hk hg hP
    refine tail_nil (hK17 _ _ ?_)
    refine wp_seq_k fun K19 hK19 => ?_
    refine rg mixed y18 zz18 ?_
    refine .i (sp_move (hbs rfl e7)) ?_
    refine .i (sp_assign (hlc rfl)) ?_
    refine .done ⟨by kernel_rfl, fun a20 g W20 y20 zz20 hk hg hV hR hP => ?_⟩
    obtain ⟨e6, -, -⟩ := hV
    replace D_cn := D_cn.ext hk
    replace D_ci := D_ci.ext hk
    have e6 : sl a20 6 = (.int .i64 (0)) := e6
    replace own_bo := own_bo.ext hk
    replace own_bm := own_bm.ext hk
    replace own_b8_11 := own_b8_11.ext hk
    replace kw := kw.x hk
    clear hR hk hg hP
    refine tail_nil (hK19 _ _ ?_)
    refine wp_ret ?_
    refine (show bodyPost Try.prog Try.f104 _ .ret _ _ from ret1 rfl zz20 e6 ⟨_, rfl, kw, ?_⟩)
    rw [h1, h3, h2]
    exact ⟨rfl, own_bo, own_bm⟩
   ·
    have hg1 : getB x name = true := by simpa using hc
    have hAn := hA name
    have hwg := Nat.le_trans (getV_wt x name) hx
    refine wp_skip (hK14 _ _ ?_)
    refine wp_seq_k fun K21 hK21 => ?_
    refine rg mixed y16 zz16 ?_
    refine .i (sp_move (hbs rfl e2)) ?_
    refine .i (v := (.agg #[(.int .u8 ((getV (x) name).k)), (.int .i64 ((getV (x) name).n)), (.string ((getV (x) name).t)), (.slice cn23_11a (((getV (x) name).ns).length) cn23_11c), (.slice ci23_11a (((getV (x) name).xs).length) ci23_11c)])) (loA (hbs rfl e8) own_b8_11 trivial agg33 sz33 rfl rfl) ?_
    refine .i (v := (.tuple #[(.int .i64 (fv (getV x name))), (.int .i64 (ce (getV x name)))])) (sp_callF1 ef (hlc rfl) (hlc rfl) (fun g W hk hgk => hf W (kw.trans (.of_ext hk)) _ _ hwg (sf_fr (Rd.ext (rdV_in (x := (getV (x) name)) ht_v23_11 D_cn23_11 D_ci23_11 : Rd W16 (SF w [b8_11, bo, bm]) (V.d ((getV (x) name))) _) hk)))) ?_
    refine .i (sp_move (hlc rfl)) ?_
    refine .i (v := (.int .i64 (fv (getV x name)))) (sp_extT (hlc rfl) rfl) ?_
    refine .i (v := (.int .i64 (ce (getV x name)))) (sp_extT (hlc rfl) rfl) ?_
    refine .i (sp_assign (hlc rfl)) ?_
    refine .i (sp_assign (hlc rfl)) ?_
    refine .done ⟨by kernel_rfl, fun a22 g W22 y22 zz22 hk hg hV hR hP => ?_⟩
    obtain ⟨e11, e10, -, -, -, -, -, -, -⟩ := hV
    replace e0 := (hR 0 rfl).trans e0
    replace e1 := (hR 1 rfl).trans e1
    replace e7 := (hR 7 rfl).trans e7
    replace D_cn := D_cn.ext hk
    replace D_ci := D_ci.ext hk
    replace D_cn23_11 := D_cn23_11.ext hk
    replace D_ci23_11 := D_ci23_11.ext hk
    have e10 : sl a22 10 = (.int .i64 (fv (getV x name))) := e10
    have e11 : sl a22 11 = (.int .i64 (ce (getV x name))) := e11
    replace own_bo := own_bo.ext hk
    replace own_bm := own_bm.ext hk
    replace own_b8_11 := own_b8_11.ext hk
    replace kw := kw.x hk
    clear hR hk hg hP
    refine tail_nil (hK21 _ _ ?_)
    refine wp_seq_k fun K23 hK23 => ?_
    refine wp_seq_k fun K24 hK24 => ?_
    refine rg mixed y22 zz22 ?_
    refine .i (sp_move (hbs rfl e11)) ?_
    refine .i (sp_neq (hlc rfl) Has.cst) ?_
    refine .done ⟨by kernel_rfl, fun a25 g W25 y25 zz25 hk hg hV hR hP => ?_⟩
    obtain ⟨e37, -, -⟩ := hV
    replace e0 := (hR 0 rfl).trans e0
    replace e1 := (hR 1 rfl).trans e1
    replace e7 := (hR 7 rfl).trans e7
    replace e10 := (hR 10 rfl).trans e10
    replace e11 := (hR 11 rfl).trans e11
    replace D_cn := D_cn.ext hk
    replace D_ci := D_ci.ext hk
    replace e37 := e37.q
    replace own_bo := own_bo.ext hk
    replace own_bm := own_bm.ext hk
    replace own_b8_11 := own_b8_11.ext hk
    replace kw := kw.x hk
    clear hR hk hg hP
    refine tail_nil (hK24 _ _ ?_)
    refine wp_cond_split e37 (fun hc => ?_) (fun hc => ?_)
    ·
     have hce : ce (getV x name) ≠ 0 := by simpa using hc
     have h1 : tkE x e name ce = failK x.k e (ce (getV x name)) := by rw [tkE, if_neg (by simp [hE]), if_neg (by simp [hg1]), failK, if_pos hE]
     have h2 : tkB x e name ce = false := by simp [tkB, hce]
     have h3 : tkA x A e name ce = A := by rw [tkA, h2]; rfl
     refine wp_seq_k fun K26 hK26 => ?_
     refine wp_reg (fun k => k ∉ [bo]) (Ψ := fun W => Own W bo [(.int .u8 (x.k)), (.int .i64 (x.n)), (.string (x.t)), (.slice cna (x.ns.length) cnc), (.slice cia (x.xs.length) cic), (.map (some bm)), (.int .i64 (e))] 74) mixed y25 zz25 stE_own own_bo ?_
     refine .i (sp_move (hbs rfl e0)) ?_
     refine .i (sp_move (hbs rfl e11)) ?_
     refine .callL2 (φ1 := Is (.pointer (some ⟨bo, 0, none⟩))) (φ2 := Is (.int .i64 (ce (getV x name)))) (φ := Is (.tuple #[])) (Ψ' := fun W => Own W bo [(.int .u8 (x.k)), (.int .i64 (x.n)), (.string (x.t)), (.slice cna (x.ns.length) cnc), (.slice cia (x.xs.length) cic), (.map (some bm)), (.int .i64 (failK x.k e (ce (getV x name))))] 74) ent22 (hlc rfl) (hlc rfl) (st_is _) stE_own (fun g u1 u2 W hk hg h1 h2 hP => by have h1 : u1 = _ := h1; subst u1; have h2 : u2 = _ := h2; subst u2; exact (Fail_ok _ _ _ _ _ _ _ (ce (getV x name)) W _ hP)) ?_
     refine .done ⟨by kernel_rfl, fun a27 g W27 y27 zz27 hk hg hV hR hP => ?_⟩
     obtain ⟨-, -, -, -⟩ := hV
     replace e7 := (hR 7 rfl).trans e7
     replace D_cn := sa_keepL D_cn hk (by simp)
     replace D_ci := sa_keepL D_ci hk (by simp)
     replace own_bm := ownM_keepL own_bm hk (by simp [hne.symm])
     replace own_b8_11 := own_keepL own_b8_11 hk (by simp [ne_bo_b8_11.symm])
     have own_bo := hP
     replace own_bo : Own W27 bo [(.int .u8 (x.k)), (.int .i64 (x.n)), (.string (x.t)), (.slice cna (x.ns.length) cnc), (.slice cia (x.xs.length) cic), (.map (some bm)), (.int .i64 (failK x.k e (ce (getV x name))))] 74 := own_bo
     replace kw := keeps_L kw hk (in_cons (.inr (by simp)) in_nil)
     clear hR hk hg hP
     refine tail_nil (hK26 _ _ ?_)
     refine wp_seq_k fun K28 hK28 => ?_
     refine rg mixed y27 zz27 ?_
     refine .i (sp_move (hbs rfl e7)) ?_
     refine .i (sp_assign (hlc rfl)) ?_
     refine .done ⟨by kernel_rfl, fun a29 g W29 y29 zz29 hk hg hV hR hP => ?_⟩
     obtain ⟨e6, -, -⟩ := hV
     replace D_cn := D_cn.ext hk
     replace D_ci := D_ci.ext hk
     have e6 : sl a29 6 = (.int .i64 (0)) := e6
     replace own_bo := own_bo.ext hk
     replace own_bm := own_bm.ext hk
     replace own_b8_11 := own_b8_11.ext hk
     replace kw := kw.x hk
     clear hR hk hg hP
     refine tail_nil (hK28 _ _ ?_)
     refine wp_ret ?_
     refine (show bodyPost Try.prog Try.f104 _ .ret _ _ from ret1 rfl zz29 e6 ⟨_, rfl, kw, ?_⟩)
     rw [h1, h3, h2]
     exact ⟨rfl, own_bo, own_bm⟩
    ·
     have hce : ce (getV x name) = 0 := by simpa using hc
     have h1 : tkE x e name ce = e := by rw [tkE, if_neg (by simp [hE]), if_neg (by simp [hg1]), hce, he0]
     have h2 : tkB x e name ce = true := by simp [tkB, hE, hg1, hce]
     have h3 : tkA x A e name ce = mset A name (mget A name + 1) := by rw [tkA, h2]; rfl
     refine wp_skip (hK23 _ _ ?_)
     refine wp_seq_k fun K30 hK30 => ?_
     refine rg mixed y25 zz25 ?_
     refine .i (sp_move (hbs rfl e0)) ?_
     refine .i (sp_nilP (hlc rfl)) ?_
     refine .i (fo 5 (hlc rfl) Try.underlying74 rfl sz72 rfl) ?_
     refine .i (lo1 (hlc rfl) own_bo trivial agg72 sz72 rfl) ?_
     refine .i (sp_move (hbs rfl e1)) ?_
     refine .i (sp_lookup Try.underlying72 Try.underlying9 z3 (hlc rfl) (hlc rfl) own_bm trivial) ?_
     refine .i (sp_add (hlc rfl) Has.cst (i64_in (by omega))) ?_
     refine .done ⟨by kernel_rfl, fun a31 g W31 y31 zz31 hk hg hV hR hP => ?_⟩
     obtain ⟨e48, -, e46, e45, -, -, -, -⟩ := hV
     replace e10 := (hR 10 rfl).trans e10
     replace D_cn := D_cn.ext hk
     replace D_ci := D_ci.ext hk
     have e45 : sl a31 45 = (.map (some bm)) := e45
     have e46 : sl a31 46 = (.string (name)) := e46
     replace e48 := e48.q
     replace own_bo := own_bo.ext hk
     replace own_bm := own_bm.ext hk
     replace own_b8_11 := own_b8_11.ext hk
     replace kw := kw.x hk
     clear hR hk hg hP
     refine tail_updM Try.underlying72 Try.underlying9 e45 e46 e48 own_bm (fun W32 hs own_bm => ?_)
     have own_bm : OwnM W32 bm (mset A name ((mget A name : Int) + (1 : Int))) := own_bm
     replace own_bo := own_store own_bo hs hne
     replace own_b8_11 := own_store own_b8_11 hs ne_bm_b8_11.symm
     replace D_cn := sa_store D_cn hs (by simp)
     replace D_ci := sa_store D_ci hs (by simp)
     replace kw := keeps_storeN kw hs (by simp)
     clear hs
     refine tail_nil (hK30 _ _ ?_)
     refine wp_seq_k fun K33 hK33 => ?_
     refine rg mixed y31 zz31 ?_
     refine .i (sp_move (hbs rfl e10)) ?_
     refine .i (sp_assign (hlc rfl)) ?_
     refine .done ⟨by kernel_rfl, fun a34 g W34 y34 zz34 hk hg hV hR hP => ?_⟩
     obtain ⟨e6, -, -⟩ := hV
     replace D_cn := D_cn.ext hk
     replace D_ci := D_ci.ext hk
     have e6 : sl a34 6 = (.int .i64 (fv (getV x name))) := e6
     replace own_bo := own_bo.ext hk
     replace own_bm := own_bm.ext hk
     replace own_b8_11 := own_b8_11.ext hk
     replace kw := kw.x hk
     clear hR hk hg hP
     refine tail_nil (hK33 _ _ ?_)
     refine wp_ret ?_
     refine (show bodyPost Try.prog Try.f104 _ .ret _ _ from ret1 rfl zz34 e6 ⟨_, rfl, kw, ?_⟩)
     rw [h1, h3, h2]
     exact ⟨rfl, own_bo, own_bm⟩

end Go.Proofs.Ytnobijngkpflcaa
