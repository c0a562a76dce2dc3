/-
  The law AuthBack of package legatelaw15 returns true for every input, and leaves its arguments as they were. No condition beyond the row's own.
-/
import Derived.Test.YtnobijngkpflcaaAb3
namespace Go.Proofs.Ytnobijngkpflcaa
open Go.Eng
set_option maxRecDepth 100000 in
theorem num1_ok (x : V) (lo hi : Int) (w : World) (S : BSet) (v : Value) (b1 b2 : Nat) (hv : Rd w S x.d v) (own_b1 : Own w b1 [.int .i64 lo] 2) (own_b2 : Own w b2 [.int .i64 hi] 2) : Calls Try.prog 105 #[v, .pointer (some ⟨b1, 0, none⟩), .pointer (some ⟨b2, 0, none⟩)] w (Ret w fun r _ => r = .tuple #[.int .i64 (numV lo hi x), .int .i64 (numE lo hi x)]) := by
  obtain ⟨cn0a, cn0c, ci0a, ci0c, ev, ht0, D_cn0, D_ci0⟩ := rdV_out (rd_arg hv)
  subst ev
  refine enter Try.func105 rfl Try.ntmps105 (lbr rfl) fun a0 y0 zz0 harg => ?_
  have e0 : sl a0 0 = (.agg #[(.int .u8 (x.k)), (.int .i64 (x.n)), (.string (x.t)), (.slice cn0a (x.ns.length) cn0c), (.slice ci0a (x.xs.length) ci0c)]) := harg 0 (lbr rfl)
  have e1 : sl a0 1 = (.pointer (some ⟨b1, 0, none⟩)) := harg 1 (lbr rfl)
  have e2 : sl a0 2 = (.pointer (some ⟨b2, 0, none⟩)) := harg 2 (lbr rfl)
  have kw := Keeps.refl All w
  clear harg
  refine wp_seq_k fun K1 hK1 => ?_
  refine rg mixed y0 zz0 ?_
  refine .boxOp (v := (.agg #[(.int .u8 (x.k)), (.int .i64 (x.n)), (.string (x.t)), (.slice cn0a (x.ns.length) cn0c), (.slice ci0a (x.xs.length) ci0c)])) (hbs rfl e0) ?_
  refine .i (sp_assign Has.cst) ?_
  refine .i (sp_assign Has.cst) ?_
  refine .done ⟨by kernel_rfl, fun a2 g W2 y2 zz2 hk hg hV hR hP => ?_⟩
  obtain ⟨-, -, ⟨b3_2, e3, hb3, own_b3_2⟩, -⟩ := hV
  have lo_b3_2 : w.heap.size ≤ b3_2 := Nat.le_trans kw.size (hg.lo _ _ hb3)
  have ne_b1_b3_2 : b1 ≠ b3_2 := Nat.ne_of_lt (Nat.lt_of_lt_of_le own_b1.lt (hg.lo _ _ hb3))
  have ne_b2_b3_2 : b2 ≠ b3_2 := Nat.ne_of_lt (Nat.lt_of_lt_of_le own_b2.lt (hg.lo _ _ hb3))
  have own_b3_2 : Own W2 b3_2 [(.int .u8 (x.k)), (.int .i64 (x.n)), (.string (x.t)), (.slice cn0a (x.ns.length) cn0c), (.slice ci0a (x.xs.length) ci0c)] 33 := own_b3_2
  replace e1 := (hR 1 rfl).trans e1
  replace e2 := (hR 2 rfl).trans e2
  replace D_cn0 := sa_more D_cn0 hk [b3_2] (in_cons (hg.lo _ _ hb3) in_nil)
  replace D_ci0 := sa_more D_ci0 hk [b3_2] (in_cons (hg.lo _ _ hb3) in_nil)
  replace own_b1 := own_b1.ext hk
  replace own_b2 := own_b2.ext hk
  replace kw := kw.x hk
  clear hR hk hg hP hb3
  refine tail_nil (hK1 _ _ ?_)
  refine wp_seq_k fun K3 hK3 => ?_
  refine wp_seq_k fun K4 hK4 => ?_
  refine rg mixed y2 zz2 ?_
  refine .i (fo 0 (hbs rfl e3) Try.underlying33 rfl sz5 rfl) ?_
  refine .i (lo1 (hlc rfl) own_b3_2 trivial agg5 sz5 rfl) ?_
  refine .i (sp_neq (hlc rfl) Has.cst) ?_
  refine .done ⟨by kernel_rfl, fun a5 g W5 y5 zz5 hk hg hV hR hP => ?_⟩
  obtain ⟨e8, -, -, -⟩ := hV
  replace e1 := (hR 1 rfl).trans e1
  replace e2 := (hR 2 rfl).trans e2
  replace e3 := (hR 3 rfl).trans e3
  replace D_cn0 := D_cn0.ext hk
  replace D_ci0 := D_ci0.ext hk
  have e8 : sl a5 8 = (.bool ((x.k : Int) != (2 : Int))) := e8
  replace own_b1 := own_b1.ext hk
  replace own_b2 := own_b2.ext hk
  replace own_b3_2 := own_b3_2.ext hk
  replace kw := kw.x hk
  clear hR hk hg hP
  refine tail_nil (hK4 _ _ ?_)
  refine wp_cond_split e8 (fun hc => ?_) (fun hc => ?_)
  ·
   have hk : x.k ≠ 2 := by simp at hc; omega
   have hf : numE lo hi x = 10 := by rw [numE, if_pos hk]
   have hv2 : numV lo hi x = 0 := by rw [numV, hf]; rfl
   refine wp_seq_k fun K6 hK6 => ?_
   refine rg mixed y5 zz5 ?_
   refine .i (sp_assign Has.cst) ?_
   refine .i (sp_assign Has.cst) ?_
   refine .done ⟨by kernel_rfl, fun a7 g W7 y7 zz7 hk hg hV hR hP => ?_⟩
   obtain ⟨e5, e4, -⟩ := hV
   replace D_cn0 := D_cn0.ext hk
   replace D_ci0 := D_ci0.ext hk
   have e4 : sl a7 4 = (.int .i64 (0)) := e4
   have e5 : sl a7 5 = (.int .i64 (10)) := e5
   replace own_b1 := own_b1.ext hk
   replace own_b2 := own_b2.ext hk
   replace own_b3_2 := own_b3_2.ext hk
   replace kw := kw.x hk
   clear hR hk hg hP
   refine tail_nil (hK6 _ _ ?_)
   refine wp_ret ?_
   refine (show bodyPost Try.prog Try.f105 _ .ret _ _ from ret2 rfl zz7 e4 e5 ⟨_, rfl, kw, ?_⟩)
   rw [hf, hv2]
  ·
   have hk : ¬ x.k ≠ 2 := by simp at hc; omega
   refine wp_skip (hK3 _ _ ?_)
   refine wp_seq_k fun K8 hK8 => ?_
   refine wp_seq_k fun K9 hK9 => ?_
   refine rg mixed y5 zz5 ?_
   refine .i (fo 1 (hbs rfl e3) Try.underlying33 rfl sz2 rfl) ?_
   refine .i (lo1 (hlc rfl) own_b3_2 trivial agg2 sz2 rfl) ?_
   refine .i (lo1 (hbs rfl e1) own_b1 trivial agg2 sz2 rfl) ?_
   refine .i (sp_lss (hlc rfl) (hlc rfl)) ?_
   refine .i (sp_move (hlc rfl)) ?_
   refine .e (t := 13) rfl (hlc rfl) (fun hg => fo 1 (hbs rfl e3) Try.underlying33 rfl sz2 rfl) ?_
   refine .e (t := 13) rfl (hlc rfl) (fun hg => lo1 ((hlc rfl).undE hg) own_b3_2 trivial agg2 sz2 rfl) ?_
   refine .e (t := 13) rfl (hlc rfl) (fun hg => lo1 (hbs rfl e2) own_b2 trivial agg2 sz2 rfl) ?_
   refine .e (t := 13) rfl (hlc rfl) (fun hg => sp_gtr ((hlc rfl).undE hg) ((hlc rfl).undE hg)) ?_
   refine .i (sp_or (hlc rfl) ((hlc rfl).weak fun hq => hq)) ?_
   refine .done ⟨by kernel_rfl, fun a10 g W10 y10 zz10 hk hg hV hR hP => ?_⟩
   obtain ⟨e18, -, -, -, -, -, -, -, -, -, -⟩ := hV
   replace e3 := (hR 3 rfl).trans e3
   replace D_cn0 := D_cn0.ext hk
   replace D_ci0 := D_ci0.ext hk
   replace e18 := e18.q
   replace own_b1 := own_b1.ext hk
   replace own_b2 := own_b2.ext hk
   replace own_b3_2 := own_b3_2.ext hk
   replace kw := kw.x hk
   clear hR hk hg hP
   refine tail_nil (hK9 _ _ ?_)
   refine wp_cond_split e18 (fun hc => ?_) (fun hc => ?_)
   ·
    have hl : x.n < lo ∨ hi < x.n := by simpa using hc
    have hf : numE lo hi x = 1 := by rw [numE, if_neg hk, if_pos hl]
    have hv2 : numV lo hi x = 0 := by rw [numV, hf]; rfl
    refine wp_seq_k fun K11 hK11 => ?_
    refine rg mixed y10 zz10 ?_
    refine .i (sp_assign Has.cst) ?_
    refine .i (sp_assign Has.cst) ?_
    refine .done ⟨by kernel_rfl, fun a12 g W12 y12 zz12 hk hg hV hR hP => ?_⟩
    obtain ⟨e5, e4, -⟩ := hV
    replace D_cn0 := D_cn0.ext hk
    replace D_ci0 := D_ci0.ext hk
    have e4 : sl a12 4 = (.int .i64 (0)) := e4
    have e5 : sl a12 5 = (.int .i64 (1)) := e5
    replace own_b1 := own_b1.ext hk
    replace own_b2 := own_b2.ext hk
    replace own_b3_2 := own_b3_2.ext hk
    replace kw := kw.x hk
    clear hR hk hg hP
    refine tail_nil (hK11 _ _ ?_)
    refine wp_ret ?_
    refine (show bodyPost Try.prog Try.f105 _ .ret _ _ from ret2 rfl zz12 e4 e5 ⟨_, rfl, kw, ?_⟩)
    rw [hf, hv2]
   ·
    have hl : ¬ (x.n < lo ∨ hi < x.n) := by simp at hc; omega
    have hf : numE lo hi x = 0 := by rw [numE, if_neg hk, if_neg hl]
    have hv2 : numV lo hi x = x.n := by rw [numV, if_pos hf]
    refine wp_skip (hK8 _ _ ?_)
    refine wp_seq_k fun K13 hK13 => ?_
    refine rg mixed y10 zz10 ?_
    refine .i (fo 1 (hbs rfl e3) Try.underlying33 rfl sz2 rfl) ?_
    refine .i (lo1 (hlc rfl) own_b3_2 trivial agg2 sz2 rfl) ?_
    refine .i (sp_assign (hlc rfl)) ?_
    refine .i (sp_assign Has.cst) ?_
    refine .done ⟨by kernel_rfl, fun a14 g W14 y14 zz14 hk hg hV hR hP => ?_⟩
    obtain ⟨e5, e4, -, -, -⟩ := hV
    replace D_cn0 := D_cn0.ext hk
    replace D_ci0 := D_ci0.ext hk
    have e4 : sl a14 4 = (.int .i64 (x.n)) := e4
    have e5 : sl a14 5 = (.int .i64 (0)) := e5
    replace own_b1 := own_b1.ext hk
    replace own_b2 := own_b2.ext hk
    replace own_b3_2 := own_b3_2.ext hk
    replace kw := kw.x hk
    clear hR hk hg hP
    refine tail_nil (hK13 _ _ ?_)
    refine wp_ret ?_
    refine (show bodyPost Try.prog Try.f105 _ .ret _ _ from ret2 rfl zz14 e4 e5 ⟨_, rfl, kw, ?_⟩)
    rw [hf, hv2]
set_option maxRecDepth 100000 in
theorem takeS_ok (x : V) (A : As) (e : Int) (hA : AB 1000000 A) (hx : x.wt ≤ 1073741824) (hxt : x.t.size ≤ maxLen) (name : ByteArray) (fi : FuncId) (cb : Array Value) (ce : V → Int) (fv : V → List ByteArray) (w : World) (S : BSet) (cn ci : Value) (bo bm : Nat) (hS : ∀ b o, S b o → Cln o) (hM : ∀ b ∈ [bo, bm], ∀ o, ¬ S b o) (hne : bo ≠ bm) (hv : Rd w S (strsD x.ns) cn) (hu : Rd w S (valsD x.xs) ci) (own_bo : Own w bo [.int .u8 x.k, .int .i64 x.n, .string x.t, cn, ci, .map (some bm), .int .i64 (e)] 74) (own_bm : OwnM w bm A) (ef : Enters Try.prog fi) (hf : ∀ W, Keeps (fun k => k ∉ [bo, bm]) w W → ∀ (y : V) (v : Value), y.wt ≤ 1073741824 → Rd W (Fr w) y.d v → Calls Try.prog fi (#[v] ++ cb) W (Ret W fun r W2 => ∃ r1, r = .tuple #[r1, .int .i64 (ce y)] ∧ Rd W2 (Fr W) (strsD (fv y)) r1)) : Calls Try.prog 98 #[.pointer (some ⟨bo, 0, none⟩), .string name, .func (.func fi) #[] cb] w (RetL w [bo, bm] fun u W => Rd W (Fr w) (strsD (if tkB x e name ce then fv (getV x name) else [])) u ∧ Own W bo [.int .u8 x.k, .int .i64 x.n, .string x.t, cn, ci, .map (some bm), .int .i64 (tkE x e name ce)] 74 ∧ OwnM W bm (tkA x A e name ce)) := by
  have hwx := wt_eq x
  have hwl := wts_len x.xs
  have hwn := wtN_len x.ns
  obtain ⟨cna, cnc, ev, D_cn⟩ := rdS_out (rd_argM (M := [bo, bm]) hv hM)
  subst ev
  obtain ⟨cia, cic, ev, D_ci⟩ := rdVs_out (rd_argM (M := [bo, bm]) hu hM)
  subst ev
  refine enter Try.func98 rfl Try.ntmps98 (lbr rfl) fun a0 y0 zz0 harg => ?_
  have e0 : sl a0 0 = (.pointer (some ⟨bo, 0, none⟩)) := harg 0 (lbr rfl)
  have e1 : sl a0 1 = (.string (name)) := harg 1 (lbr rfl)
  have e2 : sl a0 2 = (.func (.func fi) #[] cb) := harg 2 (lbr rfl)
  have kw := Keeps.refl (fun k => k ∉ [bo, bm]) w
  clear harg
  refine wp_seq_k fun K1 hK1 => ?_
  refine rg mixed y0 zz0 ?_
  refine .i (sp_assign Has.cst) ?_
  refine .done ⟨by kernel_rfl, fun a2 g W2 y2 zz2 hk hg hV hR hP => ?_⟩
  obtain ⟨-, -⟩ := hV
  replace e0 := (hR 0 rfl).trans e0
  replace e1 := (hR 1 rfl).trans e1
  replace e2 := (hR 2 rfl).trans e2
  replace D_cn := D_cn.ext hk
  replace D_ci := D_ci.ext hk
  replace own_bo := own_bo.ext hk
  replace own_bm := own_bm.ext hk
  replace kw := kw.x hk
  clear hR hk hg hP
  refine tail_nil (hK1 _ _ ?_)
  refine wp_seq_k fun K3 hK3 => ?_
  refine rg mixed y2 zz2 ?_
  refine .i (sp_assign Has.cst) ?_
  refine .done ⟨by kernel_rfl, fun a4 g W4 y4 zz4 hk hg hV hR hP => ?_⟩
  obtain ⟨e7, -⟩ := hV
  replace e0 := (hR 0 rfl).trans e0
  replace e1 := (hR 1 rfl).trans e1
  replace e2 := (hR 2 rfl).trans e2
  replace D_cn := D_cn.ext hk
  replace D_ci := D_ci.ext hk
  have e7 : sl a4 7 = (.slice none 0 0) := e7
  replace own_bo := own_bo.ext hk
  replace own_bm := own_bm.ext hk
  replace kw := kw.x hk
  clear hR hk hg hP
  refine tail_nil (hK3 _ _ ?_)
  refine wp_seq_k fun K5 hK5 => ?_
  refine wp_seq_k fun K6 hK6 => ?_
  refine rg mixed y4 zz4 ?_
  refine .i (sp_move (hbs rfl e0)) ?_
  refine .i (v := (.int .i64 (errK x.k e))) (sp_call1 (φ1 := Is (.pointer (some ⟨bo, 0, none⟩))) ent24 (hlc rfl) (fun g u1 W hk hgk h1 => by have h1 : u1 = _ := h1; subst u1; exact Err_ok _ _ _ _ _ _ _ W _ (own_bo.ext hk))) ?_
  refine .i (sp_neq (hlc rfl) Has.cst) ?_
  refine .done ⟨by kernel_rfl, fun a7 g W7 y7 zz7 hk hg hV hR hP => ?_⟩
  obtain ⟨e14, -, -, -⟩ := hV
  replace e0 := (hR 0 rfl).trans e0
  replace e1 := (hR 1 rfl).trans e1
  replace e2 := (hR 2 rfl).trans e2
  replace e7 := (hR 7 rfl).trans e7
  replace D_cn := D_cn.ext hk
  replace D_ci := D_ci.ext hk
  replace e14 := e14.q
  replace own_bo := own_bo.ext hk
  replace own_bm := own_bm.ext hk
  replace kw := kw.x hk
  clear hR hk hg hP
  refine tail_nil (hK6 _ _ ?_)
  refine wp_cond_split e14 (fun hc => ?_) (fun hc => ?_)
  ·
   have hE : errK x.k e ≠ 0 := by simpa using hc
   have h1 : tkE x e name ce = e := by rw [tkE, if_pos hE]
   have h2 : tkB x e name ce = false := by simp [tkB, hE]
   have h3 : tkA x A e name ce = A := by rw [tkA, h2]; rfl
   refine wp_seq_k fun K8 hK8 => ?_
   refine rg mixed y7 zz7 ?_
   refine .i (sp_move (hbs rfl e7)) ?_
   refine .i (sp_assign (hlc rfl)) ?_
   refine .done ⟨by kernel_rfl, fun a9 g W9 y9 zz9 hk hg hV hR hP => ?_⟩
   obtain ⟨e6, -, -⟩ := hV
   replace D_cn := D_cn.ext hk
   replace D_ci := D_ci.ext hk
   have e6 : sl a9 6 = (.slice none 0 0) := e6
   replace own_bo := own_bo.ext hk
   replace own_bm := own_bm.ext hk
   replace kw := kw.x hk
   clear hR hk hg hP
   refine tail_nil (hK8 _ _ ?_)
   refine wp_ret ?_
   refine (show bodyPost Try.prog Try.f98 _ .ret _ _ from ret1 rfl zz9 e6 ⟨_, rfl, kw, ?_⟩)
   rw [h1, h3, h2]
   exact ⟨rd_nil _, own_bo, own_bm⟩
  ·
   have hE : errK x.k e = 0 := by simpa using hc
   have he0 := (errK_zero hE).1
   refine wp_skip (hK5 _ _ ?_)
   refine wp_seq_k fun K10 hK10 => ?_
   refine rg mixed y7 zz7 ?_
   refine .i (sp_move (hbs rfl e0)) ?_
   refine .i (sp_nilP (hlc rfl)) ?_
   refine .i (fo 0 (hlc rfl) Try.underlying74 rfl sz33 rfl) ?_
   refine .i (v := (.agg #[(.int .u8 (x.k)), (.int .i64 (x.n)), (.string (x.t)), (.slice cna (x.ns.length) cnc), (.slice cia (x.xs.length) cic)])) (loA (hlc rfl) own_bo trivial agg33 sz33 rfl rfl) ?_
   refine .i (sp_move (hbs rfl e1)) ?_
   refine .op (φ := IsT (IsD (Fr W7) (V.d (getV (x) name))) (Is (.bool (getB (x) name)))) (st_t (st_d sub_all) (st_is _)) (sp_call2 (φ1 := IsD (SA w S [bo, bm]) (V.d (x))) (φ2 := Is (.string (name))) ent101 ((hlc rfl).dat (rdV_in (x := x) hxt D_cn D_ci : Rd W7 (SA w S [bo, bm]) (V.d (x)) _) sub_all) (hlc rfl) (fun g u1 u2 W hk hgk h1 h2 => by have h2 : u2 = _ := h2; subst u2; exact (Get_ok (x) (name) (by omega) W _ _ (fun b o h => sa_cln hS b o h.1) h1).mono (fun _ _ ⟨v, h1, h2, r1, h3, h4⟩ => ⟨v, h1, h2, r1, _, h3, fresh_d hk hgk h4, rfl⟩))) ?_
   refine .op (φ := IsT (IsD (Fr W7) (V.d (getV (x) name))) (Is (.bool (getB (x) name)))) (st_t (st_d sub_all) (st_is _)) (sp_move (hlc rfl)) ?_
   refine .da (X := Fr W7) (e := V.d (getV (x) name)) (sp_ext2 (hlc rfl) rfl) ?_
   refine .i (v := (.bool (getB (x) name))) (sp_ext2' (hlc rfl) rfl) ?_
   refine .alloc z33 ?_
   refine .done ⟨by kernel_rfl, fun a11 g W11 y11 zz11 hk hg hV hR hP => ?_⟩
   obtain ⟨⟨b8_11, e8, hb8, own_b8_11⟩, e24, e23, -, -, -, -, -, -, -, -⟩ := hV
   have lo_b8_11 : w.heap.size ≤ b8_11 := Nat.le_trans kw.size (hg.lo _ _ hb8)
   have ne_bo_b8_11 : bo ≠ b8_11 := Nat.ne_of_lt (Nat.lt_of_lt_of_le own_bo.lt (hg.lo _ _ hb8))
   have ne_bm_b8_11 : bm ≠ b8_11 := Nat.ne_of_lt (Nat.lt_of_lt_of_le own_bm.lt (hg.lo _ _ hb8))
   have own_b8_11 : Own W11 b8_11 [(.int .u8 (0)), (.int .i64 (0)), (.string (⟨#[]⟩)), (.slice none 0 0), (.slice none 0 0)] 33 := own_b8_11
   replace e0 := (hR 0 rfl).trans e0
   replace e1 := (hR 1 rfl).trans e1
   replace e2 := (hR 2 rfl).trans e2
   replace e7 := (hR 7 rfl).trans e7
   replace D_cn := sa_more D_cn hk [b8_11] (in_cons (hg.lo _ _ hb8) in_nil)
   replace D_ci := sa_more D_ci hk [b8_11] (in_cons (hg.lo _ _ hb8) in_nil)
   obtain ⟨v23_11, ev⟩ : ∃ v, sl a11 23 = v := ⟨_, rfl⟩
   rw [ev] at e23
   have D_v23_11 : Rd W11 (SF w [b8_11, bo, bm]) (V.d (getV (x) name)) v23_11 := fr_end (M := [bo, bm]) e23 kw [b8_11] (in_cons ⟨_, hb8⟩ in_nil) (in_cons own_bo.lt (in_cons own_bm.lt in_nil))
   replace e23 := ev; clear ev
   obtain ⟨cn23_11a, cn23_11c, ci23_11a, ci23_11c, ev, ht_v23_11, D_cn23_11, D_ci23_11⟩ := rdV_out D_v23_11
   subst ev; clear D_v23_11
   have e24 : sl a11 24 = (.bool (getB (x) name)) := e24
   replace own_bo := own_bo.ext hk
   replace own_bm := own_bm.ext hk
   replace kw := kw.x hk
   clear hR hk hg hP hb8
   refine tail_store (b := b8_11) (o := 0) (v := (.agg #[(.int .u8 ((getV (x) name).k)), (.int .i64 ((getV (x) name).n)), (.string ((getV (x) name).t)), (.slice cn23_11a (((getV (x) name).ns).length) cn23_11c), (.slice ci23_11a (((getV (x) name).xs).length) ci23_11c)])) e8 e23 sz33 rfl own_b8_11 (lbr rfl) (all_cons rfl (all_cons rfl (all_cons rfl (all_cons rfl (all_cons rfl all_nil))))) (fun W12 hs own_b8_11 => ?_)
   have own_b8_11 : Own W12 b8_11 [(.int .u8 ((getV (x) name).k)), (.int .i64 ((getV (x) name).n)), (.string ((getV (x) name).t)), (.slice cn23_11a (((getV (x) name).ns).length) cn23_11c), (.slice ci23_11a (((getV (x) name).xs).length) ci23_11c)] 33 := own_b8_11
   replace own_bo := own_store own_bo hs ne_bo_b8_11
   replace own_bm := ownM_store own_bm hs ne_bm_b8_11
   replace D_cn := sa_store D_cn hs (by simp)
   replace D_ci := sa_store D_ci hs (by simp)
   replace D_cn23_11 := sf_store D_cn23_11 hs (by simp)
   replace D_ci23_11 := sf_store D_ci23_11 hs (by simp)
   replace kw := keeps_store kw hs lo_b8_11
   clear hs
   refine tail_assign (v := (.bool (getB (x) name))) e24 (by rw [y11]; exact Nat.le_of_ble_eq_true rfl) (fun a13 y13 zz13 e9 hr => ?_)
   replace y13 := y13.trans y11; replace zz13 := zz13.trans zz11
   replace e0 := (hr 0 (by decide)).trans e0
   replace e1 := (hr 1 (by decide)).trans e1
   replace e2 := (hr 2 (by decide)).trans e2
   replace e7 := (hr 7 (by decide)).trans e7
   replace e8 := (hr 8 (by decide)).trans e8
   replace e23 := (hr 23 (by decide)).trans e23
   replace e24 := (hr 24 (by decide)).trans e24
   clear hr
   refine tail_nil (hK10 _ _ ?_)
   refine wp_seq_k fun K14 hK14 => ?_
   refine wp_seq_k fun K15 hK15 => ?_
   refine rg mixed y13 zz13 ?_
   refine .i (sp_move (hbs rfl e9)) ?_
   refine .i (sp_not (hlc rfl)) ?_
   refine .done ⟨by kernel_rfl, fun a16 g W16 y16 zz16 hk hg hV hR hP => ?_⟩
   obtain ⟨e26, -, -⟩ := hV
   replace e0 := (hR 0 rfl).trans e0
   replace e1 := (hR 1 rfl).trans e1
   replace e2 := (hR 2 rfl).trans e2
   replace e7 := (hR 7 rfl).trans e7
   replace e8 := (hR 8 rfl).trans e8
   replace D_cn := D_cn.ext hk
   replace D_ci := D_ci.ext hk
   replace D_cn23_11 := D_cn23_11.ext hk
   replace D_ci23_11 := D_ci23_11.ext hk
   have e26 : sl a16 26 = (.bool (!(getB (x) name))) := e26
   replace own_bo := own_bo.ext hk
   replace own_bm := own_bm.ext hk
   replace own_b8_11 := own_b8_11.ext hk
   replace kw := kw.x hk
   clear hR hk hg hP
   refine tail_nil (hK15 _ _ ?_)
   refine wp_cond_split e26 (fun hc => ?_) (fun hc => ?_)
   ·
    have hg0 : getB x name = false := by simpa using hc
    have h1 : tkE x e name ce = failK x.k e 6 := by rw [tkE, if_neg (by simp [hE]), if_pos hg0, failK, if_pos hE]
    have h2 : tkB x e name ce = false := by simp [tkB, hg0]
    have h3 : tkA x A e name ce = A := by rw [tkA, h2]; rfl
    refine wp_seq_k fun K17 hK17 => ?_
    refine wp_reg (fun k => k ∉ [bo]) (Ψ := fun W => Own W bo [(.int .u8 (x.k)), (.int .i64 (x.n)), (.string (x.t)), (.slice cna (x.ns.length) cnc), (.slice cia (x.xs.length) cic), (.map (some bm)), (.int .i64 (e))] 74) mixed y16 zz16 stE_own own_bo ?_
    refine .i (sp_move (hbs rfl e0)) ?_
    refine .callL2 (φ1 := Is (.pointer (some ⟨bo, 0, none⟩))) (φ2 := Is (.int .i64 (6))) (φ := Is (.tuple #[])) (Ψ' := fun W => Own W bo [(.int .u8 (x.k)), (.int .i64 (x.n)), (.string (x.t)), (.slice cna (x.ns.length) cnc), (.slice cia (x.xs.length) cic), (.map (some bm)), (.int .i64 (failK x.k e 6))] 74) ent22 (hlc rfl) Has.cst (st_is _) stE_own (fun g u1 u2 W hk hg h1 h2 hP => by have h1 : u1 = _ := h1; subst u1; have h2 : u2 = _ := h2; subst u2; exact (Fail_ok _ _ _ _ _ _ _ (6) W _ hP)) ?_
    refine .done ⟨by kernel_rfl, fun a18 g W18 y18 zz18 hk hg hV hR hP => ?_⟩
    obtain ⟨-, -, -⟩ := hV
    replace e7 := (hR 7 rfl).trans e7
    replace D_cn := sa_keepL D_cn hk (by simp)
    replace D_ci := sa_keepL D_ci hk (by simp)
    replace D_cn23_11 := sf_keepL D_cn23_11 hk (by simp)
    replace D_ci23_11 := sf_keepL D_ci23_11 hk (by simp)
    replace own_bm := ownM_keepL own_bm hk (by simp [hne.symm])
    replace own_b8_11 := own_keepL own_b8_11 hk (by simp [ne_bo_b8_11.symm])
    have own_bo := hP
    replace own_bo : Own W18 bo [(.int .u8 (x.k)), (.int .i64 (x.n)), (.string (x.t)), (.slice cna (x.ns.length) cnc), (.slice cia (x.xs.length) cic), (.map (some bm)), (.int .i64 (failK x.k e 6))] 74 := own_bo
    replace kw := keeps_L kw hk (in_cons (.inr (by simp)) in_nil)
    clear hR hk hg hP
    refine tail_nil (hK17 _ _ ?_)
    refine wp_seq_k fun K19 hK19 => ?_
    refine rg mixed y18 zz18 ?_
    refine .i (sp_move (hbs rfl e7)) ?_
    refine .i (sp_assign (hlc rfl)) ?_
    refine .done ⟨by kernel_rfl, fun a20 g W20 y20 zz20 hk hg hV hR hP => ?_⟩
    obtain ⟨e6, -, -⟩ := hV
    replace D_cn := D_cn.ext hk
    replace D_ci := D_ci.ext hk
    have e6 : sl a20 6 = (.slice none 0 0) := e6
    replace own_bo := own_bo.ext hk
    replace own_bm := own_bm.ext hk
    replace own_b8_11 := own_b8_11.ext hk
    replace kw := kw.x hk
    clear hR hk hg hP
    refine tail_nil (hK19 _ _ ?_)
    refine wp_ret ?_
    refine (show bodyPost Try.prog Try.f98 _ .ret _ _ from ret1 rfl zz20 e6 ⟨_, rfl, kw, ?_⟩)
    rw [h1, h3, h2]
    exact ⟨rd_nil _, own_bo, own_bm⟩
   ·
    have hg1 : getB x name = true := by simpa using hc
    have hAn := hA name
    have hwg := Nat.le_trans (getV_wt x name) hx
    refine wp_skip (hK14 _ _ ?_)
    refine wp_seq_k fun K21 hK21 => ?_
    refine rg mixed y16 zz16 ?_
    refine .i (sp_move (hbs rfl e2)) ?_
    refine .i (v := (.agg #[(.int .u8 ((getV (x) name).k)), (.int .i64 ((getV (x) name).n)), (.string ((getV (x) name).t)), (.slice cn23_11a (((getV (x) name).ns).length) cn23_11c), (.slice ci23_11a (((getV (x) name).xs).length) ci23_11c)])) (loA (hbs rfl e8) own_b8_11 trivial agg33 sz33 rfl rfl) ?_
    refine .op (φ := IsT (IsD (Fr W16) (strsD (fv (getV x name)))) (Is (.int .i64 (ce (getV x name))))) (st_t (st_d sub_all) (st_is _)) (sp_callF1 ef (hlc rfl) (hlc rfl) (fun g W hk hgk => (hf W (kw.trans (.of_ext hk)) _ _ hwg (sf_fr (Rd.ext (rdV_in (x := (getV (x) name)) ht_v23_11 D_cn23_11 D_ci23_11 : Rd W16 (SF w [b8_11, bo, bm]) (V.d ((getV (x) name))) _) hk))).mono (fun _ _ ⟨v, h1, h2, r1, h3, h4⟩ => ⟨v, h1, h2, r1, _, h3, fresh_d hk hgk h4, rfl⟩))) ?_
    refine .op (φ := IsT (IsD (Fr W16) (strsD (fv (getV x name)))) (Is (.int .i64 (ce (getV x name))))) (st_t (st_d sub_all) (st_is _)) (sp_move (hlc rfl)) ?_
    refine .da (X := Fr W16) (e := strsD (fv (getV x name))) (sp_ext2 (hlc rfl) rfl) ?_
    refine .i (v := (.int .i64 (ce (getV x name)))) (sp_ext2' (hlc rfl) rfl) ?_
    refine .da (X := Fr W16) (e := strsD (fv (getV x name))) (sp_assign (hlc rfl)) ?_
    refine .i (sp_assign (hlc rfl)) ?_
    refine .done ⟨by kernel_rfl, fun a22 g W22 y22 zz22 hk hg hV hR hP => ?_⟩
    obtain ⟨e11, e10, -, -, -, -, -, -, -⟩ := hV
    replace e0 := (hR 0 rfl).trans e0
    replace e1 := (hR 1 rfl).trans e1
    replace e7 := (hR 7 rfl).trans e7
    replace D_cn := D_cn.ext hk
    replace D_ci := D_ci.ext hk
    replace D_cn23_11 := D_cn23_11.ext hk
    replace D_ci23_11 := D_ci23_11.ext hk
    obtain ⟨v10_22, ev⟩ : ∃ v, sl a22 10 = v := ⟨_, rfl⟩
    rw [ev] at e10
    have D_v10_22 : Rd W22 (SF w [b8_11, bo, bm]) (strsD (fv (getV x name))) v10_22 := fr_end (M := [b8_11, bo, bm]) e10 kw [] in_nil (in_cons own_b8_11.lt (in_cons own_bo.lt (in_cons own_bm.lt in_nil)))
    replace e10 := ev; clear ev
    obtain ⟨v10_22a, v10_22c, ev, D2⟩ := rdS_out D_v10_22
    subst ev; replace D_v10_22 := D2; clear D2
    have e11 : sl a22 11 = (.int .i64 (ce (getV x name))) := e11
    replace own_bo := own_bo.ext hk
    replace own_bm := own_bm.ext hk
    replace own_b8_11 := own_b8_11.ext hk
    replace kw := kw.x hk
    clear hR hk hg hP
    refine tail_nil (hK21 _ _ ?_)
    refine wp_seq_k fun K23 hK23 => ?_
    refine wp_seq_k fun K24 hK24 => ?_
    refine rg mixed y22 zz22 ?_
    refine .i (sp_move (hbs rfl e11)) ?_
    refine .i (sp_neq (hlc rfl) Has.cst) ?_
    refine .done ⟨by kernel_rfl, fun a25 g W25 y25 zz25 hk hg hV hR hP => ?_⟩
    obtain ⟨e37, -, -⟩ := hV
    replace e0 := (hR 0 rfl).trans e0
    replace e1 := (hR 1 rfl).trans e1
    replace e7 := (hR 7 rfl).trans e7
    replace e10 := (hR 10 rfl).trans e10
    replace e11 := (hR 11 rfl).trans e11
    replace D_cn := D_cn.ext hk
    replace D_ci := D_ci.ext hk
    replace D_v10_22 := D_v10_22.ext hk
    replace e37 := e37.q
    replace own_bo := own_bo.ext hk
    replace own_bm := own_bm.ext hk
    replace own_b8_11 := own_b8_11.ext hk
    replace kw := kw.x hk
    clear hR hk hg hP
    refine tail_nil (hK24 _ _ ?_)
    refine wp_cond_split e37 (fun hc => ?_) (fun hc => ?_)
    ·
     have hce : ce (getV x name) ≠ 0 := by simpa using hc
     have h1 : tkE x e name ce = failK x.k e (ce (getV x name)) := by rw [tkE, if_neg (by simp [hE]), if_neg (by simp [hg1]), failK, if_pos hE]
     have h2 : tkB x e name ce = false := by simp [tkB, hce]
     have h3 : tkA x A e name ce = A := by rw [tkA, h2]; rfl
     refine wp_seq_k fun K26 hK26 => ?_
     refine wp_reg (fun k => k ∉ [bo]) (Ψ := fun W => Own W bo [(.int .u8 (x.k)), (.int .i64 (x.n)), (.string (x.t)), (.slice cna (x.ns.length) cnc), (.slice cia (x.xs.length) cic), (.map (some bm)), (.int .i64 (e))] 74) mixed y25 zz25 stE_own own_bo ?_
     refine .i (sp_move (hbs rfl e0)) ?_
     refine .i (sp_move (hbs rfl e11)) ?_
     refine .callL2 (φ1 := Is (.pointer (some ⟨bo, 0, none⟩))) (φ2 := Is (.int .i64 (ce (getV x name)))) (φ := Is (.tuple #[])) (Ψ' := fun W => Own W bo [(.int .u8 (x.k)), (.int .i64 (x.n)), (.string (x.t)), (.slice cna (x.ns.length) cnc), (.slice cia (x.xs.length) cic), (.map (some bm)), (.int .i64 (failK x.k e (ce (getV x name))))] 74) ent22 (hlc rfl) (hlc rfl) (st_is _) stE_own (fun g u1 u2 W hk hg h1 h2 hP => by have h1 : u1 = _ := h1; subst u1; have h2 : u2 = _ := h2; subst u2; exact (Fail_ok _ _ _ _ _ _ _ (ce (getV x name)) W _ hP)) ?_
     refine .done ⟨by kernel_rfl, fun a27 g W27 y27 zz27 hk hg hV hR hP => ?_⟩
     obtain ⟨-, -, -, -⟩ := hV
     replace e7 := (hR 7 rfl).trans e7
     replace D_cn := sa_keepL D_cn hk (by simp)
     replace D_ci := sa_keepL D_ci hk (by simp)
     replace D_v10_22 := sf_keepL D_v10_22 hk (by simp)
     replace own_bm := ownM_keepL own_bm hk (by simp [hne.symm])
     replace own_b8_11 := own_keepL own_b8_11 hk (by simp [ne_bo_b8_11.symm])
     have own_bo := hP
     replace own_bo : Own W27 bo [(.int .u8 (x.k)), (.int .i64 (x.n)), (.string (x.t)), (.slice cna (x.ns.length) cnc), (.slice cia (x.xs.length) cic), (.map (some bm)), (.int .i64 (failK x.k e (ce (getV x name))))] 74 := own_bo
     replace kw := keeps_L kw hk (in_cons (.inr (by simp)) in_nil)
     clear hR hk hg hP
     refine tail_nil (hK26 _ _ ?_)
     refine wp_seq_k fun K28 hK28 => ?_
     refine rg mixed y27 zz27 ?_
     refine .i (sp_move (hbs rfl e7)) ?_
     refine .i (sp_assign (hlc rfl)) ?_
     refine .done ⟨by kernel_rfl, fun a29 g W29 y29 zz29 hk hg hV hR hP => ?_⟩
     obtain ⟨e6, -, -⟩ := hV
     replace D_cn := D_cn.ext hk
     replace D_ci := D_ci.ext hk
     have e6 : sl a29 6 = (.slice none 0 0) := e6
     replace own_bo := own_bo.ext hk
     replace own_bm := own_bm.ext hk
     replace own_b8_11 := own_b8_11.ext hk
     replace kw := kw.x hk
     clear hR hk hg hP
     refine tail_nil (hK28 _ _ ?_)
     refine wp_ret ?_
     refine (show bodyPost Try.prog Try.f98 _ .ret _ _ from ret1 rfl zz29 e6 ⟨_, rfl, kw, ?_⟩)
     rw [h1, h3, h2]
     exact ⟨rd_nil _, own_bo, own_bm⟩
    ·
     have hce : ce (getV x name) = 0 := by simpa using hc
     have h1 : tkE x e name ce = e := by rw [tkE, if_neg (by simp [hE]), if_neg (by simp [hg1]), hce, he0]
     have h2 : tkB x e name ce = true := by simp [tkB, hE, hg1, hce]
     have h3 : tkA x A e name ce = mset A name (mget A name + 1) := by rw [tkA, h2]; rfl
     refine wp_skip (hK23 _ _ ?_)
     refine wp_seq_k fun K30 hK30 => ?_
     refine rg mixed y25 zz25 ?_
     refine .i (sp_move (hbs rfl e0)) ?_
     refine .i (sp_nilP (hlc rfl)) ?_
     refine .i (fo 5 (hlc rfl) Try.underlying74 rfl sz72 rfl) ?_
     refine .i (lo1 (hlc rfl) own_bo trivial agg72 sz72 rfl) ?_
     refine .i (sp_move (hbs rfl e1)) ?_
     refine .i (sp_lookup Try.underlying72 Try.underlying9 z3 (hlc rfl) (hlc rfl) own_bm trivial) ?_
     refine .i (sp_add (hlc rfl) Has.cst (i64_in (by omega))) ?_
     refine .done ⟨by kernel_rfl, fun a31 g W31 y31 zz31 hk hg hV hR hP => ?_⟩
     obtain ⟨e48, -, e46, e45, -, -, -, -⟩ := hV
     replace e10 := (hR 10 rfl).trans e10
     replace D_cn := D_cn.ext hk
     replace D_ci := D_ci.ext hk
     replace D_v10_22 := D_v10_22.ext hk
     have e45 : sl a31 45 = (.map (some bm)) := e45
     have e46 : sl a31 46 = (.string (name)) := e46
     replace e48 := e48.q
     replace own_bo := own_bo.ext hk
     replace own_bm := own_bm.ext hk
     replace own_b8_11 := own_b8_11.ext hk
     replace kw := kw.x hk
     clear hR hk hg hP
     refine tail_updM Try.underlying72 Try.underlying9 e45 e46 e48 own_bm (fun W32 hs own_bm => ?_)
     have own_bm : OwnM W32 bm (mset A name ((mget A name : Int) + (1 : Int))) := own_bm
     replace own_bo := own_store own_bo hs hne
     replace own_b8_11 := own_store own_b8_11 hs ne_bm_b8_11.symm
     replace D_cn := sa_store D_cn hs (by simp)
     replace D_ci := sa_store D_ci hs (by simp)
     replace D_v10_22 := sf_store D_v10_22 hs (by simp)
     replace kw := keeps_storeN kw hs (by simp)
     clear hs
     refine tail_nil (hK30 _ _ ?_)
     refine wp_seq_k fun K33 hK33 => ?_
     refine rg mixed y31 zz31 ?_
     refine .i (sp_move (hbs rfl e10)) ?_
     refine .i (sp_assign (hlc rfl)) ?_
     refine .done ⟨by kernel_rfl, fun a34 g W34 y34 zz34 hk hg hV hR hP => ?_⟩
     obtain ⟨e6, -, -⟩ := hV
     replace D_cn := D_cn.ext hk
     replace D_ci := D_ci.ext hk
     replace D_v10_22 := D_v10_22.ext hk
     replace e6 := e6.q
     replace own_bo := own_bo.ext hk
     replace own_bm := own_bm.ext hk
     replace own_b8_11 := own_b8_11.ext hk
     replace kw := kw.x hk
     clear hR hk hg hP
     refine tail_nil (hK33 _ _ ?_)
     refine wp_ret ?_
     refine (show bodyPost Try.prog Try.f98 _ .ret _ _ from ret1 rfl zz34 e6 ⟨_, rfl, kw, ?_⟩)
     rw [h1, h3, h2]
     exact ⟨sf_fr D_v10_22, own_bo, own_bm⟩
set_option maxRecDepth 100000 in
theorem takeI_ok (x : V) (A : As) (e : Int) (hA : AB 1000000 A) (hx : x.wt ≤ 1073741824) (hxt : x.t.size ≤ maxLen) (name : ByteArray) (fi : FuncId) (cb : Array Value) (ce : V → Int) (fv : V → Int) (w : World) (S : BSet) (cn ci : Value) (bo bm : Nat) (hS : ∀ b o, S b o → Cln o) (hM : ∀ b ∈ [bo, bm], ∀ o, ¬ S b o) (hne : bo ≠ bm) (hv : Rd w S (strsD x.ns) cn) (hu : Rd w S (valsD x.xs) ci) (own_bo : Own w bo [.int .u8 x.k, .int .i64 x.n, .string x.t, cn, ci, .map (some bm), .int .i64 (e)] 74) (own_bm : OwnM w bm A) (ef : Enters Try.prog fi) (hf : ∀ W, Keeps (fun k => k ∉ [bo, bm]) w W → ∀ (y : V) (v : Value), y.wt ≤ 1073741824 → Rd W (Fr w) y.d v → Calls Try.prog fi (#[v] ++ cb) W (Ret W fun r _ => r = .tuple #[.int .i64 (fv y), .int .i64 (ce y)])) : Calls Try.prog 104 #[.pointer (some ⟨bo, 0, none⟩), .string name, .func (.func fi) #[] cb] w (RetL w [bo, bm] fun u W => u = .int .i64 (if tkB x e name ce then fv (getV x name) else 0) ∧ Own W bo [.int .u8 x.k, .int .i64 x.n, .string x.t, cn, ci, .map (some bm), .int .i64 (tkE x e name ce)] 74 ∧ OwnM W bm (tkA x A e name ce)) := by
  have hwx := wt_eq x
  have hwl := wts_len x.xs
  have hwn := wtN_len x.ns
  obtain ⟨cna, cnc, ev, D_cn⟩ := rdS_out (rd_argM (M := [bo, bm]) hv hM)
  subst ev
  obtain ⟨cia, cic, ev, D_ci⟩ := rdVs_out (rd_argM (M := [bo, bm]) hu hM)
  subst ev
  refine enter Try.func104 rfl Try.ntmps104 (lbr rfl) fun a0 y0 zz0 harg => ?_
  have e0 : sl a0 0 = (.pointer (some ⟨bo, 0, none⟩)) := harg 0 (lbr rfl)
  have e1 : sl a0 1 = (.string (name)) := harg 1 (lbr rfl)
  have e2 : sl a0 2 = (.func (.func fi) #[] cb) := harg 2 (lbr rfl)
  have kw := Keeps.refl (fun k => k ∉ [bo, bm]) w
  clear harg
  refine wp_seq_k fun K1 hK1 => ?_
  refine rg mixed y0 zz0 ?_
  refine .i (sp_assign Has.cst) ?_
  refine .done ⟨by kernel_rfl, fun a2 g W2 y2 zz2 hk hg hV hR hP => ?_⟩
  obtain ⟨-, -⟩ := hV
  replace e0 := (hR 0 rfl).trans e0
  replace e1 := (hR 1 rfl).trans e1
  replace e2 := (hR 2 rfl).trans e2
  replace D_cn := D_cn.ext hk
  replace D_ci := D_ci.ext hk
  replace own_bo := own_bo.ext hk
  replace own_bm := own_bm.ext hk
  replace kw := kw.x hk
  clear hR hk hg hP
  refine tail_nil (hK1 _ _ ?_)
  refine wp_seq_k fun K3 hK3 => ?_
  refine rg mixed y2 zz2 ?_
  refine .i (sp_assign Has.cst) ?_
  refine .done ⟨by kernel_rfl, fun a4 g W4 y4 zz4 hk hg hV hR hP => ?_⟩
  obtain ⟨e7, -⟩ := hV
  replace e0 := (hR 0 rfl).trans e0
  replace e1 := (hR 1 rfl).trans e1
  replace e2 := (hR 2 rfl).trans e2
  replace D_cn := D_cn.ext hk
  replace D_ci := D_ci.ext hk
  have e7 : sl a4 7 = (.int .i64 (0)) := e7
  replace own_bo := own_bo.ext hk
  replace own_bm := own_bm.ext hk
  replace kw := kw.x hk
  clear hR hk hg hP
  refine tail_nil (hK3 _ _ ?_)
  refine wp_seq_k fun K5 hK5 => ?_
  refine wp_seq_k fun K6 hK6 => ?_
  refine rg mixed y4 zz4 ?_
  refine .i (sp_move (hbs rfl e0)) ?_
  refine .i (v := (.int .i64 (errK x.k e))) (sp_call1 (φ1 := Is (.pointer (some ⟨bo, 0, none⟩))) ent24 (hlc rfl) (fun g u1 W hk hgk h1 => by have h1 : u1 = _ := h1; subst u1; exact Err_ok _ _ _ _ _ _ _ W _ (own_bo.ext hk))) ?_
  refine .i (sp_neq (hlc rfl) Has.cst) ?_
  refine .done ⟨by kernel_rfl, fun a7 g W7 y7 zz7 hk hg hV hR hP => ?_⟩
  obtain ⟨e14, -, -, -⟩ := hV
  replace e0 := (hR 0 rfl).trans e0
  replace e1 := (hR 1 rfl).trans e1
  replace e2 := (hR 2 rfl).trans e2
  replace e7 := (hR 7 rfl).trans e7
  replace D_cn := D_cn.ext hk
  replace D_ci := D_ci.ext hk
  replace e14 := e14.q
  replace own_bo := own_bo.ext hk
  replace own_bm := own_bm.ext hk
  replace kw := kw.x hk
  clear hR hk hg hP
  refine tail_nil (hK6 _ _ ?_)
  refine wp_cond_split e14 (fun hc => ?_) (fun hc => ?_)
  ·
   have hE : errK x.k e ≠ 0 := by simpa using hc
   have h1 : tkE x e name ce = e := by rw [tkE, if_pos hE]
   have h2 : tkB x e name ce = false := by simp [tkB, hE]
   have h3 : tkA x A e name ce = A := by rw [tkA, h2]; rfl
   refine wp_seq_k fun K8 hK8 => ?_
   refine rg mixed y7 zz7 ?_
   refine .i (sp_move (hbs rfl e7)) ?_
   refine .i (sp_assign (hlc rfl)) ?_
   refine .done ⟨by kernel_rfl, fun a9 g W9 y9 zz9 hk hg hV hR hP => ?_⟩
   obtain ⟨e6, -, -⟩ := hV
   replace D_cn := D_cn.ext hk
   replace D_ci := D_ci.ext hk
   have e6 : sl a9 6 = (.int .i64 (0)) := e6
   replace own_bo := own_bo.ext hk
   replace own_bm := own_bm.ext hk
   replace kw := kw.x hk
   clear hR hk hg hP
   refine tail_nil (hK8 _ _ ?_)
   refine wp_ret ?_
   refine (show bodyPost Try.prog Try.f104 _ .ret _ _ from ret1 rfl zz9 e6 ⟨_, rfl, kw, ?_⟩)
   rw [h1, h3, h2]
   exact ⟨rfl, own_bo, own_bm⟩
  ·
   have hE : errK x.k e = 0 := by simpa using hc
   have he0 := (errK_zero hE).1
   refine wp_skip (hK5 _ _ ?_)
   refine wp_seq_k fun K10 hK10 => ?_
   refine rg mixed y7 zz7 ?_
   refine .i (sp_move (hbs rfl e0)) ?_
   refine .i (sp_nilP (hlc rfl)) ?_
   refine .i (fo 0 (hlc rfl) Try.underlying74 rfl sz33 rfl) ?_
   refine .i (v := (.agg #[(.int .u8 (x.k)), (.int .i64 (x.n)), (.string (x.t)), (.slice cna (x.ns.length) cnc), (.slice cia (x.xs.length) cic)])) (loA (hlc rfl) own_bo trivial agg33 sz33 rfl rfl) ?_
   refine .i (sp_move (hbs rfl e1)) ?_
   refine .op (φ := IsT (IsD (Fr W7) (V.d (getV (x) name))) (Is (.bool (getB (x) name)))) (st_t (st_d sub_all) (st_is _)) (sp_call2 (φ1 := IsD (SA w S [bo, bm]) (V.d (x))) (φ2 := Is (.string (name))) ent101 ((hlc rfl).dat (rdV_in (x := x) hxt D_cn D_ci : Rd W7 (SA w S [bo, bm]) (V.d (x)) _) sub_all) (hlc rfl) (fun g u1 u2 W hk hgk h1 h2 => by have h2 : u2 = _ := h2; subst u2; exact (Get_ok (x) (name) (by omega) W _ _ (fun b o h => sa_cln hS b o h.1) h1).mono (fun _ _ ⟨v, h1, h2, r1, h3, h4⟩ => ⟨v, h1, h2, r1, _, h3, fresh_d hk hgk h4, rfl⟩))) ?_
   refine .op (φ := IsT (IsD (Fr W7) (V.d (getV (x) name))) (Is (.bool (getB (x) name)))) (st_t (st_d sub_all) (st_is _)) (sp_move (hlc rfl)) ?_
   refine .da (X := Fr W7) (e := V.d (getV (x) name)) (sp_ext2 (hlc rfl) rfl) ?_
   refine .i (v := (.bool (getB (x) name))) (sp_ext2' (hlc rfl) rfl) ?_
   refine .alloc z33 ?_
   refine .done ⟨by kernel_rfl, fun a11 g W11 y11 zz11 hk hg hV hR hP => ?_⟩
   obtain ⟨⟨b8_11, e8, hb8, own_b8_11⟩, e24, e23, -, -, -, -, -, -, -, -⟩ := hV
   have lo_b8_11 : w.heap.size ≤ b8_11 := Nat.le_trans kw.size (hg.lo _ _ hb8)
   have ne_bo_b8_11 : bo ≠ b8_11 := Nat.ne_of_lt (Nat.lt_of_lt_of_le own_bo.lt (hg.lo _ _ hb8))
   have ne_bm_b8_11 : bm ≠ b8_11 := Nat.ne_of_lt (Nat.lt_of_lt_of_le own_bm.lt (hg.lo _ _ hb8))
   have own_b8_11 : Own W11 b8_11 [(.int .u8 (0)), (.int .i64 (0)), (.string (⟨#[]⟩)), (.slice none 0 0), (.slice none 0 0)] 33 := own_b8_11
   replace e0 := (hR 0 rfl).trans e0
   replace e1 := (hR 1 rfl).trans e1
   replace e2 := (hR 2 rfl).trans e2
   replace e7 := (hR 7 rfl).trans e7
   replace D_cn := sa_more D_cn hk [b8_11] (in_cons (hg.lo _ _ hb8) in_nil)
   replace D_ci := sa_more D_ci hk [b8_11] (in_cons (hg.lo _ _ hb8) in_nil)
   obtain ⟨v23_11, ev⟩ : ∃ v, sl a11 23 = v := ⟨_, rfl⟩
   rw [ev] at e23
   have D_v23_11 : Rd W11 (SF w [b8_11, bo, bm]) (V.d (getV (x) name)) v23_11 := fr_end (M := [bo, bm]) e23 kw [b8_11] (in_cons ⟨_, hb8⟩ in_nil) (in_cons own_bo.lt (in_cons own_bm.lt in_nil))
   replace e23 := ev; clear ev
   obtain ⟨cn23_11a, cn23_11c, ci23_11a, ci23_11c, ev, ht_v23_11, D_cn23_11, D_ci23_11⟩ := rdV_out D_v23_11
   subst ev; clear D_v23_11
   have e24 : sl a11 24 = (.bool (getB (x) name)) := e24
   replace own_bo := own_bo.ext hk
   replace own_bm := own_bm.ext hk
   replace kw := kw.x hk
   clear hR hk hg hP hb8
   refine tail_store (b := b8_11) (o := 0) (v := (.agg #[(.int .u8 ((getV (x) name).k)), (.int .i64 ((getV (x) name).n)), (.string ((getV (x) name).t)), (.slice cn23_11a (((getV (x) name).ns).length) cn23_11c), (.slice ci23_11a (((getV (x) name).xs).length) ci23_11c)])) e8 e23 sz33 rfl own_b8_11 (lbr rfl) (all_cons rfl (all_cons rfl (all_cons rfl (all_cons rfl (all_cons rfl all_nil))))) (fun W12 hs own_b8_11 => ?_)
   have own_b8_11 : Own W12 b8_11 [(.int .u8 ((getV (x) name).k)), (.int .i64 ((getV (x) name).n)), (.string ((getV (x) name).t)), (.slice cn23_11a (((getV (x) name).ns).length) cn23_11c), (.slice ci23_11a (((getV (x) name).xs).length) ci23_11c)] 33 := own_b8_11
   replace own_bo := own_store own_bo hs ne_bo_b8_11
   replace own_bm := ownM_store own_bm hs ne_bm_b8_11
   replace D_cn := sa_store D_cn hs (by simp)
   replace D_ci := sa_store D_ci hs (by simp)
   replace D_cn23_11 := sf_store D_cn23_11 hs (by simp)
   replace D_ci23_11 := sf_store D_ci23_11 hs (by simp)
   replace kw := keeps_store kw hs lo_b8_11
   clear hs
   refine tail_assign (v := (.bool (getB (x) name))) e24 (by rw [y11]; exact Nat.le_of_ble_eq_true rfl) (fun a13 y13 zz13 e9 hr => ?_)
   replace y13 := y13.trans y11; replace zz13 := zz13.trans zz11
   replace e0 := (hr 0 (by decide)).trans e0
   replace e1 := (hr 1 (by decide)).trans e1
   replace e2 := (hr 2 (by decide)).trans e2
   replace e7 := (hr 7 (by decide)).trans e7
   replace e8 := (hr 8 (by decide)).trans e8
   replace e23 := (hr 23 (by decide)).trans e23
   replace e24 := (hr 24 (by decide)).trans e24
   clear hr
   refine tail_nil (hK10 _ _ ?_)
   refine wp_seq_k fun K14 hK14 => ?_
   refine wp_seq_k fun K15 hK15 => ?_
   refine rg mixed y13 zz13 ?_
   refine .i (sp_move (hbs rfl e9)) ?_
   refine .i (sp_not (hlc rfl)) ?_
   refine .done ⟨by kernel_rfl, fun a16 g W16 y16 zz16 hk hg hV hR hP => ?_⟩
   obtain ⟨e26, -, -⟩ := hV
   replace e0 := (hR 0 rfl).trans e0
   replace e1 := (hR 1 rfl).trans e1
   replace e2 := (hR 2 rfl).trans e2
   replace e7 := (hR 7 rfl).trans e7
   replace e8 := (hR 8 rfl).trans e8
   replace D_cn := D_cn.ext hk
   replace D_ci := D_ci.ext hk
   replace D_cn23_11 := D_cn23_11.ext hk
   replace D_ci23_11 := D_ci23_11.ext hk
   have e26 : sl a16 26 = (.bool (!(getB (x) name))) := e26
   replace own_bo := own_bo.ext hk
   replace own_bm := own_bm.ext hk
   replace own_b8_11 := own_b8_11.ext hk
   replace kw := kw.x hk
   clear hR hk hg hP
   refine tail_nil (hK15 _ _ ?_)
   refine wp_cond_split e26 (fun hc => ?_) (fun hc => ?_)
   ·
    have hg0 : getB x name = false := by simpa using hc
    have h1 : tkE x e name ce = failK x.k e 6 := by rw [tkE, if_neg (by simp [hE]), if_pos hg0, failK, if_pos hE]
    have h2 : tkB x e name ce = false := by simp [tkB, hg0]
    have h3 : tkA x A e name ce = A := by rw [tkA, h2]; rfl
    refine wp_seq_k fun K17 hK17 => ?_
    refine wp_reg (fun k => k ∉ [bo]) (Ψ := fun W => Own W bo [(.int .u8 (x.k)), (.int .i64 (x.n)), (.string (x.t)), (.slice cna (x.ns.length) cnc), (.slice cia (x.xs.length) cic), (.map (some bm)), (.int .i64 (e))] 74) mixed y16 zz16 stE_own own_bo ?_
    refine .i (sp_move (hbs rfl e0)) ?_
    refine .callL2 (φ1 := Is (.pointer (some ⟨bo, 0, none⟩))) (φ2 := Is (.int .i64 (6))) (φ := Is (.tuple #[])) (Ψ' := fun W => Own W bo [(.int .u8 (x.k)), (.int .i64 (x.n)), (.string (x.t)), (.slice cna (x.ns.length) cnc), (.slice cia (x.xs.length) cic), (.map (some bm)), (.int .i64 (failK x.k e 6))] 74) ent22 (hlc rfl) Has.cst (st_is _) stE_own (fun g u1 u2 W hk hg h1 h2 hP => by have h1 : u1 = _ := h1; subst u1; have h2 : u2 = _ := h2; subst u2; exact (Fail_ok _ _ _ _ _ _ _ (6) W _ hP)) ?_
    refine .done ⟨by kernel_rfl, fun a18 g W18 y18 zz18 hk hg hV hR hP => ?_⟩
    obtain ⟨-, -, -⟩ := hV
    replace e7 := (hR 7 rfl).trans e7
    replace D_cn := sa_keepL D_cn hk (by simp)
    replace D_ci := sa_keepL D_ci hk (by simp)
    replace D_cn23_11 := sf_keepL D_cn23_11 hk (by simp)
    replace D_ci23_11 := sf_keepL D_ci23_11 hk (by simp)
    replace own_bm := ownM_keepL own_bm hk (by simp [hne.symm])
    replace own_b8_11 := own_keepL own_b8_11 hk (by simp [ne_bo_b8_11.symm])
    have own_bo := hP
    replace own_bo : Own W18 bo [(.int .u8 (x.k)), (.int .i64 (x.n)), (.string (x.t)), (.slice cna (x.ns.length) cnc), (.slice cia (x.xs.length) cic), (.map (some bm)), (.int .i64 (failK x.k e 6))] 74 := own_bo
    replace kw := keeps_L kw hk (in_cons (.inr (by simp)) in_nil)
    clear hR hk hg hP
    refine tail_nil (hK17 _ _ ?_)
    refine wp_seq_k fun K19 hK19 => ?_
    refine rg mixed y18 zz18 ?_
    refine .i (sp_move (hbs rfl e7)) ?_
    refine .i (sp_assign (hlc rfl)) ?_
    refine .done ⟨by kernel_rfl, fun a20 g W20 y20 zz20 hk hg hV hR hP => ?_⟩
    obtain ⟨e6, -, -⟩ := hV
    replace D_cn := D_cn.ext hk
    replace D_ci := D_ci.ext hk
    have e6 : sl a20 6 = (.int .i64 (0)) := e6
    replace own_bo := own_bo.ext hk
    replace own_bm := own_bm.ext hk
    replace own_b8_11 := own_b8_11.ext hk
    replace kw := kw.x hk
    clear hR hk hg hP
    refine tail_nil (hK19 _ _ ?_)
    refine wp_ret ?_
    refine (show bodyPost Try.prog Try.f104 _ .ret _ _ from ret1 rfl zz20 e6 ⟨_, rfl, kw, ?_⟩)
    rw [h1, h3, h2]
    exact ⟨rfl, own_bo, own_bm⟩
   ·
    have hg1 : getB x name = true := by simpa using hc
    have hAn := hA name
    have hwg := Nat.le_trans (getV_wt x name) hx
    refine wp_skip (hK14 _ _ ?_)
    refine wp_seq_k fun K21 hK21 => ?_
    refine rg mixed y16 zz16 ?_
    refine .i (sp_move (hbs rfl e2)) ?_
    refine .i (v := (.agg #[(.int .u8 ((getV (x) name).k)), (.int .i64 ((getV (x) name).n)), (.string ((getV (x) name).t)), (.slice cn23_11a (((getV (x) name).ns).length) cn23_11c), (.slice ci23_11a (((getV (x) name).xs).length) ci23_11c)])) (loA (hbs rfl e8) own_b8_11 trivial agg33 sz33 rfl rfl) ?_
    refine .i (v := (.tuple #[(.int .i64 (fv (getV x name))), (.int .i64 (ce (getV x name)))])) (sp_callF1 ef (hlc rfl) (hlc rfl) (fun g W hk hgk => hf W (kw.trans (.of_ext hk)) _ _ hwg (sf_fr (Rd.ext (rdV_in (x := (getV (x) name)) ht_v23_11 D_cn23_11 D_ci23_11 : Rd W16 (SF w [b8_11, bo, bm]) (V.d ((getV (x) name))) _) hk)))) ?_
    refine .i (sp_move (hlc rfl)) ?_
    refine .i (v := (.int .i64 (fv (getV x name)))) (sp_extT (hlc rfl) rfl) ?_
    refine .i (v := (.int .i64 (ce (getV x name)))) (sp_extT (hlc rfl) rfl) ?_
    refine .i (sp_assign (hlc rfl)) ?_
    refine .i (sp_assign (hlc rfl)) ?_
    refine .done ⟨by kernel_rfl, fun a22 g W22 y22 zz22 hk hg hV hR hP => ?_⟩
    obtain ⟨e11, e10, -, -, -, -, -, -, -⟩ := hV
    replace e0 := (hR 0 rfl).trans e0
    replace e1 := (hR 1 rfl).trans e1
    replace e7 := (hR 7 rfl).trans e7
    replace D_cn := D_cn.ext hk
    replace D_ci := D_ci.ext hk
    replace D_cn23_11 := D_cn23_11.ext hk
    replace D_ci23_11 := D_ci23_11.ext hk
    have e10 : sl a22 10 = (.int .i64 (fv (getV x name))) := e10
    have e11 : sl a22 11 = (.int .i64 (ce (getV x name))) := e11
    replace own_bo := own_bo.ext hk
    replace own_bm := own_bm.ext hk
    replace own_b8_11 := own_b8_11.ext hk
    replace kw := kw.x hk
    clear hR hk hg hP
    refine tail_nil (hK21 _ _ ?_)
    refine wp_seq_k fun K23 hK23 => ?_
    refine wp_seq_k fun K24 hK24 => ?_
    refine rg mixed y22 zz22 ?_
    refine .i (sp_move (hbs rfl e11)) ?_
    refine .i (sp_neq (hlc rfl) Has.cst) ?_
    refine .done ⟨by kernel_rfl, fun a25 g W25 y25 zz25 hk hg hV hR hP => ?_⟩
    obtain ⟨e37, -, -⟩ := hV
    replace e0 := (hR 0 rfl).trans e0
    replace e1 := (hR 1 rfl).trans e1
    replace e7 := (hR 7 rfl).trans e7
    replace e10 := (hR 10 rfl).trans e10
    replace e11 := (hR 11 rfl).trans e11
    replace D_cn := D_cn.ext hk
    replace D_ci := D_ci.ext hk
    replace e37 := e37.q
    replace own_bo := own_bo.ext hk
    replace own_bm := own_bm.ext hk
    replace own_b8_11 := own_b8_11.ext hk
    replace kw := kw.x hk
    clear hR hk hg hP
    refine tail_nil (hK24 _ _ ?_)
    refine wp_cond_split e37 (fun hc => ?_) (fun hc => ?_)
    ·
     have hce : ce (getV x name) ≠ 0 := by simpa using hc
     have h1 : tkE x e name ce = failK x.k e (ce (getV x name)) := by rw [tkE, if_neg (by simp [hE]), if_neg (by simp [hg1]), failK, if_pos hE]
     have h2 : tkB x e name ce = false := by simp [tkB, hce]
     have h3 : tkA x A e name ce = A := by rw [tkA, h2]; rfl
     refine wp_seq_k fun K26 hK26 => ?_
     refine wp_reg (fun k => k ∉ [bo]) (Ψ := fun W => Own W bo [(.int .u8 (x.k)), (.int .i64 (x.n)), (.string (x.t)), (.slice cna (x.ns.length) cnc), (.slice cia (x.xs.length) cic), (.map (some bm)), (.int .i64 (e))] 74) mixed y25 zz25 stE_own own_bo ?_
     refine .i (sp_move (hbs rfl e0)) ?_
     refine .i (sp_move (hbs rfl e11)) ?_
     refine .callL2 (φ1 := Is (.pointer (some ⟨bo, 0, none⟩))) (φ2 := Is (.int .i64 (ce (getV x name)))) (φ := Is (.tuple #[])) (Ψ' := fun W => Own W bo [(.int .u8 (x.k)), (.int .i64 (x.n)), (.string (x.t)), (.slice cna (x.ns.length) cnc), (.slice cia (x.xs.length) cic), (.map (some bm)), (.int .i64 (failK x.k e (ce (getV x name))))] 74) ent22 (hlc rfl) (hlc rfl) (st_is _) stE_own (fun g u1 u2 W hk hg h1 h2 hP => by have h1 : u1 = _ := h1; subst u1; have h2 : u2 = _ := h2; subst u2; exact (Fail_ok _ _ _ _ _ _ _ (ce (getV x name)) W _ hP)) ?_
     refine .done ⟨by kernel_rfl, fun a27 g W27 y27 zz27 hk hg hV hR hP => ?_⟩
     obtain ⟨-, -, -, -⟩ := hV
     replace e7 := (hR 7 rfl).trans e7
     replace D_cn := sa_keepL D_cn hk (by simp)
     replace D_ci := sa_keepL D_ci hk (by simp)
     replace own_bm := ownM_keepL own_bm hk (by simp [hne.symm])
     replace own_b8_11 := own_keepL own_b8_11 hk (by simp [ne_bo_b8_11.symm])
     have own_bo := hP
     replace own_bo : Own W27 bo [(.int .u8 (x.k)), (.int .i64 (x.n)), (.string (x.t)), (.slice cna (x.ns.length) cnc), (.slice cia (x.xs.length) cic), (.map (some bm)), (.int .i64 (failK x.k e (ce (getV x name))))] 74 := own_bo
     replace kw := keeps_L kw hk (in_cons (.inr (by simp)) in_nil)
     clear hR hk hg hP
     refine tail_nil (hK26 _ _ ?_)
     refine wp_seq_k fun K28 hK28 => ?_
     refine rg mixed y27 zz27 ?_
     refine .i (sp_move (hbs rfl e7)) ?_
     refine .i (sp_assign (hlc rfl)) ?_
     refine .done ⟨by kernel_rfl, fun a29 g W29 y29 zz29 hk hg hV hR hP => ?_⟩
     obtain ⟨e6, -, -⟩ := hV
     replace D_cn := D_cn.ext hk
     replace D_ci := D_ci.ext hk
     have e6 : sl a29 6 = (.int .i64 (0)) := e6
     replace own_bo := own_bo.ext hk
     replace own_bm := own_bm.ext hk
     replace own_b8_11 := own_b8_11.ext hk
     replace kw := kw.x hk
     clear hR hk hg hP
     refine tail_nil (hK28 _ _ ?_)
     refine wp_ret ?_
     refine (show bodyPost Try.prog Try.f104 _ .ret _ _ from ret1 rfl zz29 e6 ⟨_, rfl, kw, ?_⟩)
     rw [h1, h3, h2]
     exact ⟨rfl, own_bo, own_bm⟩
    ·
     have hce : ce (getV x name) = 0 := by simpa using hc
     have h1 : tkE x e name ce = e := by rw [tkE, if_neg (by simp [hE]), if_neg (by simp [hg1]), hce, he0]
     have h2 : tkB x e name ce = true := by simp [tkB, hE, hg1, hce]
     have h3 : tkA x A e name ce = mset A name (mget A name + 1) := by rw [tkA, h2]; rfl
     refine wp_skip (hK23 _ _ ?_)
     refine wp_seq_k fun K30 hK30 => ?_
     refine rg mixed y25 zz25 ?_
     refine .i (sp_move (hbs rfl e0)) ?_
     refine .i (sp_nilP (hlc rfl)) ?_
     refine .i (fo 5 (hlc rfl) Try.underlying74 rfl sz72 rfl) ?_
     refine .i (lo1 (hlc rfl) own_bo trivial agg72 sz72 rfl) ?_
     refine .i (sp_move (hbs rfl e1)) ?_
     refine .i (sp_lookup Try.underlying72 Try.underlying9 z3 (hlc rfl) (hlc rfl) own_bm trivial) ?_
     refine .i (sp_add (hlc rfl) Has.cst (i64_in (by omega))) ?_
     refine .done ⟨by kernel_rfl, fun a31 g W31 y31 zz31 hk hg hV hR hP => ?_⟩
     obtain ⟨e48, -, e46, e45, -, -, -, -⟩ := hV
     replace e10 := (hR 10 rfl).trans e10
     replace D_cn := D_cn.ext hk
     replace D_ci := D_ci.ext hk
     have e45 : sl a31 45 = (.map (some bm)) := e45
     have e46 : sl a31 46 = (.string (name)) := e46
     replace e48 := e48.q
     replace own_bo := own_bo.ext hk
     replace own_bm := own_bm.ext hk
     replace own_b8_11 := own_b8_11.ext hk
     replace kw := kw.x hk
     clear hR hk hg hP
     refine tail_updM Try.underlying72 Try.underlying9 e45 e46 e48 own_bm (fun W32 hs own_bm => ?_)
     have own_bm : OwnM W32 bm (mset A name ((mget A name : Int) + (1 : Int))) := own_bm
     replace own_bo := own_store own_bo hs hne
     replace own_b8_11 := own_store own_b8_11 hs ne_bm_b8_11.symm
     replace D_cn := sa_store D_cn hs (by simp)
     replace D_ci := sa_store D_ci hs (by simp)
     replace kw := keeps_storeN kw hs (by simp)
     clear hs
     refine tail_nil (hK30 _ _ ?_)
     refine wp_seq_k fun K33 hK33 => ?_
     refine rg mixed y31 zz31 ?_
     refine .i (sp_move (hbs rfl e10)) ?_
     refine .i (sp_assign (hlc rfl)) ?_
     refine .done ⟨by kernel_rfl, fun a34 g W34 y34 zz34 hk hg hV hR hP => ?_⟩
     obtain ⟨e6, -, -⟩ := hV
     replace D_cn := D_cn.ext hk
     replace D_ci := D_ci.ext hk
     have e6 : sl a34 6 = (.int .i64 (fv (getV x name))) := e6
     replace own_bo := own_bo.ext hk
     replace own_bm := own_bm.ext hk
     replace own_b8_11 := own_b8_11.ext hk
     replace kw := kw.x hk
     clear hR hk hg hP
     refine tail_nil (hK33 _ _ ?_)
     refine wp_ret ?_
     refine (show bodyPost Try.prog Try.f104 _ .ret _ _ from ret1 rfl zz34 e6 ⟨_, rfl, kw, ?_⟩)
     rw [h1, h3, h2]
     exact ⟨rfl, own_bo, own_bm⟩
end Go.Proofs.Ytnobijngkpflcaa
namespace Go.Proofs.Ytnobijngkpflcaa
open Go.Eng
set_option maxRecDepth 100000 in
theorem Texts_ok (x : V) (A : As) (e : Int) (hA : AB 1000000 A) (hx : x.wt ≤ 1073741824) (hxt : x.t.size ≤ maxLen) (name : ByteArray) (most : Int) (w : World) (S : BSet) (cn ci : Value) (bo bm : Nat) (hS : ∀ b o, S b o → Cln o) (hM : ∀ b ∈ [bo, bm], ∀ o, ¬ S b o) (hne : bo ≠ bm) (hv : Rd w S (strsD x.ns) cn) (hu : Rd w S (valsD x.xs) ci) (own_bo : Own w bo [.int .u8 x.k, .int .i64 x.n, .string x.t, cn, ci, .map (some bm), .int .i64 (e)] 74) (own_bm : OwnM w bm A) : Calls Try.prog 41 #[.pointer (some ⟨bo, 0, none⟩), .string name, .int .i64 most] w (RetL w [bo, bm] fun u W => Rd W (Fr w) (strsD (if tkB x e name (textsE most) then textsL most (getV x name) else [])) u ∧ Own W bo [.int .u8 x.k, .int .i64 x.n, .string x.t, cn, ci, .map (some bm), .int .i64 (tkE x e name (textsE most))] 74 ∧ OwnM W bm (tkA x A e name (textsE most))) := by
  obtain ⟨cna, cnc, ev, D_cn⟩ := rdS_out (rd_argM (M := [bo, bm]) hv hM)
  subst ev
  obtain ⟨cia, cic, ev, D_ci⟩ := rdVs_out (rd_argM (M := [bo, bm]) hu hM)
  subst ev
  refine enter Try.func41 rfl Try.ntmps41 (lbr rfl) fun a0 y0 zz0 harg => ?_
  have e0 : sl a0 0 = (.pointer (some ⟨bo, 0, none⟩)) := harg 0 (lbr rfl)
  have e1 : sl a0 1 = (.string (name)) := harg 1 (lbr rfl)
  have e2 : sl a0 2 = (.int .i64 (most)) := harg 2 (lbr rfl)
  have kw := Keeps.refl (fun k => k ∉ [bo, bm]) w
  clear harg
  refine wp_seq_k fun K1 hK1 => ?_
  refine rg mixed y0 zz0 ?_
  refine .boxOp (v := (.int .i64 (most))) (hbs rfl e2) ?_
  refine .i (sp_assign Has.cst) ?_
  refine .done ⟨by kernel_rfl, fun a2 g W2 y2 zz2 hk hg hV hR hP => ?_⟩
  obtain ⟨-, ⟨b5_2, e5, hb5, own_b5_2⟩, -⟩ := hV
  have lo_b5_2 : w.heap.size ≤ b5_2 := Nat.le_trans kw.size (hg.lo _ _ hb5)
  have ne_bo_b5_2 : bo ≠ b5_2 := Nat.ne_of_lt (Nat.lt_of_lt_of_le own_bo.lt (hg.lo _ _ hb5))
  have ne_bm_b5_2 : bm ≠ b5_2 := Nat.ne_of_lt (Nat.lt_of_lt_of_le own_bm.lt (hg.lo _ _ hb5))
  have own_b5_2 : Own W2 b5_2 [(.int .i64 (most))] 3 := own_b5_2
  replace e0 := (hR 0 rfl).trans e0
  replace e1 := (hR 1 rfl).trans e1
  replace D_cn := sa_more D_cn hk [b5_2] (in_cons (hg.lo _ _ hb5) in_nil)
  replace D_ci := sa_more D_ci hk [b5_2] (in_cons (hg.lo _ _ hb5) in_nil)
  replace own_bo := own_bo.ext hk
  replace own_bm := own_bm.ext hk
  replace kw := kw.x hk
  clear hR hk hg hP hb5
  refine tail_nil (hK1 _ _ ?_)
  refine wp_seq_k fun K3 hK3 => ?_
  refine wp_reg (fun k => k ∉ [bo, bm]) (Ψ := fun W => Own W bo [(.int .u8 (x.k)), (.int .i64 (x.n)), (.string (x.t)), (.slice cna (x.ns.length) cnc), (.slice cia (x.xs.length) cic), (.map (some bm)), (.int .i64 (e))] 74 ∧ OwnM W bm (A)) mixed y2 zz2 (stE_and stE_own stE_ownM) ⟨own_bo, own_bm⟩ ?_
  refine .i (sp_move (hbs rfl e0)) ?_
  refine .i (sp_move (hbs rfl e1)) ?_
  refine .i (v := (.func (.func 99) #[] #[(.pointer (some ⟨b5_2, 0, none⟩))])) (sp_mkF1 (hbs rfl e5)) ?_
  refine .callL3 (φ1 := Is (.pointer (some ⟨bo, 0, none⟩))) (φ2 := Is (.string (name))) (φ3 := Is (.func (.func 99) #[] #[(.pointer (some ⟨b5_2, 0, none⟩))])) (φ := IsD (Fr W2) (strsD (if tkB x e name (textsE most) then textsL most (getV x name) else []))) (Ψ' := fun W => Own W bo [(.int .u8 (x.k)), (.int .i64 (x.n)), (.string (x.t)), (.slice cna (x.ns.length) cnc), (.slice cia (x.xs.length) cic), (.map (some bm)), (.int .i64 (tkE x e name (textsE most)))] 74 ∧ OwnM W bm (tkA x A e name (textsE most))) ent98 (hlc rfl) (hlc rfl) (hlc rfl) (st_d (sub_frnl (in_cons own_bo.lt (in_cons own_bm.lt in_nil)))) (stE_and stE_own stE_ownM) (fun g u1 u2 u3 W hk hg h1 h2 h3 hP => by have h1 : u1 = _ := h1; subst u1; have h2 : u2 = _ := h2; subst u2; have h3 : u3 = _ := h3; subst u3; exact (takeS_ok (x) (A) (e) hA hx hxt name 99 #[(.pointer (some ⟨b5_2, 0, none⟩))] (textsE most) (textsL most) W _ _ _ _ _ (sa_cln hS) (sa_notin (by simp)) hne (sa_keepL D_cn hk (by simp)) (sa_keepL D_ci hk (by simp)) hP.1 hP.2 ent99 (fun W2 hk2 y v hy hv2 => texts1_ok y most hy W2 _ v b5_2 hv2 (own_keepL (own_keepL own_b5_2 hk (by simp [ne_bo_b5_2.symm, ne_bm_b5_2.symm])) hk2 (by simp [ne_bo_b5_2.symm, ne_bm_b5_2.symm])))).mono (fun _ _ ⟨v, h1, h2, h3, h4⟩ => ⟨v, h1, h2, fresh_d hk hg h3, h4⟩)) ?_
  refine .op (φ := IsD (Fr W2) (strsD (if tkB x e name (textsE most) then textsL most (getV x name) else []))) (st_d (sub_frnl (in_cons own_bo.lt (in_cons own_bm.lt in_nil)))) (sp_assign (hlc rfl)) ?_
  refine .done ⟨by kernel_rfl, fun a4 g W4 y4 zz4 hk hg hV hR hP => ?_⟩
  obtain ⟨e6, -, -, -, -, -⟩ := hV
  obtain ⟨v6_4, ev⟩ : ∃ v, sl a4 6 = v := ⟨_, rfl⟩
  rw [ev] at e6
  have D_v6_4 : Rd W4 (SF w [b5_2, bo, bm]) (strsD (if tkB x e name (textsE most) then textsL most (getV x name) else [])) v6_4 := fr_end (M := [b5_2, bo, bm]) e6 kw [] in_nil (in_cons own_b5_2.lt (in_cons own_bo.lt (in_cons own_bm.lt in_nil)))
  replace e6 := ev; clear ev
  obtain ⟨v6_4a, v6_4c, ev, D2⟩ := rdS_out D_v6_4
  subst ev; replace D_v6_4 := D2; clear D2
  replace D_cn := sa_keepL D_cn hk (by simp)
  replace D_ci := sa_keepL D_ci hk (by simp)
  replace own_b5_2 := own_keepL own_b5_2 hk (by simp [ne_bo_b5_2.symm, ne_bm_b5_2.symm])
  obtain ⟨own_bo, own_bm⟩ := hP
  replace own_bo : Own W4 bo [(.int .u8 (x.k)), (.int .i64 (x.n)), (.string (x.t)), (.slice cna (x.ns.length) cnc), (.slice cia (x.xs.length) cic), (.map (some bm)), (.int .i64 (tkE x e name (textsE most)))] 74 := own_bo
  replace own_bm : OwnM W4 bm (tkA x A e name (textsE most)) := own_bm
  replace kw := keeps_L kw hk (in_cons (.inr (by simp)) (in_cons (.inr (by simp)) in_nil))
  clear hR hk hg
  refine tail_nil (hK3 _ _ ?_)
  refine wp_ret ?_
  refine (show bodyPost Try.prog Try.f41 _ .ret _ _ from ret1 rfl zz4 e6 ⟨_, rfl, kw, ?_⟩)
  exact ⟨sf_fr D_v6_4, own_bo, own_bm⟩
set_option maxRecDepth 100000 in
theorem Num_ok (x : V) (A : As) (e : Int) (hA : AB 1000000 A) (hx : x.wt ≤ 1073741824) (hxt : x.t.size ≤ maxLen) (name : ByteArray) (lo hi : Int) (w : World) (S : BSet) (cn ci : Value) (bo bm : Nat) (hS : ∀ b o, S b o → Cln o) (hM : ∀ b ∈ [bo, bm], ∀ o, ¬ S b o) (hne : bo ≠ bm) (hv : Rd w S (strsD x.ns) cn) (hu : Rd w S (valsD x.xs) ci) (own_bo : Own w bo [.int .u8 x.k, .int .i64 x.n, .string x.t, cn, ci, .map (some bm), .int .i64 (e)] 74) (own_bm : OwnM w bm A) : Calls Try.prog 44 #[.pointer (some ⟨bo, 0, none⟩), .string name, .int .i64 lo, .int .i64 hi] w (RetL w [bo, bm] fun u W => u = .int .i64 (if tkB x e name (numE lo hi) then numV lo hi (getV x name) else 0) ∧ Own W bo [.int .u8 x.k, .int .i64 x.n, .string x.t, cn, ci, .map (some bm), .int .i64 (tkE x e name (numE lo hi))] 74 ∧ OwnM W bm (tkA x A e name (numE lo hi))) := by
  obtain ⟨cna, cnc, ev, D_cn⟩ := rdS_out (rd_argM (M := [bo, bm]) hv hM)
  subst ev
  obtain ⟨cia, cic, ev, D_ci⟩ := rdVs_out (rd_argM (M := [bo, bm]) hu hM)
  subst ev
  refine enter Try.func44 rfl Try.ntmps44 (lbr rfl) fun a0 y0 zz0 harg => ?_
  have e0 : sl a0 0 = (.pointer (some ⟨bo, 0, none⟩)) := harg 0 (lbr rfl)
  have e1 : sl a0 1 = (.string (name)) := harg 1 (lbr rfl)
  have e2 : sl a0 2 = (.int .i64 (lo)) := harg 2 (lbr rfl)
  have e3 : sl a0 3 = (.int .i64 (hi)) := harg 3 (lbr rfl)
  have kw := Keeps.refl (fun k => k ∉ [bo, bm]) w
  clear harg
  refine wp_seq_k fun K1 hK1 => ?_
  refine rg mixed y0 zz0 ?_
  refine .boxOp (v := (.int .i64 (lo))) (hbs rfl e2) ?_
  refine .boxOp (v := (.int .i64 (hi))) (hbs rfl e3) ?_
  refine .i (sp_assign Has.cst) ?_
  refine .done ⟨by kernel_rfl, fun a2 g W2 y2 zz2 hk hg hV hR hP => ?_⟩
  obtain ⟨-, ⟨b7_2, e7, hb7, own_b7_2⟩, ⟨b6_2, e6, hb6, own_b6_2⟩, -⟩ := hV
  have lo_b7_2 : w.heap.size ≤ b7_2 := Nat.le_trans kw.size (hg.lo _ _ hb7)
  have ne_bo_b7_2 : bo ≠ b7_2 := Nat.ne_of_lt (Nat.lt_of_lt_of_le own_bo.lt (hg.lo _ _ hb7))
  have ne_bm_b7_2 : bm ≠ b7_2 := Nat.ne_of_lt (Nat.lt_of_lt_of_le own_bm.lt (hg.lo _ _ hb7))
  have own_b7_2 : Own W2 b7_2 [(.int .i64 (hi))] 2 := own_b7_2
  have lo_b6_2 : w.heap.size ≤ b6_2 := Nat.le_trans kw.size (hg.lo _ _ hb6)
  have ne_bo_b6_2 : bo ≠ b6_2 := Nat.ne_of_lt (Nat.lt_of_lt_of_le own_bo.lt (hg.lo _ _ hb6))
  have ne_bm_b6_2 : bm ≠ b6_2 := Nat.ne_of_lt (Nat.lt_of_lt_of_le own_bm.lt (hg.lo _ _ hb6))
  have own_b6_2 : Own W2 b6_2 [(.int .i64 (lo))] 2 := own_b6_2
  have ne_b7_2_b6_2 : b7_2 ≠ b6_2 := fun h => by have := hg.inj _ _ _ hb7 (h ▸ hb6); cases this
  replace e0 := (hR 0 rfl).trans e0
  replace e1 := (hR 1 rfl).trans e1
  replace D_cn := sa_more D_cn hk [b7_2, b6_2] (in_cons (hg.lo _ _ hb7) (in_cons (hg.lo _ _ hb6) in_nil))
  replace D_ci := sa_more D_ci hk [b7_2, b6_2] (in_cons (hg.lo _ _ hb7) (in_cons (hg.lo _ _ hb6) in_nil))
  replace own_bo := own_bo.ext hk
  replace own_bm := own_bm.ext hk
  replace kw := kw.x hk
  clear hR hk hg hP hb7 hb6
  refine tail_nil (hK1 _ _ ?_)
  refine wp_seq_k fun K3 hK3 => ?_
  refine wp_reg (fun k => k ∉ [bo, bm]) (Ψ := fun W => Own W bo [(.int .u8 (x.k)), (.int .i64 (x.n)), (.string (x.t)), (.slice cna (x.ns.length) cnc), (.slice cia (x.xs.length) cic), (.map (some bm)), (.int .i64 (e))] 74 ∧ OwnM W bm (A)) mixed y2 zz2 (stE_and stE_own stE_ownM) ⟨own_bo, own_bm⟩ ?_
  refine .i (sp_move (hbs rfl e0)) ?_
  refine .i (sp_move (hbs rfl e1)) ?_
  refine .i (v := (.func (.func 105) #[] #[(.pointer (some ⟨b6_2, 0, none⟩)), (.pointer (some ⟨b7_2, 0, none⟩))])) (sp_mkF2 (hbs rfl e6) (hbs rfl e7)) ?_
  refine .callL3 (φ1 := Is (.pointer (some ⟨bo, 0, none⟩))) (φ2 := Is (.string (name))) (φ3 := Is (.func (.func 105) #[] #[(.pointer (some ⟨b6_2, 0, none⟩)), (.pointer (some ⟨b7_2, 0, none⟩))])) (φ := Is (.int .i64 (if tkB x e name (numE lo hi) then numV lo hi (getV x name) else 0))) (Ψ' := fun W => Own W bo [(.int .u8 (x.k)), (.int .i64 (x.n)), (.string (x.t)), (.slice cna (x.ns.length) cnc), (.slice cia (x.xs.length) cic), (.map (some bm)), (.int .i64 (tkE x e name (numE lo hi)))] 74 ∧ OwnM W bm (tkA x A e name (numE lo hi))) ent104 (hlc rfl) (hlc rfl) (hlc rfl) (st_is _) (stE_and stE_own stE_ownM) (fun g u1 u2 u3 W hk hg h1 h2 h3 hP => by have h1 : u1 = _ := h1; subst u1; have h2 : u2 = _ := h2; subst u2; have h3 : u3 = _ := h3; subst u3; exact (takeI_ok (x) (A) (e) hA hx hxt name 105 #[(.pointer (some ⟨b6_2, 0, none⟩)), (.pointer (some ⟨b7_2, 0, none⟩))] (numE lo hi) (numV lo hi) W _ _ _ _ _ (sa_cln hS) (sa_notin (by simp)) hne (sa_keepL D_cn hk (by simp)) (sa_keepL D_ci hk (by simp)) hP.1 hP.2 ent105 (fun W2 hk2 y v hy hv2 => num1_ok y lo hi W2 _ v b6_2 b7_2 hv2 (own_keepL (own_keepL own_b6_2 hk (by simp [ne_bo_b6_2.symm, ne_bm_b6_2.symm])) hk2 (by simp [ne_bo_b6_2.symm, ne_bm_b6_2.symm])) (own_keepL (own_keepL own_b7_2 hk (by simp [ne_bo_b7_2.symm, ne_bm_b7_2.symm])) hk2 (by simp [ne_bo_b7_2.symm, ne_bm_b7_2.symm]))))) ?_
  refine .i (sp_assign (hlc rfl)) ?_
  refine .done ⟨by kernel_rfl, fun a4 g W4 y4 zz4 hk hg hV hR hP => ?_⟩
  obtain ⟨e8, -, -, -, -, -⟩ := hV
  replace e8 := e8.q
  replace D_cn := sa_keepL D_cn hk (by simp)
  replace D_ci := sa_keepL D_ci hk (by simp)
  replace own_b7_2 := own_keepL own_b7_2 hk (by simp [ne_bo_b7_2.symm, ne_bm_b7_2.symm])
  replace own_b6_2 := own_keepL own_b6_2 hk (by simp [ne_bo_b6_2.symm, ne_bm_b6_2.symm])
  obtain ⟨own_bo, own_bm⟩ := hP
  replace own_bo : Own W4 bo [(.int .u8 (x.k)), (.int .i64 (x.n)), (.string (x.t)), (.slice cna (x.ns.length) cnc), (.slice cia (x.xs.length) cic), (.map (some bm)), (.int .i64 (tkE x e name (numE lo hi)))] 74 := own_bo
  replace own_bm : OwnM W4 bm (tkA x A e name (numE lo hi)) := own_bm
  replace kw := keeps_L kw hk (in_cons (.inr (by simp)) (in_cons (.inr (by simp)) in_nil))
  clear hR hk hg
  refine tail_nil (hK3 _ _ ?_)
  refine wp_ret ?_
  refine (show bodyPost Try.prog Try.f44 _ .ret _ _ from ret1 rfl zz4 e8 ⟨_, rfl, kw, ?_⟩)
  exact ⟨rfl, own_bo, own_bm⟩
set_option maxRecDepth 100000 in
theorem Done_ok (x : V) (A : As) (e : Int) (w : World) (S : BSet) (cn ci : Value) (bo bm : Nat) (hv : Rd w S (strsD x.ns) cn) (own_bo : Own w bo [.int .u8 x.k, .int .i64 x.n, .string x.t, cn, ci, .map (some bm), .int .i64 (e)] 74) (own_bm : OwnM w bm A) : Calls Try.prog 32 #[.pointer (some ⟨bo, 0, none⟩)] w (Ret w fun u _ => u = .int .i64 (doneE x A e)) := by
  have hmn := rd_lenS hv
  simp only [maxLen] at hmn
  obtain ⟨cna, cnc, ev, D_cn⟩ := rdS_out (rd_arg hv)
  subst ev
  refine enter Try.func32 rfl Try.ntmps32 (lbr rfl) fun a0 y0 zz0 harg => ?_
  have e0 : sl a0 0 = (.pointer (some ⟨bo, 0, none⟩)) := harg 0 (lbr rfl)
  have kw := Keeps.refl All w
  clear harg
  refine wp_seq_k fun K1 hK1 => ?_
  refine rg mixed y0 zz0 ?_
  refine .i (sp_assign Has.cst) ?_
  refine .done ⟨by kernel_rfl, fun a2 g W2 y2 zz2 hk hg hV hR hP => ?_⟩
  obtain ⟨-, -⟩ := hV
  replace e0 := (hR 0 rfl).trans e0
  replace D_cn := D_cn.ext hk
  replace own_bo := own_bo.ext hk
  replace own_bm := own_bm.ext hk
  replace kw := kw.x hk
  clear hR hk hg hP
  refine tail_nil (hK1 _ _ ?_)
  refine wp_seq_k fun K3 hK3 => ?_
  refine wp_seq_k fun K4 hK4 => ?_
  refine rg mixed y2 zz2 ?_
  refine .i (sp_move (hbs rfl e0)) ?_
  refine .i (v := (.int .i64 (errK x.k e))) (sp_call1 (φ1 := Is (.pointer (some ⟨bo, 0, none⟩))) ent24 (hlc rfl) (fun g u1 W hk hgk h1 => by have h1 : u1 = _ := h1; subst u1; exact Err_ok _ _ _ _ _ _ _ W _ (own_bo.ext hk))) ?_
  refine .i (sp_assign (hlc rfl)) ?_
  refine .done ⟨by kernel_rfl, fun a5 g W5 y5 zz5 hk hg hV hR hP => ?_⟩
  obtain ⟨e3, -, -, -⟩ := hV
  replace e0 := (hR 0 rfl).trans e0
  replace D_cn := D_cn.ext hk
  have e3 : sl a5 3 = (.int .i64 (errK x.k e)) := e3
  replace own_bo := own_bo.ext hk
  replace own_bm := own_bm.ext hk
  replace kw := kw.x hk
  clear hR hk hg hP
  refine tail_nil (hK4 _ _ ?_)
  refine wp_seq_k fun K6 hK6 => ?_
  refine rg mixed y5 zz5 ?_
  refine .i (sp_move (hbs rfl e3)) ?_
  refine .i (sp_neq (hlc rfl) Has.cst) ?_
  refine .done ⟨by kernel_rfl, fun a7 g W7 y7 zz7 hk hg hV hR hP => ?_⟩
  obtain ⟨e9, -, -⟩ := hV
  replace e0 := (hR 0 rfl).trans e0
  replace e3 := (hR 3 rfl).trans e3
  replace D_cn := D_cn.ext hk
  replace e9 := e9.q
  replace own_bo := own_bo.ext hk
  replace own_bm := own_bm.ext hk
  replace kw := kw.x hk
  clear hR hk hg hP
  refine tail_nil (hK6 _ _ ?_)
  refine wp_cond_split e9 (fun hc => ?_) (fun hc => ?_)
  ·
   have hE : errK x.k e ≠ 0 := by simpa using hc
   have hf : doneE x A e = errK x.k e := by rw [doneE, if_pos hE]
   refine wp_seq_k fun K8 hK8 => ?_
   refine rg mixed y7 zz7 ?_
   refine .i (sp_move (hbs rfl e3)) ?_
   refine .i (sp_assign (hlc rfl)) ?_
   refine .done ⟨by kernel_rfl, fun a9 g W9 y9 zz9 hk hg hV hR hP => ?_⟩
   obtain ⟨e2, -, -⟩ := hV
   replace D_cn := D_cn.ext hk
   have e2 : sl a9 2 = (.int .i64 (errK x.k e)) := e2
   replace own_bo := own_bo.ext hk
   replace own_bm := own_bm.ext hk
   replace kw := kw.x hk
   clear hR hk hg hP
   refine tail_nil (hK8 _ _ ?_)
   refine wp_ret ?_
   refine (show bodyPost Try.prog Try.f32 _ .ret _ _ from ret1 rfl zz9 e2 ⟨_, rfl, kw, ?_⟩)
   rw [hf]
  ·
   have hE : errK x.k e = 0 := by simpa using hc
   refine wp_skip (hK3 _ _ ?_)
   refine wp_seq_k fun K10 hK10 => ?_
   refine wp_seq_k fun K11 hK11 => ?_
   refine rg mixed y7 zz7 ?_
   refine .i (sp_move (hbs rfl e0)) ?_
   refine .i (sp_nilP (hlc rfl)) ?_
   refine .i (fo 0 (hlc rfl) Try.underlying74 rfl sz33 rfl) ?_
   refine .i (fo 3 (hlc rfl) Try.underlying33 rfl sz23 rfl) ?_
   refine .i (lo1 (hlc rfl) own_bo trivial agg23 sz23 rfl) ?_
   refine .i (sp_lenSs Try.underlying23 ((hlc rfl).dat D_cn sub_all)) ?_
   refine .i (sp_move Has.cst) ?_
   refine .done ⟨by kernel_rfl, fun a12 g W12 y12 zz12 hk hg hV hR hP => ?_⟩
   obtain ⟨e17, e16, e15, -, -, -, -, -⟩ := hV
   replace e0 := (hR 0 rfl).trans e0
   replace D_cn := D_cn.ext hk
   have e15 : sl a12 15 = (.slice cna (x.ns.length) cnc) := e15
   have e16 : sl a12 16 = (.int .i64 (x.ns.length)) := e16
   have e17 : sl a12 17 = (.int .i64 (0)) := e17
   replace own_bo := own_bo.ext hk
   replace own_bm := own_bm.ext hk
   replace kw := kw.x hk
   clear hR hk hg hP
   refine tail_nil (hK11 _ _ ?_)
   refine wp_block ?_
   refine wp_for (x.ns.length) (fun k a W => a.tmps.size = 29 ∧ a.defers = [] ∧ Keeps All w W ∧ sl a 0 = (.pointer (some ⟨bo, 0, none⟩)) ∧ sl a 15 = (.slice cna (x.ns.length) cnc) ∧ sl a 16 = (.int .i64 (x.ns.length)) ∧ sl a 17 = (.int .i64 ((k : Nat))) ∧ Own W bo [(.int .u8 (x.k)), (.int .i64 (x.n)), (.string (x.t)), (.slice cna (x.ns.length) cnc), ci, (.map (some bm)), (.int .i64 (e))] 74 ∧ OwnM W bm (A) ∧ Rd W (SA w S []) (strsD (x.ns)) (.slice cna (x.ns.length) cnc) ∧ (∀ i (h : i < x.ns.length), i < k → mget A x.ns[i] ≠ 0)) ⟨y12, zz12, kw, e0, e15, e16, (e17.trans (congrArg (Value.int .i64) (rfl))), own_bo, own_bm, D_cn, fun i h hi => absurd hi (by omega)⟩ ?_
   clear kw e0 e15 e16 e17 own_bo own_bm D_cn
   rintro k a13 W13 hkk ⟨y13, zz13, kw, e0, e15, e16, e17, own_bo, own_bm, D_cn, hinv⟩
   refine wp_seq_k fun K14 hK14 => ?_
   refine rg mixed y13 zz13 ?_
   refine .i (sp_lss (hbs rfl e17) (hbs rfl e16)) ?_
   refine .done ⟨by kernel_rfl, fun a15 g W15 y15 zz15 hk hg hV hR hP => ?_⟩
   obtain ⟨e18, -⟩ := hV
   replace e0 := (hR 0 rfl).trans e0
   replace e15 := (hR 15 rfl).trans e15
   replace e16 := (hR 16 rfl).trans e16
   replace e17 := (hR 17 rfl).trans e17
   replace D_cn := D_cn.ext hk
   replace e18 := e18.q
   replace own_bo := own_bo.ext hk
   replace own_bm := own_bm.ext hk
   replace kw := kw.x hk
   clear hR hk hg hP
   refine tail_nil (hK14 _ _ ?_)
   refine wp_seq_k fun K16 hK16 => ?_
   refine wp_cond_split e18 (fun hc => ?_) (fun hc => ?_)
   ·
    have hlt : k < x.ns.length := by simpa using hc
    refine wp_skip (hK16 _ _ ?_)
    refine wp_seq_k fun K17 hK17 => ?_
    refine wp_block ?_
    refine wp_seq_k fun K18 hK18 => ?_
    refine rg mixed y15 zz15 ?_
    refine .rf (sp_indexS (i := k) ((hbs rfl e15).dat D_cn sub_all) (hbs rfl e17) Try.underlying23 sz9 rfl hlt) ?_
    refine .i (sp_loadStr (hlc rfl) agg9 sz9) ?_
    refine .i (sp_assign (hlc rfl)) ?_
    refine .done ⟨by kernel_rfl, fun a19 g W19 y19 zz19 hk hg hV hR hP => ?_⟩
    obtain ⟨e5, -, -, -⟩ := hV
    replace e0 := (hR 0 rfl).trans e0
    replace e15 := (hR 15 rfl).trans e15
    replace e16 := (hR 16 rfl).trans e16
    replace e17 := (hR 17 rfl).trans e17
    replace D_cn := D_cn.ext hk
    have e5 : sl a19 5 = (.string (x.ns[k]'hlt)) := e5
    replace own_bo := own_bo.ext hk
    replace own_bm := own_bm.ext hk
    replace kw := kw.x hk
    clear hR hk hg hP
    refine tail_nil (hK18 _ _ ?_)
    refine wp_seq_k fun K20 hK20 => ?_
    refine rg mixed y19 zz19 ?_
    refine .i (sp_move (hbs rfl e0)) ?_
    refine .i (sp_nilP (hlc rfl)) ?_
    refine .i (fo 5 (hlc rfl) Try.underlying74 rfl sz72 rfl) ?_
    refine .i (lo1 (hlc rfl) own_bo trivial agg72 sz72 rfl) ?_
    refine .i (sp_move (hbs rfl e5)) ?_
    refine .i (sp_lookup Try.underlying72 Try.underlying9 z3 (hlc rfl) (hlc rfl) own_bm trivial) ?_
    refine .i (sp_eql (hlc rfl) Has.cst) ?_
    refine .done ⟨by kernel_rfl, fun a21 g W21 y21 zz21 hk hg hV hR hP => ?_⟩
    obtain ⟨e27, -, -, -, -, -, -, -⟩ := hV
    replace e0 := (hR 0 rfl).trans e0
    replace e15 := (hR 15 rfl).trans e15
    replace e16 := (hR 16 rfl).trans e16
    replace e17 := (hR 17 rfl).trans e17
    replace D_cn := D_cn.ext hk
    replace e27 := e27.q
    replace own_bo := own_bo.ext hk
    replace own_bm := own_bm.ext hk
    replace kw := kw.x hk
    clear hR hk hg hP
    refine tail_nil (hK20 _ _ ?_)
    refine wp_cond_split e27 (fun hc => ?_) (fun hc => ?_)
    ·
     have h0 : mget A x.ns[k] = 0 := by simpa using hc
     have hf : doneE x A e = 11 := by rw [doneE, if_neg (by simp [hE]), done_false hlt h0]; rfl
     refine wp_seq_k fun K22 hK22 => ?_
     refine rg mixed y21 zz21 ?_
     refine .i (sp_assign Has.cst) ?_
     refine .done ⟨by kernel_rfl, fun a23 g W23 y23 zz23 hk hg hV hR hP => ?_⟩
     obtain ⟨e2, -⟩ := hV
     replace D_cn := D_cn.ext hk
     have e2 : sl a23 2 = (.int .i64 (11)) := e2
     replace own_bo := own_bo.ext hk
     replace own_bm := own_bm.ext hk
     replace kw := kw.x hk
     clear hR hk hg hP
     refine tail_nil (hK22 _ _ ?_)
     refine wp_ret ?_
     refine (show bodyPost Try.prog Try.f32 _ .ret _ _ from ret1 rfl zz23 e2 ⟨_, rfl, kw, ?_⟩)
     rw [hf]
    ·
     have h0 : mget A x.ns[k] ≠ 0 := by simpa using hc
     refine wp_skip (hK17 _ _ ?_)
     refine rg mixed y21 zz21 ?_
     refine .i (sp_add (hbs rfl e17) Has.cst (i64_in (by omega))) ?_
     refine .i (sp_move (hlc rfl)) ?_
     refine .done ⟨by kernel_rfl, fun a24 g W24 y24 zz24 hk hg hV hR hP => ?_⟩
     obtain ⟨e17, -, -⟩ := hV
     replace e0 := (hR 0 rfl).trans e0
     replace e15 := (hR 15 rfl).trans e15
     replace e16 := (hR 16 rfl).trans e16
     replace D_cn := D_cn.ext hk
     replace e17 := e17.q
     replace own_bo := own_bo.ext hk
     replace own_bm := own_bm.ext hk
     replace kw := kw.x hk
     clear hR hk hg hP
     exact tail_nil ⟨hlt, y24, zz24, kw, e0, e15, e16, (e17.trans (congrArg (Value.int .i64) (by simp))), own_bo, own_bm, D_cn, fun i h hi => by rcases Nat.lt_succ_iff_lt_or_eq.1 hi with h1 | h1; exact hinv i h h1; subst h1; exact h0⟩
   ·
    have hge0 : ¬ k < x.ns.length := by simpa using hc
    have hge : k = x.ns.length := by omega
    have hf : doneE x A e = 0 := by rw [doneE, if_neg (by simp [hE]), if_pos (done_true fun i hi => hinv i hi (by omega))]
    refine wp_exit (hK10 _ _ ?_)
    refine wp_seq_k fun K25 hK25 => ?_
    refine rg mixed y15 zz15 ?_
    refine .i (sp_assign Has.cst) ?_
    refine .done ⟨by kernel_rfl, fun a26 g W26 y26 zz26 hk hg hV hR hP => ?_⟩
    obtain ⟨e2, -⟩ := hV
    replace D_cn := D_cn.ext hk
    have e2 : sl a26 2 = (.int .i64 (0)) := e2
    replace own_bo := own_bo.ext hk
    replace own_bm := own_bm.ext hk
    replace kw := kw.x hk
    clear hR hk hg hP
    refine tail_nil (hK25 _ _ ?_)
    refine wp_ret ?_
    refine (show bodyPost Try.prog Try.f32 _ .ret _ _ from ret1 rfl zz26 e2 ⟨_, rfl, kw, ?_⟩)
    rw [hf]
end Go.Proofs.Ytnobijngkpflcaa
namespace Go.Proofs.Ytnobijngkpflcaa
open Go.Eng
set_option maxRecDepth 100000 in
theorem Of_ok (x : V) (hx : x.wt ≤ 1073741824) (hof : ofE x = 0) (w : World) (S : BSet) (v : Value) (hS : ∀ b o, S b o → Cln o) (hv : Rd w S x.d v) : Calls Try.prog 21 #[v] w (Ret w fun u W => PkAt w W 74 x [] 0 u) := by
  have hwx := wt_eq x
  have hwl := wts_len x.xs
  have hwn := wtN_len x.ns
  have hk5 : x.k = 5 ∧ x.ns.length = x.xs.length ∧ asc x.ns = true := by
    unfold ofE at hof
    split at hof
    · cases hof
    · split at hof
      · cases hof
      · rename_i h1 h2
        have h3 : asc x.ns = true := by cases hq : asc x.ns with | true => rfl | false => exact absurd (.inr hq) h2
        exact ⟨by omega, by omega, h3⟩
  obtain ⟨cn0a, cn0c, ci0a, ci0c, ev, ht0, D_cn0, D_ci0⟩ := rdV_out (rd_arg hv)
  subst ev
  refine enter Try.func21 rfl Try.ntmps21 (lbr rfl) fun a0 y0 zz0 harg => ?_
  have e0 : sl a0 0 = (.agg #[(.int .u8 (x.k)), (.int .i64 (x.n)), (.string (x.t)), (.slice cn0a (x.ns.length) cn0c), (.slice ci0a (x.xs.length) ci0c)]) := harg 0 (lbr rfl)
  have kw := Keeps.refl All w
  clear harg
  refine wp_seq_k fun K1 hK1 => ?_
  refine rg mixed y0 zz0 ?_
  refine .boxOp (v := (.agg #[(.int .u8 (x.k)), (.int .i64 (x.n)), (.string (x.t)), (.slice cn0a (x.ns.length) cn0c), (.slice ci0a (x.xs.length) ci0c)])) (hbs rfl e0) ?_
  refine .i (sp_assign Has.cst) ?_
  refine .done ⟨by kernel_rfl, fun a2 g W2 y2 zz2 hk hg hV hR hP => ?_⟩
  obtain ⟨-, ⟨b1_2, e1, hb1, own_b1_2⟩, -⟩ := hV
  have lo_b1_2 : w.heap.size ≤ b1_2 := Nat.le_trans kw.size (hg.lo _ _ hb1)
  have own_b1_2 : Own W2 b1_2 [(.int .u8 (x.k)), (.int .i64 (x.n)), (.string (x.t)), (.slice cn0a (x.ns.length) cn0c), (.slice ci0a (x.xs.length) ci0c)] 33 := own_b1_2
  replace D_cn0 := sa_more D_cn0 hk [b1_2] (in_cons (hg.lo _ _ hb1) in_nil)
  replace D_ci0 := sa_more D_ci0 hk [b1_2] (in_cons (hg.lo _ _ hb1) in_nil)
  replace kw := kw.x hk
  clear hR hk hg hP hb1
  refine tail_nil (hK1 _ _ ?_)
  refine wp_seq_k fun K3 hK3 => ?_
  refine wp_seq_k fun K4 hK4 => ?_
  refine rg mixed y2 zz2 ?_
  refine .i (fo 0 (hbs rfl e1) Try.underlying33 rfl sz5 rfl) ?_
  refine .i (lo1 (hlc rfl) own_b1_2 trivial agg5 sz5 rfl) ?_
  refine .i (sp_neq (hlc rfl) Has.cst) ?_
  refine .done ⟨by kernel_rfl, fun a5 g W5 y5 zz5 hk hg hV hR hP => ?_⟩
  obtain ⟨e6, -, -, -⟩ := hV
  replace e1 := (hR 1 rfl).trans e1
  replace D_cn0 := D_cn0.ext hk
  replace D_ci0 := D_ci0.ext hk
  have e6 : sl a5 6 = (.bool ((x.k : Int) != (5 : Int))) := e6
  replace own_b1_2 := own_b1_2.ext hk
  replace kw := kw.x hk
  clear hR hk hg hP
  refine tail_nil (hK4 _ _ ?_)
  refine wp_cond_split e6 (fun hc => ?_) (fun hc => ?_)
  ·
   exfalso
   simp [hk5.1] at hc
  ·
   refine wp_skip (hK3 _ _ ?_)
   refine wp_seq_k fun K6 hK6 => ?_
   refine wp_seq_k fun K7 hK7 => ?_
   refine rg mixed y5 zz5 ?_
   refine .i (fo 3 (hbs rfl e1) Try.underlying33 rfl sz23 rfl) ?_
   refine .i (lo1 (hlc rfl) own_b1_2 trivial agg23 sz23 rfl) ?_
   refine .i (sp_lenSs Try.underlying23 ((hlc rfl).dat D_cn0 sub_all)) ?_
   refine .i (fo 4 (hbs rfl e1) Try.underlying33 rfl sz31 rfl) ?_
   refine .i (lo1 (hlc rfl) own_b1_2 trivial agg31 sz31 rfl) ?_
   refine .i (sp_lenVs Try.underlying31 ((hlc rfl).dat D_ci0 sub_all)) ?_
   refine .i (sp_neq (hlc rfl) (hlc rfl)) ?_
   refine .done ⟨by kernel_rfl, fun a8 g W8 y8 zz8 hk hg hV hR hP => ?_⟩
   obtain ⟨e15, -, -, -, -, -, -, -⟩ := hV
   replace e1 := (hR 1 rfl).trans e1
   replace D_cn0 := D_cn0.ext hk
   replace D_ci0 := D_ci0.ext hk
   replace e15 := e15.q
   replace own_b1_2 := own_b1_2.ext hk
   replace kw := kw.x hk
   clear hR hk hg hP
   refine tail_nil (hK7 _ _ ?_)
   refine wp_cond_split e15 (fun hc => ?_) (fun hc => ?_)
   ·
    exfalso
    simp [hk5.2.1] at hc
   ·
    refine wp_skip (hK6 _ _ ?_)
    refine wp_seq_k fun K9 hK9 => ?_
    refine wp_seq_k fun K10 hK10 => ?_
    refine rg mixed y8 zz8 ?_
    refine .i (sp_assign Has.cst) ?_
    refine .done ⟨by kernel_rfl, fun a11 g W11 y11 zz11 hk hg hV hR hP => ?_⟩
    obtain ⟨e3, -⟩ := hV
    replace e1 := (hR 1 rfl).trans e1
    replace D_cn0 := D_cn0.ext hk
    replace D_ci0 := D_ci0.ext hk
    have e3 : sl a11 3 = (.int .i64 (1)) := e3
    replace own_b1_2 := own_b1_2.ext hk
    replace kw := kw.x hk
    clear hR hk hg hP
    refine tail_nil (hK10 _ _ ?_)
    refine wp_block ?_
    refine wp_for (x.ns.length) (fun k a W => a.tmps.size = 44 ∧ a.defers = [] ∧ Keeps All w W ∧ sl a 1 = (.pointer (some ⟨b1_2, 0, none⟩)) ∧ sl a 3 = (.int .i64 (((k + 1 : Nat) : Int))) ∧ Own W b1_2 [(.int .u8 (x.k)), (.int .i64 (x.n)), (.string (x.t)), (.slice cn0a (x.ns.length) cn0c), (.slice ci0a (x.xs.length) ci0c)] 33 ∧ Rd W (SA w S [b1_2]) (strsD (x.ns)) (.slice cn0a (x.ns.length) cn0c) ∧ Rd W (SA w S [b1_2]) (valsD (x.xs)) (.slice ci0a (x.xs.length) ci0c)) ⟨y11, zz11, kw, e1, (e3.trans (congrArg (Value.int .i64) (rfl))), own_b1_2, D_cn0, D_ci0⟩ ?_
    clear kw e1 e3 own_b1_2 D_cn0 D_ci0
    rintro k a12 W12 hkk ⟨y12, zz12, kw, e1, e3, own_b1_2, D_cn0, D_ci0⟩
    refine wp_seq_k fun K13 hK13 => ?_
    refine wp_seq_k fun K14 hK14 => ?_
    refine rg mixed y12 zz12 ?_
    refine .i (sp_move (hbs rfl e3)) ?_
    refine .i (fo 3 (hbs rfl e1) Try.underlying33 rfl sz23 rfl) ?_
    refine .i (lo1 (hlc rfl) own_b1_2 trivial agg23 sz23 rfl) ?_
    refine .i (sp_lenSs Try.underlying23 ((hlc rfl).dat D_cn0 sub_all)) ?_
    refine .i (sp_lss (hlc rfl) (hlc rfl)) ?_
    refine .done ⟨by kernel_rfl, fun a15 g W15 y15 zz15 hk hg hV hR hP => ?_⟩
    obtain ⟨e22, -, -, -, -, -⟩ := hV
    replace e1 := (hR 1 rfl).trans e1
    replace e3 := (hR 3 rfl).trans e3
    replace D_cn0 := D_cn0.ext hk
    replace D_ci0 := D_ci0.ext hk
    replace e22 := e22.q
    replace own_b1_2 := own_b1_2.ext hk
    replace kw := kw.x hk
    clear hR hk hg hP
    refine tail_nil (hK14 _ _ ?_)
    refine wp_cond_split e22 (fun hc => ?_) (fun hc => ?_)
    ·
     have hlt : k + 1 < x.ns.length := by have := of_decide_eq_true hc; omega
     refine wp_skip (hK13 _ _ ?_)
     refine wp_seq_k fun K16 hK16 => ?_
     refine wp_block ?_
     refine wp_seq_k fun K17 hK17 => ?_
     refine rg mixed y15 zz15 ?_
     refine .i (fo 3 (hbs rfl e1) Try.underlying33 rfl sz23 rfl) ?_
     refine .i (lo1 (hlc rfl) own_b1_2 trivial agg23 sz23 rfl) ?_
     refine .i (sp_move (hbs rfl e3)) ?_
     refine .i (sp_sub (hlc rfl) Has.cst (i64_in (by omega))) ?_
     refine .rf (sp_indexS (i := k) ((hlc rfl).dat D_cn0 sub_all) (hlc rfl) Try.underlying23 sz9 (by omega) (by omega)) ?_
     refine .i (sp_loadStr (hlc rfl) agg9 sz9) ?_
     refine .i (fo 3 (hbs rfl e1) Try.underlying33 rfl sz23 rfl) ?_
     refine .i (lo1 (hlc rfl) own_b1_2 trivial agg23 sz23 rfl) ?_
     refine .i (sp_move (hbs rfl e3)) ?_
     refine .rf (sp_indexS (i := (k + 1)) ((hlc rfl).dat D_cn0 sub_all) (hlc rfl) Try.underlying23 sz9 rfl hlt) ?_
     refine .i (sp_loadStr (hlc rfl) agg9 sz9) ?_
     refine .i (sp_sGeq (hlc rfl) (hlc rfl)) ?_
     refine .done ⟨by kernel_rfl, fun a18 g W18 y18 zz18 hk hg hV hR hP => ?_⟩
     obtain ⟨e36, -, -, -, -, -, -, -, -, -, -, -, -⟩ := hV
     replace e1 := (hR 1 rfl).trans e1
     replace e3 := (hR 3 rfl).trans e3
     replace D_cn0 := D_cn0.ext hk
     replace D_ci0 := D_ci0.ext hk
     replace e36 := e36.q
     replace own_b1_2 := own_b1_2.ext hk
     replace kw := kw.x hk
     clear hR hk hg hP
     refine tail_nil (hK17 _ _ ?_)
     refine wp_cond_split e36 (fun hc => ?_) (fun hc => ?_)
     ·
      exfalso
      have h1 := (asc_iff x.ns).1 hk5.2.2 k hlt
      simp [h1] at hc
     ·
      refine wp_skip (hK16 _ _ ?_)
      refine rg mixed y18 zz18 ?_
      refine .i (sp_move (hbs rfl e3)) ?_
      refine .i (sp_add (hlc rfl) Has.cst (i64_in (by omega))) ?_
      refine .i (sp_assign (hlc rfl)) ?_
      refine .done ⟨by kernel_rfl, fun a19 g W19 y19 zz19 hk hg hV hR hP => ?_⟩
      obtain ⟨e3, -, -, -⟩ := hV
      replace e1 := (hR 1 rfl).trans e1
      replace D_cn0 := D_cn0.ext hk
      replace D_ci0 := D_ci0.ext hk
      replace e3 := e3.q
      replace own_b1_2 := own_b1_2.ext hk
      replace kw := kw.x hk
      clear hR hk hg hP
      exact tail_nil ⟨by omega, y19, zz19, kw, e1, (e3.trans (congrArg (Value.int .i64) (by omega))), own_b1_2, D_cn0, D_ci0⟩
    ·
     refine wp_exit (hK9 _ _ ?_)
     refine wp_seq_k fun K20 hK20 => ?_
     refine rg mixed y15 zz15 ?_
     refine .i (v := (.agg #[(.int .u8 (x.k)), (.int .i64 (x.n)), (.string (x.t)), (.slice cn0a (x.ns.length) cn0c), (.slice ci0a (x.xs.length) ci0c)])) (loA (hbs rfl e1) own_b1_2 trivial agg33 sz33 rfl rfl) ?_
     refine .da (X := Fr W15) (e := V.d (x)) (sp_call1 (φ1 := IsD (SA w S [b1_2]) (V.d (x))) ent79 ((hlc rfl).dat (rdV_in (x := x) ht0 D_cn0 D_ci0 : Rd W15 (SA w S [b1_2]) (V.d (x)) _) sub_all) (fun g u1 W hk hgk h1 => (Copy_ok (x) (by first | omega | exact Nat.le_of_ble_eq_true (by kernel_rfl)) W _ _ (fun b o h => sa_cln hS b o h.1) h1).mono (ret_fr hk hgk))) ?_
     refine .done ⟨by kernel_rfl, fun a21 g W21 y21 zz21 hk hg hV hR hP => ?_⟩
     obtain ⟨e40, -, -⟩ := hV
     replace D_cn0 := D_cn0.ext hk
     replace D_ci0 := D_ci0.ext hk
     obtain ⟨v40_21, ev⟩ : ∃ v, sl a21 40 = v := ⟨_, rfl⟩
     rw [ev] at e40
     have D_v40_21 : Rd W21 (SF w [b1_2]) (V.d (x)) v40_21 := fr_end (M := [b1_2]) e40 kw [] in_nil (in_cons own_b1_2.lt in_nil)
     replace e40 := ev; clear ev
     obtain ⟨cn40_21a, cn40_21c, ci40_21a, ci40_21c, ev, ht_v40_21, D_cn40_21, D_ci40_21⟩ := rdV_out D_v40_21
     subst ev; clear D_v40_21
     replace own_b1_2 := own_b1_2.ext hk
     replace kw := kw.x hk
     clear hR hk hg hP
     refine tail_reg 1 All y21 zz21 st_tr trivial rfl ?_
     refine .mkMap ?_
     refine .done ⟨by kernel_rfl, fun a22 g W22 y22 zz22 hk hg hV hR hP => ?_⟩
     refine tail_nil ?_
     show runTail _ _ _ _ _ _
     obtain ⟨⟨b41_22, e41, hb41, own_b41_22⟩, -⟩ := hV
     have lo_b41_22 : w.heap.size ≤ b41_22 := Nat.le_trans kw.size (hg.lo _ _ hb41)
     have ne_b1_2_b41_22 : b1_2 ≠ b41_22 := Nat.ne_of_lt (Nat.lt_of_lt_of_le own_b1_2.lt (hg.lo _ _ hb41))
     have own_b41_22 : OwnM W22 b41_22 ([]) := own_b41_22
     replace e40 := (hR 40 rfl).trans e40
     replace D_cn40_21 := sf_more D_cn40_21 hk [b41_22] (in_cons (hg.lo _ _ hb41) in_nil)
     replace D_ci40_21 := sf_more D_ci40_21 hk [b41_22] (in_cons (hg.lo _ _ hb41) in_nil)
     replace own_b1_2 := own_b1_2.ext hk
     replace kw := kw.x hk
     clear hR hk hg hP hb41
     refine tail_reg 2 All y22 zz22 st_tr trivial rfl ?_
     refine .i (v := (.agg #[(.int .u8 (x.k)), (.int .i64 (x.n)), (.string (x.t)), (.slice cn40_21a (x.ns.length) cn40_21c), (.slice ci40_21a (x.xs.length) ci40_21c), (.map (some b41_22)), (.int .i64 (0))])) (sp_build (vs := [(0, (.agg #[(.int .u8 (x.k)), (.int .i64 (x.n)), (.string (x.t)), (.slice cn40_21a (x.ns.length) cn40_21c), (.slice ci40_21a (x.xs.length) ci40_21c)])), (1, (.map (some b41_22)))]) Try.underlying74 z74 (pl74 Try.underlying74) ⟨rfl, (hbs rfl e40), rfl, (hbs rfl e41), trivial⟩ (by kernel_rfl)) ?_
     refine .boxOp (v := (.agg #[(.int .u8 (x.k)), (.int .i64 (x.n)), (.string (x.t)), (.slice cn40_21a (x.ns.length) cn40_21c), (.slice ci40_21a (x.xs.length) ci40_21c), (.map (some b41_22)), (.int .i64 (0))])) (hlc rfl) ?_
     refine .done ⟨by kernel_rfl, fun a23 g W23 y23 zz23 hk hg hV hR hP => ?_⟩
     refine tail_nil ?_
     show runTail _ _ _ _ _ _
     obtain ⟨⟨b43_23, e43, hb43, own_b43_23⟩, -, -⟩ := hV
     have lo_b43_23 : w.heap.size ≤ b43_23 := Nat.le_trans kw.size (hg.lo _ _ hb43)
     have ne_b1_2_b43_23 : b1_2 ≠ b43_23 := Nat.ne_of_lt (Nat.lt_of_lt_of_le own_b1_2.lt (hg.lo _ _ hb43))
     have ne_b41_22_b43_23 : b41_22 ≠ b43_23 := Nat.ne_of_lt (Nat.lt_of_lt_of_le own_b41_22.lt (hg.lo _ _ hb43))
     have own_b43_23 : Own W23 b43_23 [(.int .u8 (x.k)), (.int .i64 (x.n)), (.string (x.t)), (.slice cn40_21a (x.ns.length) cn40_21c), (.slice ci40_21a (x.xs.length) ci40_21c), (.map (some b41_22)), (.int .i64 (0))] 74 := own_b43_23
     replace D_cn40_21 := sf_more D_cn40_21 hk [b43_23] (in_cons (hg.lo _ _ hb43) in_nil)
     replace D_ci40_21 := sf_more D_ci40_21 hk [b43_23] (in_cons (hg.lo _ _ hb43) in_nil)
     replace own_b1_2 := own_b1_2.ext hk
     replace own_b41_22 := own_b41_22.ext hk
     replace kw := kw.x hk
     clear hR hk hg hP hb43
     refine tail_assign (v := (.pointer (some ⟨b43_23, 0, none⟩))) e43 (by rw [y23]; exact Nat.le_of_ble_eq_true rfl) (fun a24 y24 zz24 e2 hr => ?_)
     replace y24 := y24.trans y23; replace zz24 := zz24.trans zz23
     replace e43 := (hr 43 (by decide)).trans e43
     clear hr
     refine tail_nil (hK20 _ _ ?_)
     refine wp_ret ?_
     refine (show bodyPost Try.prog Try.f21 _ .ret _ _ from ret1 rfl zz24 e2 ⟨_, rfl, kw, ?_⟩)
     exact ⟨b43_23, b41_22, _, _, rfl, lo_b43_23, lo_b41_22, ne_b41_22_b43_23.symm, own_b43_23, own_b41_22, sf_pkf (by simp) D_cn40_21, sf_pkf (by simp) D_ci40_21, ht_v40_21⟩
set_option maxRecDepth 100000 in
theorem OfD_ok (x : V) (hof : ofE x ≠ 0) (w : World) (S : BSet) (v : Value) (hv : Rd w S x.d v) : Calls Try.prog 21 #[v] w (Ret w fun u W => PkD w W 74 (ofE x) u) := by
  have hmn : x.ns.length ≤ maxLen := by obtain ⟨_, _, _, _, _, _, h, _⟩ := rdV_out hv; exact rd_lenS h
  simp only [maxLen] at hmn
  obtain ⟨cn0a, cn0c, ci0a, ci0c, ev, ht0, D_cn0, D_ci0⟩ := rdV_out (rd_arg hv)
  subst ev
  refine enter Try.func21 rfl Try.ntmps21 (lbr rfl) fun a0 y0 zz0 harg => ?_
  have e0 : sl a0 0 = (.agg #[(.int .u8 (x.k)), (.int .i64 (x.n)), (.string (x.t)), (.slice cn0a (x.ns.length) cn0c), (.slice ci0a (x.xs.length) ci0c)]) := harg 0 (lbr rfl)
  have kw := Keeps.refl All w
  clear harg
  refine wp_seq_k fun K1 hK1 => ?_
  refine rg mixed y0 zz0 ?_
  refine .boxOp (v := (.agg #[(.int .u8 (x.k)), (.int .i64 (x.n)), (.string (x.t)), (.slice cn0a (x.ns.length) cn0c), (.slice ci0a (x.xs.length) ci0c)])) (hbs rfl e0) ?_
  refine .i (sp_assign Has.cst) ?_
  refine .done ⟨by kernel_rfl, fun a2 g W2 y2 zz2 hk hg hV hR hP => ?_⟩
  obtain ⟨-, ⟨b1_2, e1, hb1, own_b1_2⟩, -⟩ := hV
  have lo_b1_2 : w.heap.size ≤ b1_2 := Nat.le_trans kw.size (hg.lo _ _ hb1)
  have own_b1_2 : Own W2 b1_2 [(.int .u8 (x.k)), (.int .i64 (x.n)), (.string (x.t)), (.slice cn0a (x.ns.length) cn0c), (.slice ci0a (x.xs.length) ci0c)] 33 := own_b1_2
  replace D_cn0 := sa_more D_cn0 hk [b1_2] (in_cons (hg.lo _ _ hb1) in_nil)
  replace D_ci0 := sa_more D_ci0 hk [b1_2] (in_cons (hg.lo _ _ hb1) in_nil)
  replace kw := kw.x hk
  clear hR hk hg hP hb1
  refine tail_nil (hK1 _ _ ?_)
  refine wp_seq_k fun K3 hK3 => ?_
  refine wp_seq_k fun K4 hK4 => ?_
  refine rg mixed y2 zz2 ?_
  refine .i (fo 0 (hbs rfl e1) Try.underlying33 rfl sz5 rfl) ?_
  refine .i (lo1 (hlc rfl) own_b1_2 trivial agg5 sz5 rfl) ?_
  refine .i (sp_neq (hlc rfl) Has.cst) ?_
  refine .done ⟨by kernel_rfl, fun a5 g W5 y5 zz5 hk hg hV hR hP => ?_⟩
  obtain ⟨e6, -, -, -⟩ := hV
  replace e1 := (hR 1 rfl).trans e1
  replace D_cn0 := D_cn0.ext hk
  replace D_ci0 := D_ci0.ext hk
  have e6 : sl a5 6 = (.bool ((x.k : Int) != (5 : Int))) := e6
  replace own_b1_2 := own_b1_2.ext hk
  replace kw := kw.x hk
  clear hR hk hg hP
  refine tail_nil (hK4 _ _ ?_)
  refine wp_cond_split e6 (fun hc => ?_) (fun hc => ?_)
  ·
   have hf : ofE x = 10 := by rw [ofE, if_pos (by simp at hc; omega)]
   refine wp_seq_k fun K6 hK6 => ?_
   refine rg mixed y5 zz5 ?_
   refine .i (v := (.agg #[(.int .u8 (0)), (.int .i64 (0)), (.string (⟨#[]⟩)), (.slice none 0 0), (.slice none 0 0), (.map none), (.int .i64 (10))])) (sp_build (vs := [(2, (.int .i64 (10)))]) Try.underlying74 z74 (pl74 Try.underlying74) ⟨rfl, Has.cst, trivial⟩ rfl) ?_
   refine .boxOp (v := (.agg #[(.int .u8 (0)), (.int .i64 (0)), (.string (⟨#[]⟩)), (.slice none 0 0), (.slice none 0 0), (.map none), (.int .i64 (10))])) (hlc rfl) ?_
   refine .done ⟨by kernel_rfl, fun a7 g W7 y7 zz7 hk hg hV hR hP => ?_⟩
   obtain ⟨⟨b8_7, e8, hb8, own_b8_7⟩, -, -⟩ := hV
   have lo_b8_7 : w.heap.size ≤ b8_7 := Nat.le_trans kw.size (hg.lo _ _ hb8)
   have ne_b1_2_b8_7 : b1_2 ≠ b8_7 := Nat.ne_of_lt (Nat.lt_of_lt_of_le own_b1_2.lt (hg.lo _ _ hb8))
   have own_b8_7 : Own W7 b8_7 [(.int .u8 (0)), (.int .i64 (0)), (.string (⟨#[]⟩)), (.slice none 0 0), (.slice none 0 0), (.map none), (.int .i64 (10))] 74 := own_b8_7
   replace D_cn0 := sa_more D_cn0 hk [b8_7] (in_cons (hg.lo _ _ hb8) in_nil)
   replace D_ci0 := sa_more D_ci0 hk [b8_7] (in_cons (hg.lo _ _ hb8) in_nil)
   replace own_b1_2 := own_b1_2.ext hk
   replace kw := kw.x hk
   clear hR hk hg hP hb8
   refine tail_assign (v := (.pointer (some ⟨b8_7, 0, none⟩))) e8 (by rw [y7]; exact Nat.le_of_ble_eq_true rfl) (fun a8 y8 zz8 e2 hr => ?_)
   replace y8 := y8.trans y7; replace zz8 := zz8.trans zz7
   replace e8 := (hr 8 (by decide)).trans e8
   clear hr
   refine tail_nil (hK6 _ _ ?_)
   refine wp_ret ?_
   refine (show bodyPost Try.prog Try.f21 _ .ret _ _ from ret1 rfl zz8 e2 ⟨_, rfl, kw, ?_⟩)
   rw [hf]
   exact ⟨b8_7, rfl, lo_b8_7, own_b8_7⟩
  ·
   have hk : ¬ x.k ≠ 5 := by simp at hc; omega
   refine wp_skip (hK3 _ _ ?_)
   refine wp_seq_k fun K9 hK9 => ?_
   refine wp_seq_k fun K10 hK10 => ?_
   refine rg mixed y5 zz5 ?_
   refine .i (fo 3 (hbs rfl e1) Try.underlying33 rfl sz23 rfl) ?_
   refine .i (lo1 (hlc rfl) own_b1_2 trivial agg23 sz23 rfl) ?_
   refine .i (sp_lenSs Try.underlying23 ((hlc rfl).dat D_cn0 sub_all)) ?_
   refine .i (fo 4 (hbs rfl e1) Try.underlying33 rfl sz31 rfl) ?_
   refine .i (lo1 (hlc rfl) own_b1_2 trivial agg31 sz31 rfl) ?_
   refine .i (sp_lenVs Try.underlying31 ((hlc rfl).dat D_ci0 sub_all)) ?_
   refine .i (sp_neq (hlc rfl) (hlc rfl)) ?_
   refine .done ⟨by kernel_rfl, fun a11 g W11 y11 zz11 hk hg hV hR hP => ?_⟩
   obtain ⟨e15, -, -, -, -, -, -, -⟩ := hV
   replace e1 := (hR 1 rfl).trans e1
   replace D_cn0 := D_cn0.ext hk
   replace D_ci0 := D_ci0.ext hk
   replace e15 := e15.q
   replace own_b1_2 := own_b1_2.ext hk
   replace kw := kw.x hk
   clear hR hk hg hP
   refine tail_nil (hK10 _ _ ?_)
   refine wp_cond_split e15 (fun hc => ?_) (fun hc => ?_)
   ·
    have hf : ofE x = 3 := by rw [ofE, if_neg hk, if_pos (.inl (by simp at hc; omega))]
    refine wp_seq_k fun K12 hK12 => ?_
    refine rg mixed y11 zz11 ?_
    refine .i (v := (.agg #[(.int .u8 (0)), (.int .i64 (0)), (.string (⟨#[]⟩)), (.slice none 0 0), (.slice none 0 0), (.map none), (.int .i64 (3))])) (sp_build (vs := [(2, (.int .i64 (3)))]) Try.underlying74 z74 (pl74 Try.underlying74) ⟨rfl, Has.cst, trivial⟩ rfl) ?_
    refine .boxOp (v := (.agg #[(.int .u8 (0)), (.int .i64 (0)), (.string (⟨#[]⟩)), (.slice none 0 0), (.slice none 0 0), (.map none), (.int .i64 (3))])) (hlc rfl) ?_
    refine .done ⟨by kernel_rfl, fun a13 g W13 y13 zz13 hk hg hV hR hP => ?_⟩
    obtain ⟨⟨b17_13, e17, hb17, own_b17_13⟩, -, -⟩ := hV
    have lo_b17_13 : w.heap.size ≤ b17_13 := Nat.le_trans kw.size (hg.lo _ _ hb17)
    have ne_b1_2_b17_13 : b1_2 ≠ b17_13 := Nat.ne_of_lt (Nat.lt_of_lt_of_le own_b1_2.lt (hg.lo _ _ hb17))
    have own_b17_13 : Own W13 b17_13 [(.int .u8 (0)), (.int .i64 (0)), (.string (⟨#[]⟩)), (.slice none 0 0), (.slice none 0 0), (.map none), (.int .i64 (3))] 74 := own_b17_13
    replace D_cn0 := sa_more D_cn0 hk [b17_13] (in_cons (hg.lo _ _ hb17) in_nil)
    replace D_ci0 := sa_more D_ci0 hk [b17_13] (in_cons (hg.lo _ _ hb17) in_nil)
    replace own_b1_2 := own_b1_2.ext hk
    replace kw := kw.x hk
    clear hR hk hg hP hb17
    refine tail_assign (v := (.pointer (some ⟨b17_13, 0, none⟩))) e17 (by rw [y13]; exact Nat.le_of_ble_eq_true rfl) (fun a14 y14 zz14 e2 hr => ?_)
    replace y14 := y14.trans y13; replace zz14 := zz14.trans zz13
    replace e17 := (hr 17 (by decide)).trans e17
    clear hr
    refine tail_nil (hK12 _ _ ?_)
    refine wp_ret ?_
    refine (show bodyPost Try.prog Try.f21 _ .ret _ _ from ret1 rfl zz14 e2 ⟨_, rfl, kw, ?_⟩)
    rw [hf]
    exact ⟨b17_13, rfl, lo_b17_13, own_b17_13⟩
   ·
    have hl : x.ns.length = x.xs.length := by simp at hc; omega
    refine wp_skip (hK9 _ _ ?_)
    refine wp_seq_k fun K15 hK15 => ?_
    refine wp_seq_k fun K16 hK16 => ?_
    refine rg mixed y11 zz11 ?_
    refine .i (sp_assign Has.cst) ?_
    refine .done ⟨by kernel_rfl, fun a17 g W17 y17 zz17 hk hg hV hR hP => ?_⟩
    obtain ⟨e3, -⟩ := hV
    replace e1 := (hR 1 rfl).trans e1
    replace D_cn0 := D_cn0.ext hk
    replace D_ci0 := D_ci0.ext hk
    have e3 : sl a17 3 = (.int .i64 (1)) := e3
    replace own_b1_2 := own_b1_2.ext hk
    replace kw := kw.x hk
    clear hR hk hg hP
    refine tail_nil (hK16 _ _ ?_)
    refine wp_block ?_
    refine wp_for (x.ns.length) (fun k a W => a.tmps.size = 44 ∧ a.defers = [] ∧ Keeps All w W ∧ sl a 1 = (.pointer (some ⟨b1_2, 0, none⟩)) ∧ sl a 3 = (.int .i64 (((k + 1 : Nat) : Int))) ∧ Own W b1_2 [(.int .u8 (x.k)), (.int .i64 (x.n)), (.string (x.t)), (.slice cn0a (x.ns.length) cn0c), (.slice ci0a (x.xs.length) ci0c)] 33 ∧ Rd W (SA w S [b1_2]) (strsD (x.ns)) (.slice cn0a (x.ns.length) cn0c) ∧ Rd W (SA w S [b1_2]) (valsD (x.xs)) (.slice ci0a (x.xs.length) ci0c) ∧ (∀ i (h : i + 1 < x.ns.length), i < k → sLt x.ns[i] x.ns[i + 1] = true)) ⟨y17, zz17, kw, e1, (e3.trans (congrArg (Value.int .i64) (rfl))), own_b1_2, D_cn0, D_ci0, fun i h hi => absurd hi (by omega)⟩ ?_
    clear kw e1 e3 own_b1_2 D_cn0 D_ci0
    rintro k a18 W18 hkk ⟨y18, zz18, kw, e1, e3, own_b1_2, D_cn0, D_ci0, hinv⟩
    refine wp_seq_k fun K19 hK19 => ?_
    refine wp_seq_k fun K20 hK20 => ?_
    refine rg mixed y18 zz18 ?_
    refine .i (sp_move (hbs rfl e3)) ?_
    refine .i (fo 3 (hbs rfl e1) Try.underlying33 rfl sz23 rfl) ?_
    refine .i (lo1 (hlc rfl) own_b1_2 trivial agg23 sz23 rfl) ?_
    refine .i (sp_lenSs Try.underlying23 ((hlc rfl).dat D_cn0 sub_all)) ?_
    refine .i (sp_lss (hlc rfl) (hlc rfl)) ?_
    refine .done ⟨by kernel_rfl, fun a21 g W21 y21 zz21 hk hg hV hR hP => ?_⟩
    obtain ⟨e22, -, -, -, -, -⟩ := hV
    replace e1 := (hR 1 rfl).trans e1
    replace e3 := (hR 3 rfl).trans e3
    replace D_cn0 := D_cn0.ext hk
    replace D_ci0 := D_ci0.ext hk
    replace e22 := e22.q
    replace own_b1_2 := own_b1_2.ext hk
    replace kw := kw.x hk
    clear hR hk hg hP
    refine tail_nil (hK20 _ _ ?_)
    refine wp_cond_split e22 (fun hc => ?_) (fun hc => ?_)
    ·
     have hlt : k + 1 < x.ns.length := by have := of_decide_eq_true hc; omega
     refine wp_skip (hK19 _ _ ?_)
     refine wp_seq_k fun K22 hK22 => ?_
     refine wp_block ?_
     refine wp_seq_k fun K23 hK23 => ?_
     refine rg mixed y21 zz21 ?_
     refine .i (fo 3 (hbs rfl e1) Try.underlying33 rfl sz23 rfl) ?_
     refine .i (lo1 (hlc rfl) own_b1_2 trivial agg23 sz23 rfl) ?_
     refine .i (sp_move (hbs rfl e3)) ?_
     refine .i (sp_sub (hlc rfl) Has.cst (i64_in (by omega))) ?_
     refine .rf (sp_indexS (i := k) ((hlc rfl).dat D_cn0 sub_all) (hlc rfl) Try.underlying23 sz9 (by omega) (by omega)) ?_
     refine .i (sp_loadStr (hlc rfl) agg9 sz9) ?_
     refine .i (fo 3 (hbs rfl e1) Try.underlying33 rfl sz23 rfl) ?_
     refine .i (lo1 (hlc rfl) own_b1_2 trivial agg23 sz23 rfl) ?_
     refine .i (sp_move (hbs rfl e3)) ?_
     refine .rf (sp_indexS (i := (k + 1)) ((hlc rfl).dat D_cn0 sub_all) (hlc rfl) Try.underlying23 sz9 rfl hlt) ?_
     refine .i (sp_loadStr (hlc rfl) agg9 sz9) ?_
     refine .i (sp_sGeq (hlc rfl) (hlc rfl)) ?_
     refine .done ⟨by kernel_rfl, fun a24 g W24 y24 zz24 hk hg hV hR hP => ?_⟩
     obtain ⟨e36, -, -, -, -, -, -, -, -, -, -, -, -⟩ := hV
     replace e1 := (hR 1 rfl).trans e1
     replace e3 := (hR 3 rfl).trans e3
     replace D_cn0 := D_cn0.ext hk
     replace D_ci0 := D_ci0.ext hk
     replace e36 := e36.q
     replace own_b1_2 := own_b1_2.ext hk
     replace kw := kw.x hk
     clear hR hk hg hP
     refine tail_nil (hK23 _ _ ?_)
     refine wp_cond_split e36 (fun hc => ?_) (fun hc => ?_)
     ·
      have hf : ofE x = 3 := by rw [ofE, if_neg hk, if_pos (.inr (asc_false hlt (by simpa using hc)))]
      refine wp_seq_k fun K25 hK25 => ?_
      refine rg mixed y24 zz24 ?_
      refine .i (v := (.agg #[(.int .u8 (0)), (.int .i64 (0)), (.string (⟨#[]⟩)), (.slice none 0 0), (.slice none 0 0), (.map none), (.int .i64 (3))])) (sp_build (vs := [(2, (.int .i64 (3)))]) Try.underlying74 z74 (pl74 Try.underlying74) ⟨rfl, Has.cst, trivial⟩ rfl) ?_
      refine .boxOp (v := (.agg #[(.int .u8 (0)), (.int .i64 (0)), (.string (⟨#[]⟩)), (.slice none 0 0), (.slice none 0 0), (.map none), (.int .i64 (3))])) (hlc rfl) ?_
      refine .done ⟨by kernel_rfl, fun a26 g W26 y26 zz26 hk hg hV hR hP => ?_⟩
      obtain ⟨⟨b38_26, e38, hb38, own_b38_26⟩, -, -⟩ := hV
      have lo_b38_26 : w.heap.size ≤ b38_26 := Nat.le_trans kw.size (hg.lo _ _ hb38)
      have ne_b1_2_b38_26 : b1_2 ≠ b38_26 := Nat.ne_of_lt (Nat.lt_of_lt_of_le own_b1_2.lt (hg.lo _ _ hb38))
      have own_b38_26 : Own W26 b38_26 [(.int .u8 (0)), (.int .i64 (0)), (.string (⟨#[]⟩)), (.slice none 0 0), (.slice none 0 0), (.map none), (.int .i64 (3))] 74 := own_b38_26
      replace D_cn0 := sa_more D_cn0 hk [b38_26] (in_cons (hg.lo _ _ hb38) in_nil)
      replace D_ci0 := sa_more D_ci0 hk [b38_26] (in_cons (hg.lo _ _ hb38) in_nil)
      replace own_b1_2 := own_b1_2.ext hk
      replace kw := kw.x hk
      clear hR hk hg hP hb38
      refine tail_assign (v := (.pointer (some ⟨b38_26, 0, none⟩))) e38 (by rw [y26]; exact Nat.le_of_ble_eq_true rfl) (fun a27 y27 zz27 e2 hr => ?_)
      replace y27 := y27.trans y26; replace zz27 := zz27.trans zz26
      replace e38 := (hr 38 (by decide)).trans e38
      clear hr
      refine tail_nil (hK25 _ _ ?_)
      refine wp_ret ?_
      refine (show bodyPost Try.prog Try.f21 _ .ret _ _ from ret1 rfl zz27 e2 ⟨_, rfl, kw, ?_⟩)
      rw [hf]
      exact ⟨b38_26, rfl, lo_b38_26, own_b38_26⟩
     ·
      have hk1 : sLt x.ns[k] x.ns[k + 1] = true := by simpa using hc
      refine wp_skip (hK22 _ _ ?_)
      refine rg mixed y24 zz24 ?_
      refine .i (sp_move (hbs rfl e3)) ?_
      refine .i (sp_add (hlc rfl) Has.cst (i64_in (by omega))) ?_
      refine .i (sp_assign (hlc rfl)) ?_
      refine .done ⟨by kernel_rfl, fun a28 g W28 y28 zz28 hk hg hV hR hP => ?_⟩
      obtain ⟨e3, -, -, -⟩ := hV
      replace e1 := (hR 1 rfl).trans e1
      replace D_cn0 := D_cn0.ext hk
      replace D_ci0 := D_ci0.ext hk
      replace e3 := e3.q
      replace own_b1_2 := own_b1_2.ext hk
      replace kw := kw.x hk
      clear hR hk hg hP
      exact tail_nil ⟨by omega, y28, zz28, kw, e1, (e3.trans (congrArg (Value.int .i64) (by omega))), own_b1_2, D_cn0, D_ci0, fun i h hi => by rcases Nat.lt_succ_iff_lt_or_eq.1 hi with h1 | h1; exact hinv i h h1; subst h1; exact hk1⟩
    ·
     exfalso
     have hge := of_decide_eq_false hc
     have ha : asc x.ns = true := (asc_iff x.ns).2 fun i hi => hinv i hi (by omega)
     rw [ofE, if_neg hk, if_neg (by rintro (h | h); exact h hl; rw [ha] at h; cases h)] at hof
     exact hof rfl
end Go.Proofs.Ytnobijngkpflcaa
namespace Go.Proofs.Ytnobijngkpflcaa
open Go.Eng
set_option maxRecDepth 100000 in
theorem takeSD_ok (k : Nat) (n : Int) (t : ByteArray) (cn ci mv : Value) (e : Int) (hE : errK k e ≠ 0) (name : ByteArray) (fv : Value) (w : World) (bo : Nat) (own_bo : Own w bo [.int .u8 k, .int .i64 n, .string t, cn, ci, mv, .int .i64 e] 74) : Calls Try.prog 98 #[.pointer (some ⟨bo, 0, none⟩), .string name, fv] w (Ret w fun u _ => u = .slice none 0 0) := by
  refine enter Try.func98 rfl Try.ntmps98 (lbr rfl) fun a0 y0 zz0 harg => ?_
  have e0 : sl a0 0 = (.pointer (some ⟨bo, 0, none⟩)) := harg 0 (lbr rfl)
  have e1 : sl a0 1 = (.string (name)) := harg 1 (lbr rfl)
  have e2 : sl a0 2 = fv := harg 2 (lbr rfl)
  have kw := Keeps.refl All w
  clear harg
  refine wp_seq_k fun K1 hK1 => ?_
  refine rg mixed y0 zz0 ?_
  refine .i (sp_assign Has.cst) ?_
  refine .done ⟨by kernel_rfl, fun a2 g W2 y2 zz2 hk hg hV hR hP => ?_⟩
  obtain ⟨-, -⟩ := hV
  replace e0 := (hR 0 rfl).trans e0
  replace e1 := (hR 1 rfl).trans e1
  replace e2 := (hR 2 rfl).trans e2
  replace own_bo := own_bo.ext hk
  replace kw := kw.x hk
  clear hR hk hg hP
  refine tail_nil (hK1 _ _ ?_)
  refine wp_seq_k fun K3 hK3 => ?_
  refine rg mixed y2 zz2 ?_
  refine .i (sp_assign Has.cst) ?_
  refine .done ⟨by kernel_rfl, fun a4 g W4 y4 zz4 hk hg hV hR hP => ?_⟩
  obtain ⟨e7, -⟩ := hV
  replace e0 := (hR 0 rfl).trans e0
  replace e1 := (hR 1 rfl).trans e1
  replace e2 := (hR 2 rfl).trans e2
  have e7 : sl a4 7 = (.slice none 0 0) := e7
  replace own_bo := own_bo.ext hk
  replace kw := kw.x hk
  clear hR hk hg hP
  refine tail_nil (hK3 _ _ ?_)
  refine wp_seq_k fun K5 hK5 => ?_
  refine wp_seq_k fun K6 hK6 => ?_
  refine rg mixed y4 zz4 ?_
  refine .i (sp_move (hbs rfl e0)) ?_
  refine .i (v := (.int .i64 (errK (k : Nat) e))) (sp_call1 (φ1 := Is (.pointer (some ⟨bo, 0, none⟩))) ent24 (hlc rfl) (fun g u1 W hk hgk h1 => by have h1 : u1 = _ := h1; subst u1; exact Err_ok _ _ _ _ _ _ _ W _ (own_bo.ext hk))) ?_
  refine .i (sp_neq (hlc rfl) Has.cst) ?_
  refine .done ⟨by kernel_rfl, fun a7 g W7 y7 zz7 hk hg hV hR hP => ?_⟩
  obtain ⟨e14, -, -, -⟩ := hV
  replace e0 := (hR 0 rfl).trans e0
  replace e1 := (hR 1 rfl).trans e1
  replace e2 := (hR 2 rfl).trans e2
  replace e7 := (hR 7 rfl).trans e7
  replace e14 := e14.q
  replace own_bo := own_bo.ext hk
  replace kw := kw.x hk
  clear hR hk hg hP
  refine tail_nil (hK6 _ _ ?_)
  refine wp_cond_split e14 (fun hc => ?_) (fun hc => ?_)
  ·
   refine wp_seq_k fun K8 hK8 => ?_
   refine rg mixed y7 zz7 ?_
   refine .i (sp_move (hbs rfl e7)) ?_
   refine .i (sp_assign (hlc rfl)) ?_
   refine .done ⟨by kernel_rfl, fun a9 g W9 y9 zz9 hk hg hV hR hP => ?_⟩
   obtain ⟨e6, -, -⟩ := hV
   have e6 : sl a9 6 = (.slice none 0 0) := e6
   replace own_bo := own_bo.ext hk
   replace kw := kw.x hk
   clear hR hk hg hP
   refine tail_nil (hK8 _ _ ?_)
   refine wp_ret ?_
   refine (show bodyPost Try.prog Try.f98 _ .ret _ _ from ret1 rfl zz9 e6 ⟨_, rfl, kw, ?_⟩)
   exact rfl
  ·
   exfalso
   exact hE (by simpa using hc)
set_option maxRecDepth 100000 in
theorem takeID_ok (k : Nat) (n : Int) (t : ByteArray) (cn ci mv : Value) (e : Int) (hE : errK k e ≠ 0) (name : ByteArray) (fv : Value) (w : World) (bo : Nat) (own_bo : Own w bo [.int .u8 k, .int .i64 n, .string t, cn, ci, mv, .int .i64 e] 74) : Calls Try.prog 104 #[.pointer (some ⟨bo, 0, none⟩), .string name, fv] w (Ret w fun u _ => u = .int .i64 0) := by
  refine enter Try.func104 rfl Try.ntmps104 (lbr rfl) fun a0 y0 zz0 harg => ?_
  have e0 : sl a0 0 = (.pointer (some ⟨bo, 0, none⟩)) := harg 0 (lbr rfl)
  have e1 : sl a0 1 = (.string (name)) := harg 1 (lbr rfl)
  have e2 : sl a0 2 = fv := harg 2 (lbr rfl)
  have kw := Keeps.refl All w
  clear harg
  refine wp_seq_k fun K1 hK1 => ?_
  refine rg mixed y0 zz0 ?_
  refine .i (sp_assign Has.cst) ?_
  refine .done ⟨by kernel_rfl, fun a2 g W2 y2 zz2 hk hg hV hR hP => ?_⟩
  obtain ⟨-, -⟩ := hV
  replace e0 := (hR 0 rfl).trans e0
  replace e1 := (hR 1 rfl).trans e1
  replace e2 := (hR 2 rfl).trans e2
  replace own_bo := own_bo.ext hk
  replace kw := kw.x hk
  clear hR hk hg hP
  refine tail_nil (hK1 _ _ ?_)
  refine wp_seq_k fun K3 hK3 => ?_
  refine rg mixed y2 zz2 ?_
  refine .i (sp_assign Has.cst) ?_
  refine .done ⟨by kernel_rfl, fun a4 g W4 y4 zz4 hk hg hV hR hP => ?_⟩
  obtain ⟨e7, -⟩ := hV
  replace e0 := (hR 0 rfl).trans e0
  replace e1 := (hR 1 rfl).trans e1
  replace e2 := (hR 2 rfl).trans e2
  have e7 : sl a4 7 = (.int .i64 (0)) := e7
  replace own_bo := own_bo.ext hk
  replace kw := kw.x hk
  clear hR hk hg hP
  refine tail_nil (hK3 _ _ ?_)
  refine wp_seq_k fun K5 hK5 => ?_
  refine wp_seq_k fun K6 hK6 => ?_
  refine rg mixed y4 zz4 ?_
  refine .i (sp_move (hbs rfl e0)) ?_
  refine .i (v := (.int .i64 (errK (k : Nat) e))) (sp_call1 (φ1 := Is (.pointer (some ⟨bo, 0, none⟩))) ent24 (hlc rfl) (fun g u1 W hk hgk h1 => by have h1 : u1 = _ := h1; subst u1; exact Err_ok _ _ _ _ _ _ _ W _ (own_bo.ext hk))) ?_
  refine .i (sp_neq (hlc rfl) Has.cst) ?_
  refine .done ⟨by kernel_rfl, fun a7 g W7 y7 zz7 hk hg hV hR hP => ?_⟩
  obtain ⟨e14, -, -, -⟩ := hV
  replace e0 := (hR 0 rfl).trans e0
  replace e1 := (hR 1 rfl).trans e1
  replace e2 := (hR 2 rfl).trans e2
  replace e7 := (hR 7 rfl).trans e7
  replace e14 := e14.q
  replace own_bo := own_bo.ext hk
  replace kw := kw.x hk
  clear hR hk hg hP
  refine tail_nil (hK6 _ _ ?_)
  refine wp_cond_split e14 (fun hc => ?_) (fun hc => ?_)
  ·
   refine wp_seq_k fun K8 hK8 => ?_
   refine rg mixed y7 zz7 ?_
   refine .i (sp_move (hbs rfl e7)) ?_
   refine .i (sp_assign (hlc rfl)) ?_
   refine .done ⟨by kernel_rfl, fun a9 g W9 y9 zz9 hk hg hV hR hP => ?_⟩
   obtain ⟨e6, -, -⟩ := hV
   have e6 : sl a9 6 = (.int .i64 (0)) := e6
   replace own_bo := own_bo.ext hk
   replace kw := kw.x hk
   clear hR hk hg hP
   refine tail_nil (hK8 _ _ ?_)
   refine wp_ret ?_
   refine (show bodyPost Try.prog Try.f104 _ .ret _ _ from ret1 rfl zz9 e6 ⟨_, rfl, kw, ?_⟩)
   exact rfl
  ·
   exfalso
   exact hE (by simpa using hc)
set_option maxRecDepth 100000 in
theorem TextsD_ok (k : Nat) (n : Int) (t : ByteArray) (cn ci mv : Value) (e : Int) (hE : errK k e ≠ 0) (name : ByteArray) (most : Int) (w : World) (bo : Nat) (own_bo : Own w bo [.int .u8 k, .int .i64 n, .string t, cn, ci, mv, .int .i64 e] 74) : Calls Try.prog 41 #[.pointer (some ⟨bo, 0, none⟩), .string name, .int .i64 most] w (Ret w fun u _ => u = .slice none 0 0) := by
  refine enter Try.func41 rfl Try.ntmps41 (lbr rfl) fun a0 y0 zz0 harg => ?_
  have e0 : sl a0 0 = (.pointer (some ⟨bo, 0, none⟩)) := harg 0 (lbr rfl)
  have e1 : sl a0 1 = (.string (name)) := harg 1 (lbr rfl)
  have e2 : sl a0 2 = (.int .i64 (most)) := harg 2 (lbr rfl)
  have kw := Keeps.refl All w
  clear harg
  refine wp_seq_k fun K1 hK1 => ?_
  refine rg mixed y0 zz0 ?_
  refine .boxOp (v := (.int .i64 (most))) (hbs rfl e2) ?_
  refine .i (sp_assign Has.cst) ?_
  refine .done ⟨by kernel_rfl, fun a2 g W2 y2 zz2 hk hg hV hR hP => ?_⟩
  obtain ⟨-, ⟨b5_2, e5, hb5, own_b5_2⟩, -⟩ := hV
  have lo_b5_2 : w.heap.size ≤ b5_2 := Nat.le_trans kw.size (hg.lo _ _ hb5)
  have ne_bo_b5_2 : bo ≠ b5_2 := Nat.ne_of_lt (Nat.lt_of_lt_of_le own_bo.lt (hg.lo _ _ hb5))
  have own_b5_2 : Own W2 b5_2 [(.int .i64 (most))] 3 := own_b5_2
  replace e0 := (hR 0 rfl).trans e0
  replace e1 := (hR 1 rfl).trans e1
  replace own_bo := own_bo.ext hk
  replace kw := kw.x hk
  clear hR hk hg hP hb5
  refine tail_nil (hK1 _ _ ?_)
  refine wp_seq_k fun K3 hK3 => ?_
  refine rg mixed y2 zz2 ?_
  refine .i (sp_move (hbs rfl e0)) ?_
  refine .i (sp_move (hbs rfl e1)) ?_
  refine .i (v := (.func (.func 99) #[] #[(.pointer (some ⟨b5_2, 0, none⟩))])) (sp_mkF1 (hbs rfl e5)) ?_
  refine .i (v := (.slice none 0 0)) (sp_call3 (φ1 := Is (.pointer (some ⟨bo, 0, none⟩))) (φ2 := Is (.string (name))) (φ3 := Is (.func (.func 99) #[] #[(.pointer (some ⟨b5_2, 0, none⟩))])) ent98 (hlc rfl) (hlc rfl) (hlc rfl) (fun g u1 u2 u3 W hk hgk h1 h2 h3 => by have h1 : u1 = _ := h1; subst u1; have h2 : u2 = _ := h2; subst u2; have h3 : u3 = _ := h3; subst u3; exact takeSD_ok _ _ _ _ _ _ _ hE _ _ W _ (own_bo.ext hk))) ?_
  refine .i (sp_assign (hlc rfl)) ?_
  refine .done ⟨by kernel_rfl, fun a4 g W4 y4 zz4 hk hg hV hR hP => ?_⟩
  obtain ⟨e6, -, -, -, -, -⟩ := hV
  have e6 : sl a4 6 = (.slice none 0 0) := e6
  replace own_bo := own_bo.ext hk
  replace own_b5_2 := own_b5_2.ext hk
  replace kw := kw.x hk
  clear hR hk hg hP
  refine tail_nil (hK3 _ _ ?_)
  refine wp_ret ?_
  refine (show bodyPost Try.prog Try.f41 _ .ret _ _ from ret1 rfl zz4 e6 ⟨_, rfl, kw, ?_⟩)
  exact rfl
set_option maxRecDepth 100000 in
theorem NumD_ok (k : Nat) (n : Int) (t : ByteArray) (cn ci mv : Value) (e : Int) (hE : errK k e ≠ 0) (name : ByteArray) (lo hi : Int) (w : World) (bo : Nat) (own_bo : Own w bo [.int .u8 k, .int .i64 n, .string t, cn, ci, mv, .int .i64 e] 74) : Calls Try.prog 44 #[.pointer (some ⟨bo, 0, none⟩), .string name, .int .i64 lo, .int .i64 hi] w (Ret w fun u _ => u = .int .i64 0) := by
  refine enter Try.func44 rfl Try.ntmps44 (lbr rfl) fun a0 y0 zz0 harg => ?_
  have e0 : sl a0 0 = (.pointer (some ⟨bo, 0, none⟩)) := harg 0 (lbr rfl)
  have e1 : sl a0 1 = (.string (name)) := harg 1 (lbr rfl)
  have e2 : sl a0 2 = (.int .i64 (lo)) := harg 2 (lbr rfl)
  have e3 : sl a0 3 = (.int .i64 (hi)) := harg 3 (lbr rfl)
  have kw := Keeps.refl All w
  clear harg
  refine wp_seq_k fun K1 hK1 => ?_
  refine rg mixed y0 zz0 ?_
  refine .boxOp (v := (.int .i64 (lo))) (hbs rfl e2) ?_
  refine .boxOp (v := (.int .i64 (hi))) (hbs rfl e3) ?_
  refine .i (sp_assign Has.cst) ?_
  refine .done ⟨by kernel_rfl, fun a2 g W2 y2 zz2 hk hg hV hR hP => ?_⟩
  obtain ⟨-, ⟨b7_2, e7, hb7, own_b7_2⟩, ⟨b6_2, e6, hb6, own_b6_2⟩, -⟩ := hV
  have lo_b7_2 : w.heap.size ≤ b7_2 := Nat.le_trans kw.size (hg.lo _ _ hb7)
  have ne_bo_b7_2 : bo ≠ b7_2 := Nat.ne_of_lt (Nat.lt_of_lt_of_le own_bo.lt (hg.lo _ _ hb7))
  have own_b7_2 : Own W2 b7_2 [(.int .i64 (hi))] 2 := own_b7_2
  have lo_b6_2 : w.heap.size ≤ b6_2 := Nat.le_trans kw.size (hg.lo _ _ hb6)
  have ne_bo_b6_2 : bo ≠ b6_2 := Nat.ne_of_lt (Nat.lt_of_lt_of_le own_bo.lt (hg.lo _ _ hb6))
  have own_b6_2 : Own W2 b6_2 [(.int .i64 (lo))] 2 := own_b6_2
  have ne_b7_2_b6_2 : b7_2 ≠ b6_2 := fun h => by have := hg.inj _ _ _ hb7 (h ▸ hb6); cases this
  replace e0 := (hR 0 rfl).trans e0
  replace e1 := (hR 1 rfl).trans e1
  replace own_bo := own_bo.ext hk
  replace kw := kw.x hk
  clear hR hk hg hP hb7 hb6
  refine tail_nil (hK1 _ _ ?_)
  refine wp_seq_k fun K3 hK3 => ?_
  refine rg mixed y2 zz2 ?_
  refine .i (sp_move (hbs rfl e0)) ?_
  refine .i (sp_move (hbs rfl e1)) ?_
  refine .i (v := (.func (.func 105) #[] #[(.pointer (some ⟨b6_2, 0, none⟩)), (.pointer (some ⟨b7_2, 0, none⟩))])) (sp_mkF2 (hbs rfl e6) (hbs rfl e7)) ?_
  refine .i (v := (.int .i64 (0))) (sp_call3 (φ1 := Is (.pointer (some ⟨bo, 0, none⟩))) (φ2 := Is (.string (name))) (φ3 := Is (.func (.func 105) #[] #[(.pointer (some ⟨b6_2, 0, none⟩)), (.pointer (some ⟨b7_2, 0, none⟩))])) ent104 (hlc rfl) (hlc rfl) (hlc rfl) (fun g u1 u2 u3 W hk hgk h1 h2 h3 => by have h1 : u1 = _ := h1; subst u1; have h2 : u2 = _ := h2; subst u2; have h3 : u3 = _ := h3; subst u3; exact takeID_ok _ _ _ _ _ _ _ hE _ _ W _ (own_bo.ext hk))) ?_
  refine .i (sp_assign (hlc rfl)) ?_
  refine .done ⟨by kernel_rfl, fun a4 g W4 y4 zz4 hk hg hV hR hP => ?_⟩
  obtain ⟨e8, -, -, -, -, -⟩ := hV
  have e8 : sl a4 8 = (.int .i64 (0)) := e8
  replace own_bo := own_bo.ext hk
  replace own_b7_2 := own_b7_2.ext hk
  replace own_b6_2 := own_b6_2.ext hk
  replace kw := kw.x hk
  clear hR hk hg hP
  refine tail_nil (hK3 _ _ ?_)
  refine wp_ret ?_
  refine (show bodyPost Try.prog Try.f44 _ .ret _ _ from ret1 rfl zz4 e8 ⟨_, rfl, kw, ?_⟩)
  exact rfl
set_option maxRecDepth 100000 in
theorem DoneD_ok (k : Nat) (n : Int) (t : ByteArray) (cn ci mv : Value) (e : Int) (hE : errK k e ≠ 0) (w : World) (bo : Nat) (own_bo : Own w bo [.int .u8 k, .int .i64 n, .string t, cn, ci, mv, .int .i64 e] 74) : Calls Try.prog 32 #[.pointer (some ⟨bo, 0, none⟩)] w (Ret w fun u _ => u = .int .i64 (errK k e)) := by
  refine enter Try.func32 rfl Try.ntmps32 (lbr rfl) fun a0 y0 zz0 harg => ?_
  have e0 : sl a0 0 = (.pointer (some ⟨bo, 0, none⟩)) := harg 0 (lbr rfl)
  have kw := Keeps.refl All w
  clear harg
  refine wp_seq_k fun K1 hK1 => ?_
  refine rg mixed y0 zz0 ?_
  refine .i (sp_assign Has.cst) ?_
  refine .done ⟨by kernel_rfl, fun a2 g W2 y2 zz2 hk hg hV hR hP => ?_⟩
  obtain ⟨-, -⟩ := hV
  replace e0 := (hR 0 rfl).trans e0
  replace own_bo := own_bo.ext hk
  replace kw := kw.x hk
  clear hR hk hg hP
  refine tail_nil (hK1 _ _ ?_)
  refine wp_seq_k fun K3 hK3 => ?_
  refine wp_seq_k fun K4 hK4 => ?_
  refine rg mixed y2 zz2 ?_
  refine .i (sp_move (hbs rfl e0)) ?_
  refine .i (v := (.int .i64 (errK (k : Nat) e))) (sp_call1 (φ1 := Is (.pointer (some ⟨bo, 0, none⟩))) ent24 (hlc rfl) (fun g u1 W hk hgk h1 => by have h1 : u1 = _ := h1; subst u1; exact Err_ok _ _ _ _ _ _ _ W _ (own_bo.ext hk))) ?_
  refine .i (sp_assign (hlc rfl)) ?_
  refine .done ⟨by kernel_rfl, fun a5 g W5 y5 zz5 hk hg hV hR hP => ?_⟩
  obtain ⟨e3, -, -, -⟩ := hV
  replace e0 := (hR 0 rfl).trans e0
  have e3 : sl a5 3 = (.int .i64 (errK (k : Nat) e)) := e3
  replace own_bo := own_bo.ext hk
  replace kw := kw.x hk
  clear hR hk hg hP
  refine tail_nil (hK4 _ _ ?_)
  refine wp_seq_k fun K6 hK6 => ?_
  refine rg mixed y5 zz5 ?_
  refine .i (sp_move (hbs rfl e3)) ?_
  refine .i (sp_neq (hlc rfl) Has.cst) ?_
  refine .done ⟨by kernel_rfl, fun a7 g W7 y7 zz7 hk hg hV hR hP => ?_⟩
  obtain ⟨e9, -, -⟩ := hV
  replace e0 := (hR 0 rfl).trans e0
  replace e3 := (hR 3 rfl).trans e3
  replace e9 := e9.q
  replace own_bo := own_bo.ext hk
  replace kw := kw.x hk
  clear hR hk hg hP
  refine tail_nil (hK6 _ _ ?_)
  refine wp_cond_split e9 (fun hc => ?_) (fun hc => ?_)
  ·
   refine wp_seq_k fun K8 hK8 => ?_
   refine rg mixed y7 zz7 ?_
   refine .i (sp_move (hbs rfl e3)) ?_
   refine .i (sp_assign (hlc rfl)) ?_
   refine .done ⟨by kernel_rfl, fun a9 g W9 y9 zz9 hk hg hV hR hP => ?_⟩
   obtain ⟨e2, -, -⟩ := hV
   have e2 : sl a9 2 = (.int .i64 (errK (k : Nat) e)) := e2
   replace own_bo := own_bo.ext hk
   replace kw := kw.x hk
   clear hR hk hg hP
   refine tail_nil (hK8 _ _ ?_)
   refine wp_ret ?_
   refine (show bodyPost Try.prog Try.f32 _ .ret _ _ from ret1 rfl zz9 e2 ⟨_, rfl, kw, ?_⟩)
   exact rfl
  ·
   exfalso
   exact hE (by simpa using hc)
set_option maxRecDepth 100000 in
theorem PartD_ok (k : Nat) (n : Int) (t : ByteArray) (cn ci mv : Value) (e : Int) (hE : errK k e ≠ 0) (w : World) (bo : Nat) (own_bo : Own w bo [.int .u8 k, .int .i64 n, .string t, cn, ci, mv, .int .i64 e] 74) : Calls Try.prog 23 #[.pointer (some ⟨bo, 0, none⟩)] w (RetL w [bo] fun u W => u = .agg #[.int .i64 0, .slice none 0 0] ∧ Own W bo [.int .u8 k, .int .i64 n, .string t, cn, ci, mv, .int .i64 e] 74) := by
  refine enter Try.func23 rfl Try.ntmps23 (lbr rfl) fun a0 y0 zz0 harg => ?_
  have e0 : sl a0 0 = (.pointer (some ⟨bo, 0, none⟩)) := harg 0 (lbr rfl)
  have kw := Keeps.refl (fun k => k ∉ [bo]) w
  clear harg
  refine wp_seq_k fun K1 hK1 => ?_
  refine rg mixed y0 zz0 ?_
  refine .alloc z27 ?_
  refine .done ⟨by kernel_rfl, fun a2 g W2 y2 zz2 hk hg hV hR hP => ?_⟩
  obtain ⟨⟨b2_2, e2, hb2, own_b2_2⟩, -⟩ := hV
  have lo_b2_2 : w.heap.size ≤ b2_2 := Nat.le_trans kw.size (hg.lo _ _ hb2)
  have ne_bo_b2_2 : bo ≠ b2_2 := Nat.ne_of_lt (Nat.lt_of_lt_of_le own_bo.lt (hg.lo _ _ hb2))
  have own_b2_2 : Own W2 b2_2 [(.int .i64 (0)), (.slice none 0 0)] 27 := own_b2_2
  replace e0 := (hR 0 rfl).trans e0
  replace own_bo := own_bo.ext hk
  replace kw := kw.x hk
  clear hR hk hg hP hb2
  refine tail_nil (hK1 _ _ ?_)
  refine wp_seq_k fun K3 hK3 => ?_
  refine rg mixed y2 zz2 ?_
  refine .i (sp_move (hbs rfl e0)) ?_
  refine .i (v := (.slice none 0 0)) (sp_call3 (φ1 := Is (.pointer (some ⟨bo, 0, none⟩))) (φ2 := Is (.string (⟨#[107, 101, 121, 105, 100, 115]⟩))) (φ3 := Is (.int .i64 (16))) ent41 (hlc rfl) Has.cst Has.cst (fun g u1 u2 u3 W hk hgk h1 h2 h3 => by have h1 : u1 = _ := h1; subst u1; have h2 : u2 = _ := h2; subst u2; have h3 : u3 = _ := h3; subst u3; exact TextsD_ok _ _ _ _ _ _ _ hE _ _ W _ (own_bo.ext hk))) ?_
  refine .i (sp_assign (hlc rfl)) ?_
  refine .done ⟨by kernel_rfl, fun a4 g W4 y4 zz4 hk hg hV hR hP => ?_⟩
  obtain ⟨e3, -, -, -⟩ := hV
  replace e0 := (hR 0 rfl).trans e0
  replace e2 := (hR 2 rfl).trans e2
  have e3 : sl a4 3 = (.slice none 0 0) := e3
  replace own_bo := own_bo.ext hk
  replace own_b2_2 := own_b2_2.ext hk
  replace kw := kw.x hk
  clear hR hk hg hP
  refine tail_nil (hK3 _ _ ?_)
  refine wp_seq_k fun K5 hK5 => ?_
  refine wp_seq_k fun K6 hK6 => ?_
  refine rg mixed y4 zz4 ?_
  refine .i (sp_move (hbs rfl e3)) ?_
  refine .i (sp_lenV Try.underlying23 (hlc rfl)) ?_
  refine .i (sp_eql (hlc rfl) Has.cst) ?_
  refine .done ⟨by kernel_rfl, fun a7 g W7 y7 zz7 hk hg hV hR hP => ?_⟩
  obtain ⟨e9, -, -, -⟩ := hV
  replace e0 := (hR 0 rfl).trans e0
  replace e2 := (hR 2 rfl).trans e2
  replace e3 := (hR 3 rfl).trans e3
  replace e9 := e9.q
  replace own_bo := own_bo.ext hk
  replace own_b2_2 := own_b2_2.ext hk
  replace kw := kw.x hk
  clear hR hk hg hP
  refine tail_nil (hK6 _ _ ?_)
  refine wp_cond_true (e9.trans (congrArg Value.bool (by decide))) ?_
  refine wp_reg (fun k => k ∉ [bo]) (Ψ := fun W => Own W bo [(.int .u8 ((k : Nat))), (.int .i64 (n)), (.string (t)), cn, ci, mv, (.int .i64 (e))] 74) mixed y7 zz7 stE_own own_bo ?_
  refine .i (sp_move (hbs rfl e0)) ?_
  refine .callL2 (φ1 := Is (.pointer (some ⟨bo, 0, none⟩))) (φ2 := Is (.int .i64 (4))) (φ := Is (.tuple #[])) (Ψ' := fun W => Own W bo [(.int .u8 ((k : Nat))), (.int .i64 (n)), (.string (t)), cn, ci, mv, (.int .i64 (e))] 74) ent22 (hlc rfl) Has.cst (st_is _) stE_own (fun g u1 u2 W hk hg h1 h2 hP => by have h1 : u1 = _ := h1; subst u1; have h2 : u2 = _ := h2; subst u2; exact (Fail_ok _ _ _ _ _ _ _ (4) W _ hP).mono (fun _ _ ⟨v, h1, h2, h3, h4⟩ => ⟨v, h1, h2, h3, by rw [failK_dead hE] at h4; exact h4⟩)) ?_
  refine .done ⟨by kernel_rfl, fun a8 g W8 y8 zz8 hk hg hV hR hP => ?_⟩
  obtain ⟨-, -, -⟩ := hV
  replace e0 := (hR 0 rfl).trans e0
  replace e2 := (hR 2 rfl).trans e2
  replace e3 := (hR 3 rfl).trans e3
  replace own_b2_2 := own_keepL own_b2_2 hk (by simp [ne_bo_b2_2.symm])
  have own_bo := hP
  replace own_bo : Own W8 bo [(.int .u8 ((k : Nat))), (.int .i64 (n)), (.string (t)), cn, ci, mv, (.int .i64 (e))] 74 := own_bo
  replace kw := keeps_L kw hk (in_cons (.inr (by simp)) in_nil)
  clear hR hk hg hP
  refine tail_nil (hK5 _ _ ?_)
  refine wp_seq_k fun K9 hK9 => ?_
  refine wp_reg (fun k => k ∉ [bo]) (Ψ := fun W => Own W bo [(.int .u8 ((k : Nat))), (.int .i64 (n)), (.string (t)), cn, ci, mv, (.int .i64 (e))] 74) mixed y8 zz8 stE_own own_bo ?_
  refine .i (sp_move (hbs rfl e0)) ?_
  refine .i (sp_move (hbs rfl e3)) ?_
  refine .i (v := (.int .i64 (wrongE [] ([])))) (sp_call1 (φ1 := IsD (SF w [b2_2, bo]) (strsD ([]))) ent77 ((hlc rfl).dat (rd_nil _ : Rd W8 (SF w [b2_2, bo]) (strsD ([])) _) (sub_nlF (by simp))) (fun g u1 W hk hgk h1 => wrong_ok ([]) W _ _ h1)) ?_
  refine .callL2 (φ1 := Is (.pointer (some ⟨bo, 0, none⟩))) (φ2 := Is (.int .i64 (wrongE [] ([])))) (φ := Is (.tuple #[])) (Ψ' := fun W => Own W bo [(.int .u8 ((k : Nat))), (.int .i64 (n)), (.string (t)), cn, ci, mv, (.int .i64 (e))] 74) ent22 (hlc rfl) (hlc rfl) (st_is _) stE_own (fun g u1 u2 W hk hg h1 h2 hP => by have h1 : u1 = _ := h1; subst u1; have h2 : u2 = _ := h2; subst u2; exact (Fail_ok _ _ _ _ _ _ _ (wrongE [] ([])) W _ hP).mono (fun _ _ ⟨v, h1, h2, h3, h4⟩ => ⟨v, h1, h2, h3, by rw [failK_dead hE] at h4; exact h4⟩)) ?_
  refine .done ⟨by kernel_rfl, fun a10 g W10 y10 zz10 hk hg hV hR hP => ?_⟩
  obtain ⟨-, -, -, -, -⟩ := hV
  replace e0 := (hR 0 rfl).trans e0
  replace e2 := (hR 2 rfl).trans e2
  replace e3 := (hR 3 rfl).trans e3
  replace own_b2_2 := own_keepL own_b2_2 hk (by simp [ne_bo_b2_2.symm])
  have own_bo := hP
  replace own_bo : Own W10 bo [(.int .u8 ((k : Nat))), (.int .i64 (n)), (.string (t)), cn, ci, mv, (.int .i64 (e))] 74 := own_bo
  replace kw := keeps_L kw hk (in_cons (.inr (by simp)) in_nil)
  clear hR hk hg hP
  refine tail_nil (hK9 _ _ ?_)
  refine wp_seq_k fun K11 hK11 => ?_
  refine rg mixed y10 zz10 ?_
  refine .i (sp_move (hbs rfl e0)) ?_
  refine .i (sp_move (hbs rfl e3)) ?_
  refine .i (sp_lenV Try.underlying23 (hlc rfl)) ?_
  refine .i (v := (.int .i64 (0))) (sp_call4 (φ1 := Is (.pointer (some ⟨bo, 0, none⟩))) (φ2 := Is (.string (⟨#[116, 104, 114, 101, 115, 104, 111, 108, 100]⟩))) (φ3 := Is (.int .i64 (1))) (φ4 := Is (.int .i64 (((0 : Nat) : Int)))) ent44 (hlc rfl) Has.cst Has.cst (hlc rfl) (fun g u1 u2 u3 u4 W hk hgk h1 h2 h3 h4 => by have h1 : u1 = _ := h1; subst u1; have h2 : u2 = _ := h2; subst u2; have h3 : u3 = _ := h3; subst u3; have h4 : u4 = _ := h4; subst u4; exact NumD_ok _ _ _ _ _ _ _ hE _ _ _ W _ (own_bo.ext hk))) ?_
  refine .i (sp_assign (hlc rfl)) ?_
  refine .done ⟨by kernel_rfl, fun a12 g W12 y12 zz12 hk hg hV hR hP => ?_⟩
  obtain ⟨e4, -, -, -, -, -⟩ := hV
  replace e0 := (hR 0 rfl).trans e0
  replace e2 := (hR 2 rfl).trans e2
  replace e3 := (hR 3 rfl).trans e3
  have e4 : sl a12 4 = (.int .i64 (0)) := e4
  replace own_bo := own_bo.ext hk
  replace own_b2_2 := own_b2_2.ext hk
  replace kw := kw.x hk
  clear hR hk hg hP
  refine tail_nil (hK11 _ _ ?_)
  refine wp_seq_k fun K13 hK13 => ?_
  refine wp_seq_k fun K14 hK14 => ?_
  refine rg mixed y12 zz12 ?_
  refine .i (sp_move (hbs rfl e0)) ?_
  refine .i (v := (.int .i64 (errK (k : Nat) e))) (sp_call1 (φ1 := Is (.pointer (some ⟨bo, 0, none⟩))) ent24 (hlc rfl) (fun g u1 W hk hgk h1 => by have h1 : u1 = _ := h1; subst u1; exact Err_ok _ _ _ _ _ _ _ W _ (own_bo.ext hk))) ?_
  refine .i (sp_neq (hlc rfl) Has.cst) ?_
  refine .done ⟨by kernel_rfl, fun a15 g W15 y15 zz15 hk hg hV hR hP => ?_⟩
  obtain ⟨e22, -, -, -⟩ := hV
  replace e2 := (hR 2 rfl).trans e2
  replace e3 := (hR 3 rfl).trans e3
  replace e4 := (hR 4 rfl).trans e4
  replace e22 := e22.q
  replace own_bo := own_bo.ext hk
  replace own_b2_2 := own_b2_2.ext hk
  replace kw := kw.x hk
  clear hR hk hg hP
  refine tail_nil (hK14 _ _ ?_)
  refine wp_cond_split e22 (fun hc => ?_) (fun hc => ?_)
  ·
   refine wp_seq_k fun K16 hK16 => ?_
   refine rg mixed y15 zz15 ?_
   refine .i (v := (.agg #[(.int .i64 (0)), (.slice none 0 0)])) (sp_build (vs := []) Try.underlying27 z27 (pl27 Try.underlying27) trivial rfl) ?_
   refine .done ⟨by kernel_rfl, fun a17 g W17 y17 zz17 hk hg hV hR hP => ?_⟩
   obtain ⟨e23, -⟩ := hV
   replace e2 := (hR 2 rfl).trans e2
   replace e23 := e23.q
   replace own_bo := own_bo.ext hk
   replace own_b2_2 := own_b2_2.ext hk
   replace kw := kw.x hk
   clear hR hk hg hP
   refine tail_store (b := b2_2) (o := 0) (v := (.agg #[(.int .i64 (0)), (.slice none 0 0)])) e2 e23 sz27 rfl own_b2_2 (lbr rfl) (all_cons rfl (all_cons rfl all_nil)) (fun W18 hs own_b2_2 => ?_)
   have own_b2_2 : Own W18 b2_2 [(.int .i64 (0)), (.slice none 0 0)] 27 := own_b2_2
   replace own_bo := own_store own_bo hs ne_bo_b2_2
   replace kw := keeps_store kw hs lo_b2_2
   clear hs
   refine tail_nil (hK16 _ _ ?_)
   refine wp_ret ?_
   refine (show bodyPost Try.prog Try.f23 _ .ret _ _ from retC (v := (.agg #[(.int .i64 (0)), (.slice none 0 0)])) rfl zz17 e2 own_b2_2 agg27 sz27 rfl (fun h => by cases h) rfl ⟨_, rfl, kw, ?_⟩)
   exact ⟨rfl, own_bo⟩
  ·
   exfalso
   exact hE (by simpa using hc)
set_option maxRecDepth 100000 in
theorem Part_ok (x : V) (A : As) (e : Int) (hA : AB 1000 A) (hx : x.wt ≤ 1073741824) (hxt : x.t.size ≤ maxLen) (w : World) (S : BSet) (cn ci : Value) (bo bm : Nat) (hS : ∀ b o, S b o → Cln o) (hM : ∀ b ∈ [bo, bm], ∀ o, ¬ S b o) (hne : bo ≠ bm) (hv : Rd w S (strsD x.ns) cn) (hu : Rd w S (valsD x.xs) ci) (own_bo : Own w bo [.int .u8 x.k, .int .i64 x.n, .string x.t, cn, ci, .map (some bm), .int .i64 (e)] 74) (own_bm : OwnM w bm A) : Calls Try.prog 23 #[.pointer (some ⟨bo, 0, none⟩)] w (RetL w [bo, bm] fun u W => Rd W (Fr w) (partA x e).d u ∧ Own W bo [.int .u8 x.k, .int .i64 x.n, .string x.t, cn, ci, .map (some bm), .int .i64 (partE x e)] 74 ∧ OwnM W bm (partM x A e)) := by
  obtain ⟨cna, cnc, ev, D_cn⟩ := rdS_out (rd_argM (M := [bo, bm]) hv hM)
  subst ev
  obtain ⟨cia, cic, ev, D_ci⟩ := rdVs_out (rd_argM (M := [bo, bm]) hu hM)
  subst ev
  refine enter Try.func23 rfl Try.ntmps23 (lbr rfl) fun a0 y0 zz0 harg => ?_
  have e0 : sl a0 0 = (.pointer (some ⟨bo, 0, none⟩)) := harg 0 (lbr rfl)
  have kw := Keeps.refl (fun k => k ∉ [bo, bm]) w
  clear harg
  refine wp_seq_k fun K1 hK1 => ?_
  refine rg mixed y0 zz0 ?_
  refine .alloc z27 ?_
  refine .done ⟨by kernel_rfl, fun a2 g W2 y2 zz2 hk hg hV hR hP => ?_⟩
  obtain ⟨⟨b2_2, e2, hb2, own_b2_2⟩, -⟩ := hV
  have lo_b2_2 : w.heap.size ≤ b2_2 := Nat.le_trans kw.size (hg.lo _ _ hb2)
  have ne_bo_b2_2 : bo ≠ b2_2 := Nat.ne_of_lt (Nat.lt_of_lt_of_le own_bo.lt (hg.lo _ _ hb2))
  have ne_bm_b2_2 : bm ≠ b2_2 := Nat.ne_of_lt (Nat.lt_of_lt_of_le own_bm.lt (hg.lo _ _ hb2))
  have own_b2_2 : Own W2 b2_2 [(.int .i64 (0)), (.slice none 0 0)] 27 := own_b2_2
  replace e0 := (hR 0 rfl).trans e0
  replace D_cn := sa_more D_cn hk [b2_2] (in_cons (hg.lo _ _ hb2) in_nil)
  replace D_ci := sa_more D_ci hk [b2_2] (in_cons (hg.lo _ _ hb2) in_nil)
  replace own_bo := own_bo.ext hk
  replace own_bm := own_bm.ext hk
  replace kw := kw.x hk
  clear hR hk hg hP hb2
  refine tail_nil (hK1 _ _ ?_)
  refine wp_seq_k fun K3 hK3 => ?_
  refine wp_reg (fun k => k ∉ [bo, bm]) (Ψ := fun W => Own W bo [(.int .u8 (x.k)), (.int .i64 (x.n)), (.string (x.t)), (.slice cna (x.ns.length) cnc), (.slice cia (x.xs.length) cic), (.map (some bm)), (.int .i64 (e))] 74 ∧ OwnM W bm (A)) mixed y2 zz2 (stE_and stE_own stE_ownM) ⟨own_bo, own_bm⟩ ?_
  refine .i (sp_move (hbs rfl e0)) ?_
  refine .callL3 (φ1 := Is (.pointer (some ⟨bo, 0, none⟩))) (φ2 := Is (.string (⟨#[107, 101, 121, 105, 100, 115]⟩))) (φ3 := Is (.int .i64 (16))) (φ := IsD (Fr W2) (strsD (if tkB x e ⟨#[107, 101, 121, 105, 100, 115]⟩ (textsE 16) then textsL 16 (getV x ⟨#[107, 101, 121, 105, 100, 115]⟩) else []))) (Ψ' := fun W => Own W bo [(.int .u8 (x.k)), (.int .i64 (x.n)), (.string (x.t)), (.slice cna (x.ns.length) cnc), (.slice cia (x.xs.length) cic), (.map (some bm)), (.int .i64 (tkE x e ⟨#[107, 101, 121, 105, 100, 115]⟩ (textsE 16)))] 74 ∧ OwnM W bm (tkA x A e ⟨#[107, 101, 121, 105, 100, 115]⟩ (textsE 16))) ent41 (hlc rfl) Has.cst Has.cst (st_d (sub_frnl (in_cons own_bo.lt (in_cons own_bm.lt in_nil)))) (stE_and stE_own stE_ownM) (fun g u1 u2 u3 W hk hg h1 h2 h3 hP => by have h1 : u1 = _ := h1; subst u1; have h2 : u2 = _ := h2; subst u2; have h3 : u3 = _ := h3; subst u3; exact (Texts_ok (x) (A) (e) (hA.mono (by omega)) hx hxt ⟨#[107, 101, 121, 105, 100, 115]⟩ 16 W _ _ _ _ _ (sa_cln hS) (sa_notin (by simp)) hne (sa_keepL D_cn hk (by simp)) (sa_keepL D_ci hk (by simp)) hP.1 hP.2).mono (fun _ _ ⟨v, h1, h2, h3, h4⟩ => ⟨v, h1, h2, fresh_d hk hg h3, h4⟩)) ?_
  refine .op (φ := IsD (Fr W2) (strsD (if tkB x e ⟨#[107, 101, 121, 105, 100, 115]⟩ (textsE 16) then textsL 16 (getV x ⟨#[107, 101, 121, 105, 100, 115]⟩) else []))) (st_d (sub_frnl (in_cons own_bo.lt (in_cons own_bm.lt in_nil)))) (sp_assign (hlc rfl)) ?_
  refine .done ⟨by kernel_rfl, fun a4 g W4 y4 zz4 hk hg hV hR hP => ?_⟩
  obtain ⟨e3, -, -, -⟩ := hV
  replace e0 := (hR 0 rfl).trans e0
  replace e2 := (hR 2 rfl).trans e2
  obtain ⟨v3_4, ev⟩ : ∃ v, sl a4 3 = v := ⟨_, rfl⟩
  rw [ev] at e3
  have D_v3_4 : Rd W4 (SF w [b2_2, bo, bm]) (strsD (if tkB x e ⟨#[107, 101, 121, 105, 100, 115]⟩ (textsE 16) then textsL 16 (getV x ⟨#[107, 101, 121, 105, 100, 115]⟩) else [])) v3_4 := fr_end (M := [b2_2, bo, bm]) e3 kw [] in_nil (in_cons own_b2_2.lt (in_cons own_bo.lt (in_cons own_bm.lt in_nil)))
  replace e3 := ev; clear ev
  obtain ⟨v3_4a, v3_4c, ev, D2⟩ := rdS_out D_v3_4
  subst ev; replace D_v3_4 := D2; clear D2
  replace D_cn := sa_keepL D_cn hk (by simp)
  replace D_ci := sa_keepL D_ci hk (by simp)
  replace own_b2_2 := own_keepL own_b2_2 hk (by simp [ne_bo_b2_2.symm, ne_bm_b2_2.symm])
  obtain ⟨own_bo, own_bm⟩ := hP
  replace own_bo : Own W4 bo [(.int .u8 (x.k)), (.int .i64 (x.n)), (.string (x.t)), (.slice cna (x.ns.length) cnc), (.slice cia (x.xs.length) cic), (.map (some bm)), (.int .i64 (tkE x e ⟨#[107, 101, 121, 105, 100, 115]⟩ (textsE 16)))] 74 := own_bo
  replace own_bm : OwnM W4 bm (tkA x A e ⟨#[107, 101, 121, 105, 100, 115]⟩ (textsE 16)) := own_bm
  replace kw := keeps_L kw hk (in_cons (.inr (by simp)) (in_cons (.inr (by simp)) in_nil))
  clear hR hk hg
  refine tail_nil (hK3 _ _ ?_)
  refine wp_seq_k fun K5 hK5 => ?_
  refine wp_seq_k fun K6 hK6 => ?_
  refine rg mixed y4 zz4 ?_
  refine .i (sp_move (hbs rfl e3)) ?_
  refine .i (sp_lenSs Try.underlying23 ((hlc rfl).dat D_v3_4 sub_all)) ?_
  refine .i (sp_eql (hlc rfl) Has.cst) ?_
  refine .done ⟨by kernel_rfl, fun a7 g W7 y7 zz7 hk hg hV hR hP => ?_⟩
  obtain ⟨e9, -, -, -⟩ := hV
  replace e0 := (hR 0 rfl).trans e0
  replace e2 := (hR 2 rfl).trans e2
  replace e3 := (hR 3 rfl).trans e3
  replace D_cn := D_cn.ext hk
  replace D_ci := D_ci.ext hk
  replace D_v3_4 := D_v3_4.ext hk
  replace e9 := e9.q
  replace own_bo := own_bo.ext hk
  replace own_bm := own_bm.ext hk
  replace own_b2_2 := own_b2_2.ext hk
  replace kw := kw.x hk
  clear hR hk hg hP
  refine tail_nil (hK6 _ _ ?_)
  refine wp_cond_split e9 (fun hc => ?_) (fun hc => ?_)
  ·
   have hl : (idsP x e).length = 0 := by have h := eq_of_beq hc; unfold idsP; omega
   have h2 : e2P x e = failK x.k (e1P x e) 4 := by rw [e2P, if_pos hl]
   refine wp_reg (fun k => k ∉ [bo]) (Ψ := fun W => Own W bo [(.int .u8 (x.k)), (.int .i64 (x.n)), (.string (x.t)), (.slice cna (x.ns.length) cnc), (.slice cia (x.xs.length) cic), (.map (some bm)), (.int .i64 (tkE x e ⟨#[107, 101, 121, 105, 100, 115]⟩ (textsE 16)))] 74) mixed y7 zz7 stE_own own_bo ?_
   refine .i (sp_move (hbs rfl e0)) ?_
   refine .callL2 (φ1 := Is (.pointer (some ⟨bo, 0, none⟩))) (φ2 := Is (.int .i64 (4))) (φ := Is (.tuple #[])) (Ψ' := fun W => Own W bo [(.int .u8 (x.k)), (.int .i64 (x.n)), (.string (x.t)), (.slice cna (x.ns.length) cnc), (.slice cia (x.xs.length) cic), (.map (some bm)), (.int .i64 (failK x.k (tkE x e ⟨#[107, 101, 121, 105, 100, 115]⟩ (textsE 16)) 4))] 74) ent22 (hlc rfl) Has.cst (st_is _) stE_own (fun g u1 u2 W hk hg h1 h2 hP => by have h1 : u1 = _ := h1; subst u1; have h2 : u2 = _ := h2; subst u2; exact (Fail_ok _ _ _ _ _ _ _ (4) W _ hP)) ?_
   refine .done ⟨by kernel_rfl, fun a8 g W8 y8 zz8 hk hg hV hR hP => ?_⟩
   obtain ⟨-, -, -⟩ := hV
   replace e0 := (hR 0 rfl).trans e0
   replace e2 := (hR 2 rfl).trans e2
   replace e3 := (hR 3 rfl).trans e3
   replace D_cn := sa_keepL D_cn hk (by simp)
   replace D_ci := sa_keepL D_ci hk (by simp)
   replace D_v3_4 := sf_keepL D_v3_4 hk (by simp)
   replace own_bm := ownM_keepL own_bm hk (by simp [hne.symm])
   replace own_b2_2 := own_keepL own_b2_2 hk (by simp [ne_bo_b2_2.symm])
   have own_bo := hP
   replace own_bo : Own W8 bo [(.int .u8 (x.k)), (.int .i64 (x.n)), (.string (x.t)), (.slice cna (x.ns.length) cnc), (.slice cia (x.xs.length) cic), (.map (some bm)), (.int .i64 (failK x.k (tkE x e ⟨#[107, 101, 121, 105, 100, 115]⟩ (textsE 16)) 4))] 74 := own_bo
   replace kw := keeps_L kw hk (in_cons (.inr (by simp)) in_nil)
   clear hR hk hg hP
   refine tail_nil (hK5 _ _ ?_)
   refine wp_seq_k fun K9 hK9 => ?_
   refine wp_reg (fun k => k ∉ [bo]) (Ψ := fun W => Own W bo [(.int .u8 (x.k)), (.int .i64 (x.n)), (.string (x.t)), (.slice cna (x.ns.length) cnc), (.slice cia (x.xs.length) cic), (.map (some bm)), (.int .i64 (failK x.k (tkE x e ⟨#[107, 101, 121, 105, 100, 115]⟩ (textsE 16)) 4))] 74) mixed y8 zz8 stE_own own_bo ?_
   refine .i (sp_move (hbs rfl e0)) ?_
   refine .i (sp_move (hbs rfl e3)) ?_
   refine .i (v := (.int .i64 (wrongE [] (if tkB x e ⟨#[107, 101, 121, 105, 100, 115]⟩ (textsE 16) then textsL 16 (getV x ⟨#[107, 101, 121, 105, 100, 115]⟩) else [])))) (sp_call1 (φ1 := IsD (SF w [b2_2, bo, bm]) (strsD (if tkB x e ⟨#[107, 101, 121, 105, 100, 115]⟩ (textsE 16) then textsL 16 (getV x ⟨#[107, 101, 121, 105, 100, 115]⟩) else []))) ent77 ((hlc rfl).dat D_v3_4 (sub_nlF (by simp))) (fun g u1 W hk hgk h1 => wrong_ok (if tkB x e ⟨#[107, 101, 121, 105, 100, 115]⟩ (textsE 16) then textsL 16 (getV x ⟨#[107, 101, 121, 105, 100, 115]⟩) else []) W _ _ h1)) ?_
   refine .callL2 (φ1 := Is (.pointer (some ⟨bo, 0, none⟩))) (φ2 := Is (.int .i64 (wrongE [] (if tkB x e ⟨#[107, 101, 121, 105, 100, 115]⟩ (textsE 16) then textsL 16 (getV x ⟨#[107, 101, 121, 105, 100, 115]⟩) else [])))) (φ := Is (.tuple #[])) (Ψ' := fun W => Own W bo [(.int .u8 (x.k)), (.int .i64 (x.n)), (.string (x.t)), (.slice cna (x.ns.length) cnc), (.slice cia (x.xs.length) cic), (.map (some bm)), (.int .i64 (failK x.k (failK x.k (tkE x e ⟨#[107, 101, 121, 105, 100, 115]⟩ (textsE 16)) 4) (wrongE [] (if tkB x e ⟨#[107, 101, 121, 105, 100, 115]⟩ (textsE 16) then textsL 16 (getV x ⟨#[107, 101, 121, 105, 100, 115]⟩) else []))))] 74) ent22 (hlc rfl) (hlc rfl) (st_is _) stE_own (fun g u1 u2 W hk hg h1 h2 hP => by have h1 : u1 = _ := h1; subst u1; have h2 : u2 = _ := h2; subst u2; exact (Fail_ok _ _ _ _ _ _ _ (wrongE [] (if tkB x e ⟨#[107, 101, 121, 105, 100, 115]⟩ (textsE 16) then textsL 16 (getV x ⟨#[107, 101, 121, 105, 100, 115]⟩) else [])) W _ hP)) ?_
   refine .done ⟨by kernel_rfl, fun a10 g W10 y10 zz10 hk hg hV hR hP => ?_⟩
   obtain ⟨-, -, -, -, -⟩ := hV
   replace e0 := (hR 0 rfl).trans e0
   replace e2 := (hR 2 rfl).trans e2
   replace e3 := (hR 3 rfl).trans e3
   replace D_cn := sa_keepL D_cn hk (by simp)
   replace D_ci := sa_keepL D_ci hk (by simp)
   replace D_v3_4 := sf_keepL D_v3_4 hk (by simp)
   replace own_bm := ownM_keepL own_bm hk (by simp [hne.symm])
   replace own_b2_2 := own_keepL own_b2_2 hk (by simp [ne_bo_b2_2.symm])
   have own_bo := hP
   replace own_bo : Own W10 bo [(.int .u8 (x.k)), (.int .i64 (x.n)), (.string (x.t)), (.slice cna (x.ns.length) cnc), (.slice cia (x.xs.length) cic), (.map (some bm)), (.int .i64 (failK x.k (failK x.k (tkE x e ⟨#[107, 101, 121, 105, 100, 115]⟩ (textsE 16)) 4) (wrongE [] (if tkB x e ⟨#[107, 101, 121, 105, 100, 115]⟩ (textsE 16) then textsL 16 (getV x ⟨#[107, 101, 121, 105, 100, 115]⟩) else []))))] 74 := own_bo
   replace kw := keeps_L kw hk (in_cons (.inr (by simp)) in_nil)
   clear hR hk hg hP
   refine tail_nil (hK9 _ _ ?_)
   refine wp_seq_k fun K11 hK11 => ?_
   refine wp_reg (fun k => k ∉ [bo, bm]) (Ψ := fun W => Own W bo [(.int .u8 (x.k)), (.int .i64 (x.n)), (.string (x.t)), (.slice cna (x.ns.length) cnc), (.slice cia (x.xs.length) cic), (.map (some bm)), (.int .i64 (failK x.k (failK x.k (tkE x e ⟨#[107, 101, 121, 105, 100, 115]⟩ (textsE 16)) 4) (wrongE [] (if tkB x e ⟨#[107, 101, 121, 105, 100, 115]⟩ (textsE 16) then textsL 16 (getV x ⟨#[107, 101, 121, 105, 100, 115]⟩) else []))))] 74 ∧ OwnM W bm (tkA x A e ⟨#[107, 101, 121, 105, 100, 115]⟩ (textsE 16))) mixed y10 zz10 (stE_and stE_own stE_ownM) ⟨own_bo, own_bm⟩ ?_
   refine .i (sp_move (hbs rfl e0)) ?_
   refine .i (sp_move (hbs rfl e3)) ?_
   refine .i (sp_lenSs Try.underlying23 ((hlc rfl).dat D_v3_4 (sub_nlF (by simp)))) ?_
   refine .callL4 (φ1 := Is (.pointer (some ⟨bo, 0, none⟩))) (φ2 := Is (.string (⟨#[116, 104, 114, 101, 115, 104, 111, 108, 100]⟩))) (φ3 := Is (.int .i64 (1))) (φ4 := Is (.int .i64 ((if tkB x e ⟨#[107, 101, 121, 105, 100, 115]⟩ (textsE 16) then textsL 16 (getV x ⟨#[107, 101, 121, 105, 100, 115]⟩) else []).length))) (φ := Is (.int .i64 (if tkB x (failK x.k (failK x.k (tkE x e ⟨#[107, 101, 121, 105, 100, 115]⟩ (textsE 16)) 4) (wrongE [] (if tkB x e ⟨#[107, 101, 121, 105, 100, 115]⟩ (textsE 16) then textsL 16 (getV x ⟨#[107, 101, 121, 105, 100, 115]⟩) else []))) ⟨#[116, 104, 114, 101, 115, 104, 111, 108, 100]⟩ (numE 1 ((if tkB x e ⟨#[107, 101, 121, 105, 100, 115]⟩ (textsE 16) then textsL 16 (getV x ⟨#[107, 101, 121, 105, 100, 115]⟩) else []).length)) then numV 1 ((if tkB x e ⟨#[107, 101, 121, 105, 100, 115]⟩ (textsE 16) then textsL 16 (getV x ⟨#[107, 101, 121, 105, 100, 115]⟩) else []).length) (getV x ⟨#[116, 104, 114, 101, 115, 104, 111, 108, 100]⟩) else 0))) (Ψ' := fun W => Own W bo [(.int .u8 (x.k)), (.int .i64 (x.n)), (.string (x.t)), (.slice cna (x.ns.length) cnc), (.slice cia (x.xs.length) cic), (.map (some bm)), (.int .i64 (tkE x (failK x.k (failK x.k (tkE x e ⟨#[107, 101, 121, 105, 100, 115]⟩ (textsE 16)) 4) (wrongE [] (if tkB x e ⟨#[107, 101, 121, 105, 100, 115]⟩ (textsE 16) then textsL 16 (getV x ⟨#[107, 101, 121, 105, 100, 115]⟩) else []))) ⟨#[116, 104, 114, 101, 115, 104, 111, 108, 100]⟩ (numE 1 ((if tkB x e ⟨#[107, 101, 121, 105, 100, 115]⟩ (textsE 16) then textsL 16 (getV x ⟨#[107, 101, 121, 105, 100, 115]⟩) else []).length))))] 74 ∧ OwnM W bm (tkA x (tkA x A e ⟨#[107, 101, 121, 105, 100, 115]⟩ (textsE 16)) (failK x.k (failK x.k (tkE x e ⟨#[107, 101, 121, 105, 100, 115]⟩ (textsE 16)) 4) (wrongE [] (if tkB x e ⟨#[107, 101, 121, 105, 100, 115]⟩ (textsE 16) then textsL 16 (getV x ⟨#[107, 101, 121, 105, 100, 115]⟩) else []))) ⟨#[116, 104, 114, 101, 115, 104, 111, 108, 100]⟩ (numE 1 ((if tkB x e ⟨#[107, 101, 121, 105, 100, 115]⟩ (textsE 16) then textsL 16 (getV x ⟨#[107, 101, 121, 105, 100, 115]⟩) else []).length)))) ent44 (hlc rfl) Has.cst Has.cst (hlc rfl) (st_is _) (stE_and stE_own stE_ownM) (fun g u1 u2 u3 u4 W hk hg h1 h2 h3 h4 hP => by have h1 : u1 = _ := h1; subst u1; have h2 : u2 = _ := h2; subst u2; have h3 : u3 = _ := h3; subst u3; have h4 : u4 = _ := h4; subst u4; exact (Num_ok (x) (tkA x A e ⟨#[107, 101, 121, 105, 100, 115]⟩ (textsE 16)) (failK x.k (failK x.k (tkE x e ⟨#[107, 101, 121, 105, 100, 115]⟩ (textsE 16)) 4) (wrongE [] (if tkB x e ⟨#[107, 101, 121, 105, 100, 115]⟩ (textsE 16) then textsL 16 (getV x ⟨#[107, 101, 121, 105, 100, 115]⟩) else []))) (hA.tk.mono (by omega)) hx hxt ⟨#[116, 104, 114, 101, 115, 104, 111, 108, 100]⟩ 1 ((if tkB x e ⟨#[107, 101, 121, 105, 100, 115]⟩ (textsE 16) then textsL 16 (getV x ⟨#[107, 101, 121, 105, 100, 115]⟩) else []).length) W _ _ _ _ _ (sa_cln hS) (sa_notin (by simp)) hne (sa_keepL D_cn hk (by simp)) (sa_keepL D_ci hk (by simp)) hP.1 hP.2)) ?_
   refine .i (sp_assign (hlc rfl)) ?_
   refine .done ⟨by kernel_rfl, fun a12 g W12 y12 zz12 hk hg hV hR hP => ?_⟩
   obtain ⟨e4, -, -, -, -, -⟩ := hV
   replace e0 := (hR 0 rfl).trans e0
   replace e2 := (hR 2 rfl).trans e2
   replace e3 := (hR 3 rfl).trans e3
   replace e4 := e4.q
   replace D_cn := sa_keepL D_cn hk (by simp)
   replace D_ci := sa_keepL D_ci hk (by simp)
   replace D_v3_4 := sf_keepL D_v3_4 hk (by simp)
   replace own_b2_2 := own_keepL own_b2_2 hk (by simp [ne_bo_b2_2.symm, ne_bm_b2_2.symm])
   obtain ⟨own_bo, own_bm⟩ := hP
   replace own_bo : Own W12 bo [(.int .u8 (x.k)), (.int .i64 (x.n)), (.string (x.t)), (.slice cna (x.ns.length) cnc), (.slice cia (x.xs.length) cic), (.map (some bm)), (.int .i64 (tkE x (failK x.k (failK x.k (tkE x e ⟨#[107, 101, 121, 105, 100, 115]⟩ (textsE 16)) 4) (wrongE [] (if tkB x e ⟨#[107, 101, 121, 105, 100, 115]⟩ (textsE 16) then textsL 16 (getV x ⟨#[107, 101, 121, 105, 100, 115]⟩) else []))) ⟨#[116, 104, 114, 101, 115, 104, 111, 108, 100]⟩ (numE 1 ((if tkB x e ⟨#[107, 101, 121, 105, 100, 115]⟩ (textsE 16) then textsL 16 (getV x ⟨#[107, 101, 121, 105, 100, 115]⟩) else []).length))))] 74 := own_bo
   replace own_bm : OwnM W12 bm (tkA x (tkA x A e ⟨#[107, 101, 121, 105, 100, 115]⟩ (textsE 16)) (failK x.k (failK x.k (tkE x e ⟨#[107, 101, 121, 105, 100, 115]⟩ (textsE 16)) 4) (wrongE [] (if tkB x e ⟨#[107, 101, 121, 105, 100, 115]⟩ (textsE 16) then textsL 16 (getV x ⟨#[107, 101, 121, 105, 100, 115]⟩) else []))) ⟨#[116, 104, 114, 101, 115, 104, 111, 108, 100]⟩ (numE 1 ((if tkB x e ⟨#[107, 101, 121, 105, 100, 115]⟩ (textsE 16) then textsL 16 (getV x ⟨#[107, 101, 121, 105, 100, 115]⟩) else []).length))) := own_bm
   replace kw := keeps_L kw hk (in_cons (.inr (by simp)) (in_cons (.inr (by simp)) in_nil))
   clear hR hk hg
   refine tail_nil (hK11 _ _ ?_)
   refine wp_seq_k fun K13 hK13 => ?_
   refine wp_seq_k fun K14 hK14 => ?_
   refine rg mixed y12 zz12 ?_
   refine .i (sp_move (hbs rfl e0)) ?_
   refine .i (v := (.int .i64 (errK x.k (tkE x (failK x.k (failK x.k (tkE x e ⟨#[107, 101, 121, 105, 100, 115]⟩ (textsE 16)) 4) (wrongE [] (if tkB x e ⟨#[107, 101, 121, 105, 100, 115]⟩ (textsE 16) then textsL 16 (getV x ⟨#[107, 101, 121, 105, 100, 115]⟩) else []))) ⟨#[116, 104, 114, 101, 115, 104, 111, 108, 100]⟩ (numE 1 ((if tkB x e ⟨#[107, 101, 121, 105, 100, 115]⟩ (textsE 16) then textsL 16 (getV x ⟨#[107, 101, 121, 105, 100, 115]⟩) else []).length)))))) (sp_call1 (φ1 := Is (.pointer (some ⟨bo, 0, none⟩))) ent24 (hlc rfl) (fun g u1 W hk hgk h1 => by have h1 : u1 = _ := h1; subst u1; exact Err_ok _ _ _ _ _ _ _ W _ (own_bo.ext hk))) ?_
   refine .i (sp_neq (hlc rfl) Has.cst) ?_
   refine .done ⟨by kernel_rfl, fun a15 g W15 y15 zz15 hk hg hV hR hP => ?_⟩
   obtain ⟨e22, -, -, -⟩ := hV
   replace e2 := (hR 2 rfl).trans e2
   replace e3 := (hR 3 rfl).trans e3
   replace e4 := (hR 4 rfl).trans e4
   replace D_cn := D_cn.ext hk
   replace D_ci := D_ci.ext hk
   replace D_v3_4 := D_v3_4.ext hk
   replace e22 := e22.q
   replace own_bo := own_bo.ext hk
   replace own_bm := own_bm.ext hk
   replace own_b2_2 := own_b2_2.ext hk
   replace kw := kw.x hk
   clear hR hk hg hP
   refine tail_nil (hK14 _ _ ?_)
   refine wp_cond_split e22 (fun hc => ?_) (fun hc => ?_)
   ·
    have hE := bne_iff_ne.1 hc
    refine wp_seq_k fun K16 hK16 => ?_
    refine rg mixed y15 zz15 ?_
    refine .i (v := (.agg #[(.int .i64 (0)), (.slice none 0 0)])) (sp_build (vs := []) Try.underlying27 z27 (pl27 Try.underlying27) trivial rfl) ?_
    refine .done ⟨by kernel_rfl, fun a17 g W17 y17 zz17 hk hg hV hR hP => ?_⟩
    obtain ⟨e23, -⟩ := hV
    replace e2 := (hR 2 rfl).trans e2
    replace D_cn := D_cn.ext hk
    replace D_ci := D_ci.ext hk
    replace D_v3_4 := D_v3_4.ext hk
    replace e23 := e23.q
    replace own_bo := own_bo.ext hk
    replace own_bm := own_bm.ext hk
    replace own_b2_2 := own_b2_2.ext hk
    replace kw := kw.x hk
    clear hR hk hg hP
    refine tail_store (b := b2_2) (o := 0) (v := (.agg #[(.int .i64 (0)), (.slice none 0 0)])) e2 e23 sz27 rfl own_b2_2 (lbr rfl) (all_cons rfl (all_cons rfl all_nil)) (fun W18 hs own_b2_2 => ?_)
    have own_b2_2 : Own W18 b2_2 [(.int .i64 (0)), (.slice none 0 0)] 27 := own_b2_2
    replace own_bo := own_store own_bo hs ne_bo_b2_2
    replace own_bm := ownM_store own_bm hs ne_bm_b2_2
    replace D_cn := sa_store D_cn hs (by simp)
    replace D_ci := sa_store D_ci hs (by simp)
    replace D_v3_4 := sf_store D_v3_4 hs (by simp)
    replace kw := keeps_store kw hs lo_b2_2
    clear hs
    refine tail_nil (hK16 _ _ ?_)
    refine wp_ret ?_
    refine (show bodyPost Try.prog Try.f23 _ .ret _ _ from retC (v := (.agg #[(.int .i64 (0)), (.slice none 0 0)])) rfl zz17 e2 own_b2_2 agg27 sz27 rfl (fun h => by cases h) rfl ⟨_, rfl, kw, ?_⟩)
    have hpa : partA x e = ⟨0, []⟩ := by rw [partA, if_pos (by rw [partE, e3P, h2]; exact hE)]
    refine ⟨?_, by rw [partE, e3P, h2]; exact own_bo, by rw [partM, e3P, h2]; exact own_bm⟩
    rw [hpa]
    exact sf_fr (rdAu_mk (rd_nil _) : Rd W18 (SF w [b2_2, bo, bm]) (Au.d (Au.mk (0) ([]))) _)
   ·
    have hE := bne_eq_false_iff_eq.1 hc
    refine wp_skip (hK13 _ _ ?_)
    refine wp_seq_k fun K19 hK19 => ?_
    refine rg mixed y15 zz15 ?_
    refine .i (sp_move (hbs rfl e4)) ?_
    refine .i (sp_move (hbs rfl e3)) ?_
    refine .i (v := (.agg #[(.int .i64 (if tkB x (failK x.k (failK x.k (tkE x e ⟨#[107, 101, 121, 105, 100, 115]⟩ (textsE 16)) 4) (wrongE [] (if tkB x e ⟨#[107, 101, 121, 105, 100, 115]⟩ (textsE 16) then textsL 16 (getV x ⟨#[107, 101, 121, 105, 100, 115]⟩) else []))) ⟨#[116, 104, 114, 101, 115, 104, 111, 108, 100]⟩ (numE 1 ((if tkB x e ⟨#[107, 101, 121, 105, 100, 115]⟩ (textsE 16) then textsL 16 (getV x ⟨#[107, 101, 121, 105, 100, 115]⟩) else []).length)) then numV 1 ((if tkB x e ⟨#[107, 101, 121, 105, 100, 115]⟩ (textsE 16) then textsL 16 (getV x ⟨#[107, 101, 121, 105, 100, 115]⟩) else []).length) (getV x ⟨#[116, 104, 114, 101, 115, 104, 111, 108, 100]⟩) else 0)), (.slice v3_4a ((if tkB x e ⟨#[107, 101, 121, 105, 100, 115]⟩ (textsE 16) then textsL 16 (getV x ⟨#[107, 101, 121, 105, 100, 115]⟩) else []).length) v3_4c)])) (sp_build (vs := [(0, (.int .i64 (if tkB x (failK x.k (failK x.k (tkE x e ⟨#[107, 101, 121, 105, 100, 115]⟩ (textsE 16)) 4) (wrongE [] (if tkB x e ⟨#[107, 101, 121, 105, 100, 115]⟩ (textsE 16) then textsL 16 (getV x ⟨#[107, 101, 121, 105, 100, 115]⟩) else []))) ⟨#[116, 104, 114, 101, 115, 104, 111, 108, 100]⟩ (numE 1 ((if tkB x e ⟨#[107, 101, 121, 105, 100, 115]⟩ (textsE 16) then textsL 16 (getV x ⟨#[107, 101, 121, 105, 100, 115]⟩) else []).length)) then numV 1 ((if tkB x e ⟨#[107, 101, 121, 105, 100, 115]⟩ (textsE 16) then textsL 16 (getV x ⟨#[107, 101, 121, 105, 100, 115]⟩) else []).length) (getV x ⟨#[116, 104, 114, 101, 115, 104, 111, 108, 100]⟩) else 0))), (1, (.slice v3_4a ((if tkB x e ⟨#[107, 101, 121, 105, 100, 115]⟩ (textsE 16) then textsL 16 (getV x ⟨#[107, 101, 121, 105, 100, 115]⟩) else []).length) v3_4c))]) Try.underlying27 z27 (pl27 Try.underlying27) ⟨rfl, (hlc rfl), rfl, (hlc rfl), trivial⟩ rfl) ?_
    refine .done ⟨by kernel_rfl, fun a20 g W20 y20 zz20 hk hg hV hR hP => ?_⟩
    obtain ⟨e26, -, -, -⟩ := hV
    replace e2 := (hR 2 rfl).trans e2
    replace D_cn := D_cn.ext hk
    replace D_ci := D_ci.ext hk
    replace D_v3_4 := D_v3_4.ext hk
    replace e26 := e26.q
    replace own_bo := own_bo.ext hk
    replace own_bm := own_bm.ext hk
    replace own_b2_2 := own_b2_2.ext hk
    replace kw := kw.x hk
    clear hR hk hg hP
    refine tail_store (b := b2_2) (o := 0) (v := (.agg #[(.int .i64 (if tkB x (failK x.k (failK x.k (tkE x e ⟨#[107, 101, 121, 105, 100, 115]⟩ (textsE 16)) 4) (wrongE [] (if tkB x e ⟨#[107, 101, 121, 105, 100, 115]⟩ (textsE 16) then textsL 16 (getV x ⟨#[107, 101, 121, 105, 100, 115]⟩) else []))) ⟨#[116, 104, 114, 101, 115, 104, 111, 108, 100]⟩ (numE 1 ((if tkB x e ⟨#[107, 101, 121, 105, 100, 115]⟩ (textsE 16) then textsL 16 (getV x ⟨#[107, 101, 121, 105, 100, 115]⟩) else []).length)) then numV 1 ((if tkB x e ⟨#[107, 101, 121, 105, 100, 115]⟩ (textsE 16) then textsL 16 (getV x ⟨#[107, 101, 121, 105, 100, 115]⟩) else []).length) (getV x ⟨#[116, 104, 114, 101, 115, 104, 111, 108, 100]⟩) else 0)), (.slice v3_4a ((if tkB x e ⟨#[107, 101, 121, 105, 100, 115]⟩ (textsE 16) then textsL 16 (getV x ⟨#[107, 101, 121, 105, 100, 115]⟩) else []).length) v3_4c)])) e2 e26 sz27 rfl own_b2_2 (lbr rfl) (all_cons rfl (all_cons rfl all_nil)) (fun W21 hs own_b2_2 => ?_)
    have own_b2_2 : Own W21 b2_2 [(.int .i64 (if tkB x (failK x.k (failK x.k (tkE x e ⟨#[107, 101, 121, 105, 100, 115]⟩ (textsE 16)) 4) (wrongE [] (if tkB x e ⟨#[107, 101, 121, 105, 100, 115]⟩ (textsE 16) then textsL 16 (getV x ⟨#[107, 101, 121, 105, 100, 115]⟩) else []))) ⟨#[116, 104, 114, 101, 115, 104, 111, 108, 100]⟩ (numE 1 ((if tkB x e ⟨#[107, 101, 121, 105, 100, 115]⟩ (textsE 16) then textsL 16 (getV x ⟨#[107, 101, 121, 105, 100, 115]⟩) else []).length)) then numV 1 ((if tkB x e ⟨#[107, 101, 121, 105, 100, 115]⟩ (textsE 16) then textsL 16 (getV x ⟨#[107, 101, 121, 105, 100, 115]⟩) else []).length) (getV x ⟨#[116, 104, 114, 101, 115, 104, 111, 108, 100]⟩) else 0)), (.slice v3_4a ((if tkB x e ⟨#[107, 101, 121, 105, 100, 115]⟩ (textsE 16) then textsL 16 (getV x ⟨#[107, 101, 121, 105, 100, 115]⟩) else []).length) v3_4c)] 27 := own_b2_2
    replace own_bo := own_store own_bo hs ne_bo_b2_2
    replace own_bm := ownM_store own_bm hs ne_bm_b2_2
    replace D_cn := sa_store D_cn hs (by simp)
    replace D_ci := sa_store D_ci hs (by simp)
    replace D_v3_4 := sf_store D_v3_4 hs (by simp)
    replace kw := keeps_store kw hs lo_b2_2
    clear hs
    refine tail_nil (hK19 _ _ ?_)
    refine wp_ret ?_
    refine (show bodyPost Try.prog Try.f23 _ .ret _ _ from retC (v := (.agg #[(.int .i64 (if tkB x (failK x.k (failK x.k (tkE x e ⟨#[107, 101, 121, 105, 100, 115]⟩ (textsE 16)) 4) (wrongE [] (if tkB x e ⟨#[107, 101, 121, 105, 100, 115]⟩ (textsE 16) then textsL 16 (getV x ⟨#[107, 101, 121, 105, 100, 115]⟩) else []))) ⟨#[116, 104, 114, 101, 115, 104, 111, 108, 100]⟩ (numE 1 ((if tkB x e ⟨#[107, 101, 121, 105, 100, 115]⟩ (textsE 16) then textsL 16 (getV x ⟨#[107, 101, 121, 105, 100, 115]⟩) else []).length)) then numV 1 ((if tkB x e ⟨#[107, 101, 121, 105, 100, 115]⟩ (textsE 16) then textsL 16 (getV x ⟨#[107, 101, 121, 105, 100, 115]⟩) else []).length) (getV x ⟨#[116, 104, 114, 101, 115, 104, 111, 108, 100]⟩) else 0)), (.slice v3_4a ((if tkB x e ⟨#[107, 101, 121, 105, 100, 115]⟩ (textsE 16) then textsL 16 (getV x ⟨#[107, 101, 121, 105, 100, 115]⟩) else []).length) v3_4c)])) rfl zz20 e2 own_b2_2 agg27 sz27 rfl (fun h => by cases h) rfl ⟨_, rfl, kw, ?_⟩)
    have hpa : partA x e = ⟨thP x e, idsP x e⟩ := by rw [partA, if_neg (by rw [partE, e3P, h2]; exact fun h => h hE)]
    refine ⟨?_, by rw [partE, e3P, h2]; exact own_bo, by rw [partM, e3P, h2]; exact own_bm⟩
    rw [hpa]
    rw [thP, e3P, h2]
    exact sf_fr (rdAu_mk D_v3_4 : Rd W21 (SF w [b2_2, bo, bm]) (Au.d (Au.mk (if tkB x (failK x.k (failK x.k (tkE x e ⟨#[107, 101, 121, 105, 100, 115]⟩ (textsE 16)) 4) (wrongE [] (if tkB x e ⟨#[107, 101, 121, 105, 100, 115]⟩ (textsE 16) then textsL 16 (getV x ⟨#[107, 101, 121, 105, 100, 115]⟩) else []))) ⟨#[116, 104, 114, 101, 115, 104, 111, 108, 100]⟩ (numE 1 ((if tkB x e ⟨#[107, 101, 121, 105, 100, 115]⟩ (textsE 16) then textsL 16 (getV x ⟨#[107, 101, 121, 105, 100, 115]⟩) else []).length)) then numV 1 ((if tkB x e ⟨#[107, 101, 121, 105, 100, 115]⟩ (textsE 16) then textsL 16 (getV x ⟨#[107, 101, 121, 105, 100, 115]⟩) else []).length) (getV x ⟨#[116, 104, 114, 101, 115, 104, 111, 108, 100]⟩) else 0) (if tkB x e ⟨#[107, 101, 121, 105, 100, 115]⟩ (textsE 16) then textsL 16 (getV x ⟨#[107, 101, 121, 105, 100, 115]⟩) else []))) _)
  ·
   have hl : ¬ (idsP x e).length = 0 := by have h := ne_of_beq_false hc; unfold idsP; omega
   have h2 : e2P x e = e1P x e := by rw [e2P, if_neg hl]
   refine wp_skip (hK5 _ _ ?_)
   refine wp_seq_k fun K22 hK22 => ?_
   refine wp_reg (fun k => k ∉ [bo]) (Ψ := fun W => Own W bo [(.int .u8 (x.k)), (.int .i64 (x.n)), (.string (x.t)), (.slice cna (x.ns.length) cnc), (.slice cia (x.xs.length) cic), (.map (some bm)), (.int .i64 (tkE x e ⟨#[107, 101, 121, 105, 100, 115]⟩ (textsE 16)))] 74) mixed y7 zz7 stE_own own_bo ?_
   refine .i (sp_move (hbs rfl e0)) ?_
   refine .i (sp_move (hbs rfl e3)) ?_
   refine .i (v := (.int .i64 (wrongE [] (if tkB x e ⟨#[107, 101, 121, 105, 100, 115]⟩ (textsE 16) then textsL 16 (getV x ⟨#[107, 101, 121, 105, 100, 115]⟩) else [])))) (sp_call1 (φ1 := IsD (SF w [b2_2, bo, bm]) (strsD (if tkB x e ⟨#[107, 101, 121, 105, 100, 115]⟩ (textsE 16) then textsL 16 (getV x ⟨#[107, 101, 121, 105, 100, 115]⟩) else []))) ent77 ((hlc rfl).dat D_v3_4 (sub_nlF (by simp))) (fun g u1 W hk hgk h1 => wrong_ok (if tkB x e ⟨#[107, 101, 121, 105, 100, 115]⟩ (textsE 16) then textsL 16 (getV x ⟨#[107, 101, 121, 105, 100, 115]⟩) else []) W _ _ h1)) ?_
   refine .callL2 (φ1 := Is (.pointer (some ⟨bo, 0, none⟩))) (φ2 := Is (.int .i64 (wrongE [] (if tkB x e ⟨#[107, 101, 121, 105, 100, 115]⟩ (textsE 16) then textsL 16 (getV x ⟨#[107, 101, 121, 105, 100, 115]⟩) else [])))) (φ := Is (.tuple #[])) (Ψ' := fun W => Own W bo [(.int .u8 (x.k)), (.int .i64 (x.n)), (.string (x.t)), (.slice cna (x.ns.length) cnc), (.slice cia (x.xs.length) cic), (.map (some bm)), (.int .i64 (failK x.k (tkE x e ⟨#[107, 101, 121, 105, 100, 115]⟩ (textsE 16)) (wrongE [] (if tkB x e ⟨#[107, 101, 121, 105, 100, 115]⟩ (textsE 16) then textsL 16 (getV x ⟨#[107, 101, 121, 105, 100, 115]⟩) else []))))] 74) ent22 (hlc rfl) (hlc rfl) (st_is _) stE_own (fun g u1 u2 W hk hg h1 h2 hP => by have h1 : u1 = _ := h1; subst u1; have h2 : u2 = _ := h2; subst u2; exact (Fail_ok _ _ _ _ _ _ _ (wrongE [] (if tkB x e ⟨#[107, 101, 121, 105, 100, 115]⟩ (textsE 16) then textsL 16 (getV x ⟨#[107, 101, 121, 105, 100, 115]⟩) else [])) W _ hP)) ?_
   refine .done ⟨by kernel_rfl, fun a23 g W23 y23 zz23 hk hg hV hR hP => ?_⟩
   obtain ⟨-, -, -, -, -⟩ := hV
   replace e0 := (hR 0 rfl).trans e0
   replace e2 := (hR 2 rfl).trans e2
   replace e3 := (hR 3 rfl).trans e3
   replace D_cn := sa_keepL D_cn hk (by simp)
   replace D_ci := sa_keepL D_ci hk (by simp)
   replace D_v3_4 := sf_keepL D_v3_4 hk (by simp)
   replace own_bm := ownM_keepL own_bm hk (by simp [hne.symm])
   replace own_b2_2 := own_keepL own_b2_2 hk (by simp [ne_bo_b2_2.symm])
   have own_bo := hP
   replace own_bo : Own W23 bo [(.int .u8 (x.k)), (.int .i64 (x.n)), (.string (x.t)), (.slice cna (x.ns.length) cnc), (.slice cia (x.xs.length) cic), (.map (some bm)), (.int .i64 (failK x.k (tkE x e ⟨#[107, 101, 121, 105, 100, 115]⟩ (textsE 16)) (wrongE [] (if tkB x e ⟨#[107, 101, 121, 105, 100, 115]⟩ (textsE 16) then textsL 16 (getV x ⟨#[107, 101, 121, 105, 100, 115]⟩) else []))))] 74 := own_bo
   replace kw := keeps_L kw hk (in_cons (.inr (by simp)) in_nil)
   clear hR hk hg hP
   refine tail_nil (hK22 _ _ ?_)
   refine wp_seq_k fun K24 hK24 => ?_
   refine wp_reg (fun k => k ∉ [bo, bm]) (Ψ := fun W => Own W bo [(.int .u8 (x.k)), (.int .i64 (x.n)), (.string (x.t)), (.slice cna (x.ns.length) cnc), (.slice cia (x.xs.length) cic), (.map (some bm)), (.int .i64 (failK x.k (tkE x e ⟨#[107, 101, 121, 105, 100, 115]⟩ (textsE 16)) (wrongE [] (if tkB x e ⟨#[107, 101, 121, 105, 100, 115]⟩ (textsE 16) then textsL 16 (getV x ⟨#[107, 101, 121, 105, 100, 115]⟩) else []))))] 74 ∧ OwnM W bm (tkA x A e ⟨#[107, 101, 121, 105, 100, 115]⟩ (textsE 16))) mixed y23 zz23 (stE_and stE_own stE_ownM) ⟨own_bo, own_bm⟩ ?_
   refine .i (sp_move (hbs rfl e0)) ?_
   refine .i (sp_move (hbs rfl e3)) ?_
   refine .i (sp_lenSs Try.underlying23 ((hlc rfl).dat D_v3_4 (sub_nlF (by simp)))) ?_
   refine .callL4 (φ1 := Is (.pointer (some ⟨bo, 0, none⟩))) (φ2 := Is (.string (⟨#[116, 104, 114, 101, 115, 104, 111, 108, 100]⟩))) (φ3 := Is (.int .i64 (1))) (φ4 := Is (.int .i64 ((if tkB x e ⟨#[107, 101, 121, 105, 100, 115]⟩ (textsE 16) then textsL 16 (getV x ⟨#[107, 101, 121, 105, 100, 115]⟩) else []).length))) (φ := Is (.int .i64 (if tkB x (failK x.k (tkE x e ⟨#[107, 101, 121, 105, 100, 115]⟩ (textsE 16)) (wrongE [] (if tkB x e ⟨#[107, 101, 121, 105, 100, 115]⟩ (textsE 16) then textsL 16 (getV x ⟨#[107, 101, 121, 105, 100, 115]⟩) else []))) ⟨#[116, 104, 114, 101, 115, 104, 111, 108, 100]⟩ (numE 1 ((if tkB x e ⟨#[107, 101, 121, 105, 100, 115]⟩ (textsE 16) then textsL 16 (getV x ⟨#[107, 101, 121, 105, 100, 115]⟩) else []).length)) then numV 1 ((if tkB x e ⟨#[107, 101, 121, 105, 100, 115]⟩ (textsE 16) then textsL 16 (getV x ⟨#[107, 101, 121, 105, 100, 115]⟩) else []).length) (getV x ⟨#[116, 104, 114, 101, 115, 104, 111, 108, 100]⟩) else 0))) (Ψ' := fun W => Own W bo [(.int .u8 (x.k)), (.int .i64 (x.n)), (.string (x.t)), (.slice cna (x.ns.length) cnc), (.slice cia (x.xs.length) cic), (.map (some bm)), (.int .i64 (tkE x (failK x.k (tkE x e ⟨#[107, 101, 121, 105, 100, 115]⟩ (textsE 16)) (wrongE [] (if tkB x e ⟨#[107, 101, 121, 105, 100, 115]⟩ (textsE 16) then textsL 16 (getV x ⟨#[107, 101, 121, 105, 100, 115]⟩) else []))) ⟨#[116, 104, 114, 101, 115, 104, 111, 108, 100]⟩ (numE 1 ((if tkB x e ⟨#[107, 101, 121, 105, 100, 115]⟩ (textsE 16) then textsL 16 (getV x ⟨#[107, 101, 121, 105, 100, 115]⟩) else []).length))))] 74 ∧ OwnM W bm (tkA x (tkA x A e ⟨#[107, 101, 121, 105, 100, 115]⟩ (textsE 16)) (failK x.k (tkE x e ⟨#[107, 101, 121, 105, 100, 115]⟩ (textsE 16)) (wrongE [] (if tkB x e ⟨#[107, 101, 121, 105, 100, 115]⟩ (textsE 16) then textsL 16 (getV x ⟨#[107, 101, 121, 105, 100, 115]⟩) else []))) ⟨#[116, 104, 114, 101, 115, 104, 111, 108, 100]⟩ (numE 1 ((if tkB x e ⟨#[107, 101, 121, 105, 100, 115]⟩ (textsE 16) then textsL 16 (getV x ⟨#[107, 101, 121, 105, 100, 115]⟩) else []).length)))) ent44 (hlc rfl) Has.cst Has.cst (hlc rfl) (st_is _) (stE_and stE_own stE_ownM) (fun g u1 u2 u3 u4 W hk hg h1 h2 h3 h4 hP => by have h1 : u1 = _ := h1; subst u1; have h2 : u2 = _ := h2; subst u2; have h3 : u3 = _ := h3; subst u3; have h4 : u4 = _ := h4; subst u4; exact (Num_ok (x) (tkA x A e ⟨#[107, 101, 121, 105, 100, 115]⟩ (textsE 16)) (failK x.k (tkE x e ⟨#[107, 101, 121, 105, 100, 115]⟩ (textsE 16)) (wrongE [] (if tkB x e ⟨#[107, 101, 121, 105, 100, 115]⟩ (textsE 16) then textsL 16 (getV x ⟨#[107, 101, 121, 105, 100, 115]⟩) else []))) (hA.tk.mono (by omega)) hx hxt ⟨#[116, 104, 114, 101, 115, 104, 111, 108, 100]⟩ 1 ((if tkB x e ⟨#[107, 101, 121, 105, 100, 115]⟩ (textsE 16) then textsL 16 (getV x ⟨#[107, 101, 121, 105, 100, 115]⟩) else []).length) W _ _ _ _ _ (sa_cln hS) (sa_notin (by simp)) hne (sa_keepL D_cn hk (by simp)) (sa_keepL D_ci hk (by simp)) hP.1 hP.2)) ?_
   refine .i (sp_assign (hlc rfl)) ?_
   refine .done ⟨by kernel_rfl, fun a25 g W25 y25 zz25 hk hg hV hR hP => ?_⟩
   obtain ⟨e4, -, -, -, -, -⟩ := hV
   replace e0 := (hR 0 rfl).trans e0
   replace e2 := (hR 2 rfl).trans e2
   replace e3 := (hR 3 rfl).trans e3
   replace e4 := e4.q
   replace D_cn := sa_keepL D_cn hk (by simp)
   replace D_ci := sa_keepL D_ci hk (by simp)
   replace D_v3_4 := sf_keepL D_v3_4 hk (by simp)
   replace own_b2_2 := own_keepL own_b2_2 hk (by simp [ne_bo_b2_2.symm, ne_bm_b2_2.symm])
   obtain ⟨own_bo, own_bm⟩ := hP
   replace own_bo : Own W25 bo [(.int .u8 (x.k)), (.int .i64 (x.n)), (.string (x.t)), (.slice cna (x.ns.length) cnc), (.slice cia (x.xs.length) cic), (.map (some bm)), (.int .i64 (tkE x (failK x.k (tkE x e ⟨#[107, 101, 121, 105, 100, 115]⟩ (textsE 16)) (wrongE [] (if tkB x e ⟨#[107, 101, 121, 105, 100, 115]⟩ (textsE 16) then textsL 16 (getV x ⟨#[107, 101, 121, 105, 100, 115]⟩) else []))) ⟨#[116, 104, 114, 101, 115, 104, 111, 108, 100]⟩ (numE 1 ((if tkB x e ⟨#[107, 101, 121, 105, 100, 115]⟩ (textsE 16) then textsL 16 (getV x ⟨#[107, 101, 121, 105, 100, 115]⟩) else []).length))))] 74 := own_bo
   replace own_bm : OwnM W25 bm (tkA x (tkA x A e ⟨#[107, 101, 121, 105, 100, 115]⟩ (textsE 16)) (failK x.k (tkE x e ⟨#[107, 101, 121, 105, 100, 115]⟩ (textsE 16)) (wrongE [] (if tkB x e ⟨#[107, 101, 121, 105, 100, 115]⟩ (textsE 16) then textsL 16 (getV x ⟨#[107, 101, 121, 105, 100, 115]⟩) else []))) ⟨#[116, 104, 114, 101, 115, 104, 111, 108, 100]⟩ (numE 1 ((if tkB x e ⟨#[107, 101, 121, 105, 100, 115]⟩ (textsE 16) then textsL 16 (getV x ⟨#[107, 101, 121, 105, 100, 115]⟩) else []).length))) := own_bm
   replace kw := keeps_L kw hk (in_cons (.inr (by simp)) (in_cons (.inr (by simp)) in_nil))
   clear hR hk hg
   refine tail_nil (hK24 _ _ ?_)
   refine wp_seq_k fun K26 hK26 => ?_
   refine wp_seq_k fun K27 hK27 => ?_
   refine rg mixed y25 zz25 ?_
   refine .i (sp_move (hbs rfl e0)) ?_
   refine .i (v := (.int .i64 (errK x.k (tkE x (failK x.k (tkE x e ⟨#[107, 101, 121, 105, 100, 115]⟩ (textsE 16)) (wrongE [] (if tkB x e ⟨#[107, 101, 121, 105, 100, 115]⟩ (textsE 16) then textsL 16 (getV x ⟨#[107, 101, 121, 105, 100, 115]⟩) else []))) ⟨#[116, 104, 114, 101, 115, 104, 111, 108, 100]⟩ (numE 1 ((if tkB x e ⟨#[107, 101, 121, 105, 100, 115]⟩ (textsE 16) then textsL 16 (getV x ⟨#[107, 101, 121, 105, 100, 115]⟩) else []).length)))))) (sp_call1 (φ1 := Is (.pointer (some ⟨bo, 0, none⟩))) ent24 (hlc rfl) (fun g u1 W hk hgk h1 => by have h1 : u1 = _ := h1; subst u1; exact Err_ok _ _ _ _ _ _ _ W _ (own_bo.ext hk))) ?_
   refine .i (sp_neq (hlc rfl) Has.cst) ?_
   refine .done ⟨by kernel_rfl, fun a28 g W28 y28 zz28 hk hg hV hR hP => ?_⟩
   obtain ⟨e22, -, -, -⟩ := hV
   replace e2 := (hR 2 rfl).trans e2
   replace e3 := (hR 3 rfl).trans e3
   replace e4 := (hR 4 rfl).trans e4
   replace D_cn := D_cn.ext hk
   replace D_ci := D_ci.ext hk
   replace D_v3_4 := D_v3_4.ext hk
   replace e22 := e22.q
   replace own_bo := own_bo.ext hk
   replace own_bm := own_bm.ext hk
   replace own_b2_2 := own_b2_2.ext hk
   replace kw := kw.x hk
   clear hR hk hg hP
   refine tail_nil (hK27 _ _ ?_)
   refine wp_cond_split e22 (fun hc => ?_) (fun hc => ?_)
   ·
    have hE := bne_iff_ne.1 hc
    refine wp_seq_k fun K29 hK29 => ?_
    refine rg mixed y28 zz28 ?_
    refine .i (v := (.agg #[(.int .i64 (0)), (.slice none 0 0)])) (sp_build (vs := []) Try.underlying27 z27 (pl27 Try.underlying27) trivial rfl) ?_
    refine .done ⟨by kernel_rfl, fun a30 g W30 y30 zz30 hk hg hV hR hP => ?_⟩
    obtain ⟨e23, -⟩ := hV
    replace e2 := (hR 2 rfl).trans e2
    replace D_cn := D_cn.ext hk
    replace D_ci := D_ci.ext hk
    replace D_v3_4 := D_v3_4.ext hk
    replace e23 := e23.q
    replace own_bo := own_bo.ext hk
    replace own_bm := own_bm.ext hk
    replace own_b2_2 := own_b2_2.ext hk
    replace kw := kw.x hk
    clear hR hk hg hP
    refine tail_store (b := b2_2) (o := 0) (v := (.agg #[(.int .i64 (0)), (.slice none 0 0)])) e2 e23 sz27 rfl own_b2_2 (lbr rfl) (all_cons rfl (all_cons rfl all_nil)) (fun W31 hs own_b2_2 => ?_)
    have own_b2_2 : Own W31 b2_2 [(.int .i64 (0)), (.slice none 0 0)] 27 := own_b2_2
    replace own_bo := own_store own_bo hs ne_bo_b2_2
    replace own_bm := ownM_store own_bm hs ne_bm_b2_2
    replace D_cn := sa_store D_cn hs (by simp)
    replace D_ci := sa_store D_ci hs (by simp)
    replace D_v3_4 := sf_store D_v3_4 hs (by simp)
    replace kw := keeps_store kw hs lo_b2_2
    clear hs
    refine tail_nil (hK29 _ _ ?_)
    refine wp_ret ?_
    refine (show bodyPost Try.prog Try.f23 _ .ret _ _ from retC (v := (.agg #[(.int .i64 (0)), (.slice none 0 0)])) rfl zz30 e2 own_b2_2 agg27 sz27 rfl (fun h => by cases h) rfl ⟨_, rfl, kw, ?_⟩)
    have hpa : partA x e = ⟨0, []⟩ := by rw [partA, if_pos (by rw [partE, e3P, h2]; exact hE)]
    refine ⟨?_, by rw [partE, e3P, h2]; exact own_bo, by rw [partM, e3P, h2]; exact own_bm⟩
    rw [hpa]
    exact sf_fr (rdAu_mk (rd_nil _) : Rd W31 (SF w [b2_2, bo, bm]) (Au.d (Au.mk (0) ([]))) _)
   ·
    have hE := bne_eq_false_iff_eq.1 hc
    refine wp_skip (hK26 _ _ ?_)
    refine wp_seq_k fun K32 hK32 => ?_
    refine rg mixed y28 zz28 ?_
    refine .i (sp_move (hbs rfl e4)) ?_
    refine .i (sp_move (hbs rfl e3)) ?_
    refine .i (v := (.agg #[(.int .i64 (if tkB x (failK x.k (tkE x e ⟨#[107, 101, 121, 105, 100, 115]⟩ (textsE 16)) (wrongE [] (if tkB x e ⟨#[107, 101, 121, 105, 100, 115]⟩ (textsE 16) then textsL 16 (getV x ⟨#[107, 101, 121, 105, 100, 115]⟩) else []))) ⟨#[116, 104, 114, 101, 115, 104, 111, 108, 100]⟩ (numE 1 ((if tkB x e ⟨#[107, 101, 121, 105, 100, 115]⟩ (textsE 16) then textsL 16 (getV x ⟨#[107, 101, 121, 105, 100, 115]⟩) else []).length)) then numV 1 ((if tkB x e ⟨#[107, 101, 121, 105, 100, 115]⟩ (textsE 16) then textsL 16 (getV x ⟨#[107, 101, 121, 105, 100, 115]⟩) else []).length) (getV x ⟨#[116, 104, 114, 101, 115, 104, 111, 108, 100]⟩) else 0)), (.slice v3_4a ((if tkB x e ⟨#[107, 101, 121, 105, 100, 115]⟩ (textsE 16) then textsL 16 (getV x ⟨#[107, 101, 121, 105, 100, 115]⟩) else []).length) v3_4c)])) (sp_build (vs := [(0, (.int .i64 (if tkB x (failK x.k (tkE x e ⟨#[107, 101, 121, 105, 100, 115]⟩ (textsE 16)) (wrongE [] (if tkB x e ⟨#[107, 101, 121, 105, 100, 115]⟩ (textsE 16) then textsL 16 (getV x ⟨#[107, 101, 121, 105, 100, 115]⟩) else []))) ⟨#[116, 104, 114, 101, 115, 104, 111, 108, 100]⟩ (numE 1 ((if tkB x e ⟨#[107, 101, 121, 105, 100, 115]⟩ (textsE 16) then textsL 16 (getV x ⟨#[107, 101, 121, 105, 100, 115]⟩) else []).length)) then numV 1 ((if tkB x e ⟨#[107, 101, 121, 105, 100, 115]⟩ (textsE 16) then textsL 16 (getV x ⟨#[107, 101, 121, 105, 100, 115]⟩) else []).length) (getV x ⟨#[116, 104, 114, 101, 115, 104, 111, 108, 100]⟩) else 0))), (1, (.slice v3_4a ((if tkB x e ⟨#[107, 101, 121, 105, 100, 115]⟩ (textsE 16) then textsL 16 (getV x ⟨#[107, 101, 121, 105, 100, 115]⟩) else []).length) v3_4c))]) Try.underlying27 z27 (pl27 Try.underlying27) ⟨rfl, (hlc rfl), rfl, (hlc rfl), trivial⟩ rfl) ?_
    refine .done ⟨by kernel_rfl, fun a33 g W33 y33 zz33 hk hg hV hR hP => ?_⟩
    obtain ⟨e26, -, -, -⟩ := hV
    replace e2 := (hR 2 rfl).trans e2
    replace D_cn := D_cn.ext hk
    replace D_ci := D_ci.ext hk
    replace D_v3_4 := D_v3_4.ext hk
    replace e26 := e26.q
    replace own_bo := own_bo.ext hk
    replace own_bm := own_bm.ext hk
    replace own_b2_2 := own_b2_2.ext hk
    replace kw := kw.x hk
    clear hR hk hg hP
    refine tail_store (b := b2_2) (o := 0) (v := (.agg #[(.int .i64 (if tkB x (failK x.k (tkE x e ⟨#[107, 101, 121, 105, 100, 115]⟩ (textsE 16)) (wrongE [] (if tkB x e ⟨#[107, 101, 121, 105, 100, 115]⟩ (textsE 16) then textsL 16 (getV x ⟨#[107, 101, 121, 105, 100, 115]⟩) else []))) ⟨#[116, 104, 114, 101, 115, 104, 111, 108, 100]⟩ (numE 1 ((if tkB x e ⟨#[107, 101, 121, 105, 100, 115]⟩ (textsE 16) then textsL 16 (getV x ⟨#[107, 101, 121, 105, 100, 115]⟩) else []).length)) then numV 1 ((if tkB x e ⟨#[107, 101, 121, 105, 100, 115]⟩ (textsE 16) then textsL 16 (getV x ⟨#[107, 101, 121, 105, 100, 115]⟩) else []).length) (getV x ⟨#[116, 104, 114, 101, 115, 104, 111, 108, 100]⟩) else 0)), (.slice v3_4a ((if tkB x e ⟨#[107, 101, 121, 105, 100, 115]⟩ (textsE 16) then textsL 16 (getV x ⟨#[107, 101, 121, 105, 100, 115]⟩) else []).length) v3_4c)])) e2 e26 sz27 rfl own_b2_2 (lbr rfl) (all_cons rfl (all_cons rfl all_nil)) (fun W34 hs own_b2_2 => ?_)
    have own_b2_2 : Own W34 b2_2 [(.int .i64 (if tkB x (failK x.k (tkE x e ⟨#[107, 101, 121, 105, 100, 115]⟩ (textsE 16)) (wrongE [] (if tkB x e ⟨#[107, 101, 121, 105, 100, 115]⟩ (textsE 16) then textsL 16 (getV x ⟨#[107, 101, 121, 105, 100, 115]⟩) else []))) ⟨#[116, 104, 114, 101, 115, 104, 111, 108, 100]⟩ (numE 1 ((if tkB x e ⟨#[107, 101, 121, 105, 100, 115]⟩ (textsE 16) then textsL 16 (getV x ⟨#[107, 101, 121, 105, 100, 115]⟩) else []).length)) then numV 1 ((if tkB x e ⟨#[107, 101, 121, 105, 100, 115]⟩ (textsE 16) then textsL 16 (getV x ⟨#[107, 101, 121, 105, 100, 115]⟩) else []).length) (getV x ⟨#[116, 104, 114, 101, 115, 104, 111, 108, 100]⟩) else 0)), (.slice v3_4a ((if tkB x e ⟨#[107, 101, 121, 105, 100, 115]⟩ (textsE 16) then textsL 16 (getV x ⟨#[107, 101, 121, 105, 100, 115]⟩) else []).length) v3_4c)] 27 := own_b2_2
    replace own_bo := own_store own_bo hs ne_bo_b2_2
    replace own_bm := ownM_store own_bm hs ne_bm_b2_2
    replace D_cn := sa_store D_cn hs (by simp)
    replace D_ci := sa_store D_ci hs (by simp)
    replace D_v3_4 := sf_store D_v3_4 hs (by simp)
    replace kw := keeps_store kw hs lo_b2_2
    clear hs
    refine tail_nil (hK32 _ _ ?_)
    refine wp_ret ?_
    refine (show bodyPost Try.prog Try.f23 _ .ret _ _ from retC (v := (.agg #[(.int .i64 (if tkB x (failK x.k (tkE x e ⟨#[107, 101, 121, 105, 100, 115]⟩ (textsE 16)) (wrongE [] (if tkB x e ⟨#[107, 101, 121, 105, 100, 115]⟩ (textsE 16) then textsL 16 (getV x ⟨#[107, 101, 121, 105, 100, 115]⟩) else []))) ⟨#[116, 104, 114, 101, 115, 104, 111, 108, 100]⟩ (numE 1 ((if tkB x e ⟨#[107, 101, 121, 105, 100, 115]⟩ (textsE 16) then textsL 16 (getV x ⟨#[107, 101, 121, 105, 100, 115]⟩) else []).length)) then numV 1 ((if tkB x e ⟨#[107, 101, 121, 105, 100, 115]⟩ (textsE 16) then textsL 16 (getV x ⟨#[107, 101, 121, 105, 100, 115]⟩) else []).length) (getV x ⟨#[116, 104, 114, 101, 115, 104, 111, 108, 100]⟩) else 0)), (.slice v3_4a ((if tkB x e ⟨#[107, 101, 121, 105, 100, 115]⟩ (textsE 16) then textsL 16 (getV x ⟨#[107, 101, 121, 105, 100, 115]⟩) else []).length) v3_4c)])) rfl zz33 e2 own_b2_2 agg27 sz27 rfl (fun h => by cases h) rfl ⟨_, rfl, kw, ?_⟩)
    have hpa : partA x e = ⟨thP x e, idsP x e⟩ := by rw [partA, if_neg (by rw [partE, e3P, h2]; exact fun h => h hE)]
    refine ⟨?_, by rw [partE, e3P, h2]; exact own_bo, by rw [partM, e3P, h2]; exact own_bm⟩
    rw [hpa]
    rw [thP, e3P, h2]
    exact sf_fr (rdAu_mk D_v3_4 : Rd W34 (SF w [b2_2, bo, bm]) (Au.d (Au.mk (if tkB x (failK x.k (tkE x e ⟨#[107, 101, 121, 105, 100, 115]⟩ (textsE 16)) (wrongE [] (if tkB x e ⟨#[107, 101, 121, 105, 100, 115]⟩ (textsE 16) then textsL 16 (getV x ⟨#[107, 101, 121, 105, 100, 115]⟩) else []))) ⟨#[116, 104, 114, 101, 115, 104, 111, 108, 100]⟩ (numE 1 ((if tkB x e ⟨#[107, 101, 121, 105, 100, 115]⟩ (textsE 16) then textsL 16 (getV x ⟨#[107, 101, 121, 105, 100, 115]⟩) else []).length)) then numV 1 ((if tkB x e ⟨#[107, 101, 121, 105, 100, 115]⟩ (textsE 16) then textsL 16 (getV x ⟨#[107, 101, 121, 105, 100, 115]⟩) else []).length) (getV x ⟨#[116, 104, 114, 101, 115, 104, 111, 108, 100]⟩) else 0) (if tkB x e ⟨#[107, 101, 121, 105, 100, 115]⟩ (textsE 16) then textsL 16 (getV x ⟨#[107, 101, 121, 105, 100, 115]⟩) else []))) _)
end Go.Proofs.Ytnobijngkpflcaa
namespace Go.Proofs.Ytnobijngkpflcaa
open Go.Eng
set_option maxRecDepth 100000 in
theorem authOf_ok (x : V) (hx : x.wt ≤ 1073741824) (w : World) (S : BSet) (v : Value) (hS : ∀ b o, S b o → Cln o) (hv : Rd w S x.d v) : Calls Try.prog 16 #[v] w (Ret w fun r W => ∃ r1, r = .tuple #[r1, .int .i64 (ofAE x)] ∧ Rd W (Fr w) (ofAV x).d r1) := by
  by_cases hof : ofE x = 0
  · skip
    obtain ⟨cn0a, cn0c, ci0a, ci0c, ev, ht0, D_cn0, D_ci0⟩ := rdV_out (rd_arg hv)
    subst ev
    refine enter Try.func16 rfl Try.ntmps16 (lbr rfl) fun a0 y0 zz0 harg => ?_
    have e0 : sl a0 0 = (.agg #[(.int .u8 (x.k)), (.int .i64 (x.n)), (.string (x.t)), (.slice cn0a (x.ns.length) cn0c), (.slice ci0a (x.xs.length) ci0c)]) := harg 0 (lbr rfl)
    have kw := Keeps.refl All w
    clear harg
    refine wp_seq_k fun K1 hK1 => ?_
    refine rg mixed y0 zz0 ?_
    refine .boxOp (v := (.agg #[(.int .u8 (x.k)), (.int .i64 (x.n)), (.string (x.t)), (.slice cn0a (x.ns.length) cn0c), (.slice ci0a (x.xs.length) ci0c)])) (hbs rfl e0) ?_
    refine .alloc z27 ?_
    refine .i (sp_assign Has.cst) ?_
    refine .done ⟨by kernel_rfl, fun a2 g W2 y2 zz2 hk hg hV hR hP => ?_⟩
    obtain ⟨-, ⟨b2_2, e2, hb2, own_b2_2⟩, ⟨b1_2, e1, hb1, own_b1_2⟩, -⟩ := hV
    have lo_b2_2 : w.heap.size ≤ b2_2 := Nat.le_trans kw.size (hg.lo _ _ hb2)
    have own_b2_2 : Own W2 b2_2 [(.int .i64 (0)), (.slice none 0 0)] 27 := own_b2_2
    have lo_b1_2 : w.heap.size ≤ b1_2 := Nat.le_trans kw.size (hg.lo _ _ hb1)
    have own_b1_2 : Own W2 b1_2 [(.int .u8 (x.k)), (.int .i64 (x.n)), (.string (x.t)), (.slice cn0a (x.ns.length) cn0c), (.slice ci0a (x.xs.length) ci0c)] 33 := own_b1_2
    have ne_b2_2_b1_2 : b2_2 ≠ b1_2 := fun h => by have := hg.inj _ _ _ hb2 (h ▸ hb1); cases this
    replace D_cn0 := sa_more D_cn0 hk [b2_2, b1_2] (in_cons (hg.lo _ _ hb2) (in_cons (hg.lo _ _ hb1) in_nil))
    replace D_ci0 := sa_more D_ci0 hk [b2_2, b1_2] (in_cons (hg.lo _ _ hb2) (in_cons (hg.lo _ _ hb1) in_nil))
    replace kw := kw.x hk
    clear hR hk hg hP hb2 hb1
    refine tail_nil (hK1 _ _ ?_)
    refine wp_seq_k fun K3 hK3 => ?_
    refine wp_seq_k fun K4 hK4 => ?_
    refine rg mixed y2 zz2 ?_
    refine .i (v := (.agg #[(.int .u8 (x.k)), (.int .i64 (x.n)), (.string (x.t)), (.slice cn0a (x.ns.length) cn0c), (.slice ci0a (x.xs.length) ci0c)])) (loA (hbs rfl e1) own_b1_2 trivial agg33 sz33 rfl rfl) ?_
    refine .i (v := (.bool (mayB (x)))) (sp_call1 (φ1 := IsD (SA w S [b2_2, b1_2]) (V.d (x))) ent76 ((hlc rfl).dat (rdV_in (x := x) ht0 D_cn0 D_ci0 : Rd W2 (SA w S [b2_2, b1_2]) (V.d (x)) _) sub_all) (fun g u1 W hk hgk h1 => May_ok (x) (Nat.le_trans (cnt_wt x) hx) W _ _ h1)) ?_
    refine .i (sp_not (hlc rfl)) ?_
    refine .done ⟨by kernel_rfl, fun a5 g W5 y5 zz5 hk hg hV hR hP => ?_⟩
    obtain ⟨e9, -, -, -⟩ := hV
    replace e2 := (hR 2 rfl).trans e2
    replace e1 := (hR 1 rfl).trans e1
    replace D_cn0 := D_cn0.ext hk
    replace D_ci0 := D_ci0.ext hk
    have e9 : sl a5 9 = (.bool (!(mayB (x)))) := e9
    replace own_b2_2 := own_b2_2.ext hk
    replace own_b1_2 := own_b1_2.ext hk
    replace kw := kw.x hk
    clear hR hk hg hP
    refine tail_nil (hK4 _ _ ?_)
    refine wp_cond_split e9 (fun hc => ?_) (fun hc => ?_)
    ·
     have hm : mayB x = false := by simpa using hc
     have hoe : ofAE x = 3 := by rw [ofAE, if_pos hm]
     have hov : ofAV x = ⟨0, []⟩ := by rw [ofAV, hoe]; rfl
     refine wp_seq_k fun K6 hK6 => ?_
     refine rg mixed y5 zz5 ?_
     refine .i (v := (.agg #[(.int .i64 (0)), (.slice none 0 0)])) (sp_build (vs := []) Try.underlying27 z27 (pl27 Try.underlying27) trivial rfl) ?_
     refine .done ⟨by kernel_rfl, fun a7 g W7 y7 zz7 hk hg hV hR hP => ?_⟩
     obtain ⟨e10, -⟩ := hV
     replace e2 := (hR 2 rfl).trans e2
     replace D_cn0 := D_cn0.ext hk
     replace D_ci0 := D_ci0.ext hk
     replace e10 := e10.q
     replace own_b2_2 := own_b2_2.ext hk
     replace own_b1_2 := own_b1_2.ext hk
     replace kw := kw.x hk
     clear hR hk hg hP
     refine tail_store (b := b2_2) (o := 0) (v := (.agg #[(.int .i64 (0)), (.slice none 0 0)])) e2 e10 sz27 rfl own_b2_2 (lbr rfl) (all_cons rfl (all_cons rfl all_nil)) (fun W8 hs own_b2_2 => ?_)
     have own_b2_2 : Own W8 b2_2 [(.int .i64 (0)), (.slice none 0 0)] 27 := own_b2_2
     replace own_b1_2 := own_store own_b1_2 hs ne_b2_2_b1_2.symm
     replace D_cn0 := sa_store D_cn0 hs (by simp)
     replace D_ci0 := sa_store D_ci0 hs (by simp)
     replace kw := keeps_store kw hs lo_b2_2
     clear hs
     refine tail_assign (v := (.int .i64 (3))) rfl (by rw [y7]; exact Nat.le_of_ble_eq_true rfl) (fun a9 y9 zz9 e3 hr => ?_)
     replace y9 := y9.trans y7; replace zz9 := zz9.trans zz7
     replace e2 := (hr 2 (by decide)).trans e2
     replace e10 := (hr 10 (by decide)).trans e10
     clear hr
     refine tail_nil (hK6 _ _ ?_)
     refine wp_ret ?_
     refine (show bodyPost Try.prog Try.f16 _ .ret _ _ from retCT (v := (.agg #[(.int .i64 (0)), (.slice none 0 0)])) rfl zz9 e2 own_b2_2 agg27 sz27 rfl (fun h => by cases h) rfl e3 ⟨_, rfl, kw, ?_⟩)
     refine ⟨_, by rw [hoe], ?_⟩
     rw [hov]
     exact sf_fr (rdAu_mk (rd_nil _) : Rd W8 (SF w [b2_2, b1_2]) (Au.d (Au.mk (0) ([]))) _)
    ·
     have hm : ¬ mayB x = false := by simpa using hc
     refine wp_skip (hK3 _ _ ?_)
     refine wp_seq_k fun K10 hK10 => ?_
     refine rg mixed y5 zz5 ?_
     refine .i (v := (.agg #[(.int .u8 (x.k)), (.int .i64 (x.n)), (.string (x.t)), (.slice cn0a (x.ns.length) cn0c), (.slice ci0a (x.xs.length) ci0c)])) (loA (hbs rfl e1) own_b1_2 trivial agg33 sz33 rfl rfl) ?_
     refine .op (φ := IsPk W5 74 (x) ([]) (0)) st_pk (sp_call1 (φ1 := IsD (SA w S [b2_2, b1_2]) (V.d (x))) ent21 ((hlc rfl).dat (rdV_in (x := x) ht0 D_cn0 D_ci0 : Rd W5 (SA w S [b2_2, b1_2]) (V.d (x)) _) sub_all) (fun g u1 W hk hgk h1 => (Of_ok (x) hx hof W _ _ (fun b o h => sa_cln hS b o h.1) h1).mono (fun _ _ ⟨v, h1, h2, h3⟩ => ⟨v, h1, h2, pk_up hk h3⟩))) ?_
     refine .done ⟨by kernel_rfl, fun a11 g W11 y11 zz11 hk hg hV hR hP => ?_⟩
     obtain ⟨e12, -, -⟩ := hV
     replace e2 := (hR 2 rfl).trans e2
     obtain ⟨bo12_11, bm12_11, cn12_11v, ci12_11v, e12, lr_bo12_11, lr_bm12_11, ne_bo12_11_bm12_11, own_bo12_11, own_bm12_11, D_cn12_11, D_ci12_11, tb12_11⟩ := e12
     obtain ⟨cn12_11a, cn12_11c, ev, D2⟩ := rdS_out D_cn12_11; subst ev; replace D_cn12_11 := D2; clear D2
     obtain ⟨ci12_11a, ci12_11c, ev, D2⟩ := rdVs_out D_ci12_11; subst ev; replace D_ci12_11 := D2; clear D2
     have e12 : sl a11 12 = (.pointer (some ⟨bo12_11, 0, none⟩)) := e12
     have lo_bo12_11 : w.heap.size ≤ bo12_11 := Nat.le_trans kw.size lr_bo12_11
     have ne_b2_2_bo12_11 : b2_2 ≠ bo12_11 := Nat.ne_of_lt (Nat.lt_of_lt_of_le own_b2_2.lt lr_bo12_11)
     have ne_b1_2_bo12_11 : b1_2 ≠ bo12_11 := Nat.ne_of_lt (Nat.lt_of_lt_of_le own_b1_2.lt lr_bo12_11)
     have lo_bm12_11 : w.heap.size ≤ bm12_11 := Nat.le_trans kw.size lr_bm12_11
     have ne_b2_2_bm12_11 : b2_2 ≠ bm12_11 := Nat.ne_of_lt (Nat.lt_of_lt_of_le own_b2_2.lt lr_bm12_11)
     have ne_b1_2_bm12_11 : b1_2 ≠ bm12_11 := Nat.ne_of_lt (Nat.lt_of_lt_of_le own_b1_2.lt lr_bm12_11)
     replace D_cn0 : Rd W11 (SA w S [bo12_11, bm12_11, b2_2, b1_2]) (strsD (x.ns)) (.slice cn0a (x.ns.length) cn0c) := sa_more D_cn0 hk [bo12_11, bm12_11] (in_cons lr_bo12_11 (in_cons lr_bm12_11 in_nil))
     replace D_ci0 : Rd W11 (SA w S [bo12_11, bm12_11, b2_2, b1_2]) (valsD (x.xs)) (.slice ci0a (x.xs.length) ci0c) := sa_more D_ci0 hk [bo12_11, bm12_11] (in_cons lr_bo12_11 (in_cons lr_bm12_11 in_nil))
     replace D_cn12_11 : Rd W11 (SF w [bo12_11, bm12_11, b2_2, b1_2]) (strsD (x.ns)) (.slice cn12_11a (x.ns.length) cn12_11c) := pk_data kw (in_cons own_b2_2.lt (in_cons own_b1_2.lt in_nil)) D_cn12_11
     replace D_ci12_11 : Rd W11 (SF w [bo12_11, bm12_11, b2_2, b1_2]) (valsD (x.xs)) (.slice ci12_11a (x.xs.length) ci12_11c) := pk_data kw (in_cons own_b2_2.lt (in_cons own_b1_2.lt in_nil)) D_ci12_11
     have own_bo12_11 : Own W11 bo12_11 [(.int .u8 (x.k)), (.int .i64 (x.n)), (.string (x.t)), (.slice cn12_11a (x.ns.length) cn12_11c), (.slice ci12_11a (x.xs.length) ci12_11c), (.map (some bm12_11)), (.int .i64 (0))] 74 := own_bo12_11
     have own_bm12_11 : OwnM W11 bm12_11 ([]) := own_bm12_11
     replace own_b2_2 := own_b2_2.ext hk
     replace own_b1_2 := own_b1_2.ext hk
     replace kw := kw.x hk
     clear hR hk hg hP lr_bo12_11 lr_bm12_11
     refine tail_assign (v := (.pointer (some ⟨bo12_11, 0, none⟩))) e12 (by rw [y11]; exact Nat.le_of_ble_eq_true rfl) (fun a12 y12 zz12 e4 hr => ?_)
     replace y12 := y12.trans y11; replace zz12 := zz12.trans zz11
     replace e2 := (hr 2 (by decide)).trans e2
     replace e12 := (hr 12 (by decide)).trans e12
     clear hr
     refine tail_nil (hK10 _ _ ?_)
     refine wp_seq_k fun K13 hK13 => ?_
     refine wp_reg (fun k => k ∉ [bo12_11, bm12_11]) (Ψ := fun W => Own W bo12_11 [(.int .u8 (x.k)), (.int .i64 (x.n)), (.string (x.t)), (.slice cn12_11a (x.ns.length) cn12_11c), (.slice ci12_11a (x.xs.length) ci12_11c), (.map (some bm12_11)), (.int .i64 (0))] 74 ∧ OwnM W bm12_11 ([])) mixed y12 zz12 (stE_and stE_own stE_ownM) ⟨own_bo12_11, own_bm12_11⟩ ?_
     refine .i (sp_move (hbs rfl e4)) ?_
     refine .callL1 (φ1 := Is (.pointer (some ⟨bo12_11, 0, none⟩))) (φ := IsD (Fr W11) (Au.d (partA x 0))) (Ψ' := fun W => Own W bo12_11 [(.int .u8 (x.k)), (.int .i64 (x.n)), (.string (x.t)), (.slice cn12_11a (x.ns.length) cn12_11c), (.slice ci12_11a (x.xs.length) ci12_11c), (.map (some bm12_11)), (.int .i64 (partE x 0))] 74 ∧ OwnM W bm12_11 (partM x ([]) 0)) ent23 (hlc rfl) (st_d (sub_frnl (in_cons own_bo12_11.lt (in_cons own_bm12_11.lt in_nil)))) (stE_and stE_own stE_ownM) (fun g u1 W hk hg h1 hP => by have h1 : u1 = _ := h1; subst u1; exact (Part_ok (x) ([]) (0) (AB.nil.mono (by omega)) hx tb12_11 W _ _ _ _ _ (fun b o h => h.2.1) (sf_notin (by simp)) ne_bo12_11_bm12_11 (sf_keepL D_cn12_11 hk (by simp)) (sf_keepL D_ci12_11 hk (by simp)) hP.1 hP.2).mono (fun _ _ ⟨v, h1, h2, h3, h4⟩ => ⟨v, h1, h2, fresh_d hk hg h3, h4⟩)) ?_
     refine .done ⟨by kernel_rfl, fun a14 g W14 y14 zz14 hk hg hV hR hP => ?_⟩
     obtain ⟨e14, -, -⟩ := hV
     replace e2 := (hR 2 rfl).trans e2
     replace e4 := (hR 4 rfl).trans e4
     obtain ⟨v14_14, ev⟩ : ∃ v, sl a14 14 = v := ⟨_, rfl⟩
     rw [ev] at e14
     have D_v14_14 : Rd W14 (SF w [bo12_11, bm12_11, b2_2, b1_2]) (Au.d (partA x 0)) v14_14 := fr_end (M := [bo12_11, bm12_11, b2_2, b1_2]) e14 kw [] in_nil (in_cons own_bo12_11.lt (in_cons own_bm12_11.lt (in_cons own_b2_2.lt (in_cons own_b1_2.lt in_nil))))
     replace e14 := ev; clear ev
     obtain ⟨v14_14_1a, v14_14_1c, ev, D_v14_14_1⟩ := rdAu_out D_v14_14
     subst ev; clear D_v14_14
     replace D_cn12_11 := sf_keepL D_cn12_11 hk (by simp)
     replace D_ci12_11 := sf_keepL D_ci12_11 hk (by simp)
     replace own_b2_2 := own_keepL own_b2_2 hk (by simp [ne_b2_2_bo12_11, ne_b2_2_bm12_11])
     replace own_b1_2 := own_keepL own_b1_2 hk (by simp [ne_b1_2_bo12_11, ne_b1_2_bm12_11])
     obtain ⟨own_bo12_11, own_bm12_11⟩ := hP
     replace own_bo12_11 : Own W14 bo12_11 [(.int .u8 (x.k)), (.int .i64 (x.n)), (.string (x.t)), (.slice cn12_11a (x.ns.length) cn12_11c), (.slice ci12_11a (x.xs.length) ci12_11c), (.map (some bm12_11)), (.int .i64 (partE x 0))] 74 := own_bo12_11
     replace own_bm12_11 : OwnM W14 bm12_11 (partM x ([]) 0) := own_bm12_11
     replace kw := keeps_L kw hk (in_cons (.inl lo_bo12_11) (in_cons (.inl lo_bm12_11) in_nil))
     clear hR hk hg
     refine tail_reg 1 All y14 zz14 st_tr trivial rfl ?_
     refine .alloc z27 ?_
     refine .done ⟨by kernel_rfl, fun a15 g W15 y15 zz15 hk hg hV hR hP => ?_⟩
     refine tail_nil ?_
     show runTail _ _ _ _ _ _
     obtain ⟨⟨b5_15, e5, hb5, own_b5_15⟩, -⟩ := hV
     have lo_b5_15 : w.heap.size ≤ b5_15 := Nat.le_trans kw.size (hg.lo _ _ hb5)
     have ne_b2_2_b5_15 : b2_2 ≠ b5_15 := Nat.ne_of_lt (Nat.lt_of_lt_of_le own_b2_2.lt (hg.lo _ _ hb5))
     have ne_b1_2_b5_15 : b1_2 ≠ b5_15 := Nat.ne_of_lt (Nat.lt_of_lt_of_le own_b1_2.lt (hg.lo _ _ hb5))
     have ne_bo12_11_b5_15 : bo12_11 ≠ b5_15 := Nat.ne_of_lt (Nat.lt_of_lt_of_le own_bo12_11.lt (hg.lo _ _ hb5))
     have ne_bm12_11_b5_15 : bm12_11 ≠ b5_15 := Nat.ne_of_lt (Nat.lt_of_lt_of_le own_bm12_11.lt (hg.lo _ _ hb5))
     have own_b5_15 : Own W15 b5_15 [(.int .i64 (0)), (.slice none 0 0)] 27 := own_b5_15
     replace e2 := (hR 2 rfl).trans e2
     replace e4 := (hR 4 rfl).trans e4
     replace e14 := (hR 14 rfl).trans e14
     replace D_cn12_11 := sf_more D_cn12_11 hk [b5_15] (in_cons (hg.lo _ _ hb5) in_nil)
     replace D_ci12_11 := sf_more D_ci12_11 hk [b5_15] (in_cons (hg.lo _ _ hb5) in_nil)
     replace D_v14_14_1 := sf_more D_v14_14_1 hk [b5_15] (in_cons (hg.lo _ _ hb5) in_nil)
     replace own_b2_2 := own_b2_2.ext hk
     replace own_b1_2 := own_b1_2.ext hk
     replace own_bo12_11 := own_bo12_11.ext hk
     replace own_bm12_11 := own_bm12_11.ext hk
     replace kw := kw.x hk
     clear hR hk hg hP hb5
     refine tail_store (b := b5_15) (o := 0) (v := (.agg #[(.int .i64 ((partA x 0).th)), (.slice v14_14_1a (((partA x 0).ids).length) v14_14_1c)])) e5 e14 sz27 rfl own_b5_15 (lbr rfl) (all_cons rfl (all_cons rfl all_nil)) (fun W16 hs own_b5_15 => ?_)
     have own_b5_15 : Own W16 b5_15 [(.int .i64 ((partA x 0).th)), (.slice v14_14_1a (((partA x 0).ids).length) v14_14_1c)] 27 := own_b5_15
     replace own_b2_2 := own_store own_b2_2 hs ne_b2_2_b5_15
     replace own_b1_2 := own_store own_b1_2 hs ne_b1_2_b5_15
     replace own_bo12_11 := own_store own_bo12_11 hs ne_bo12_11_b5_15
     replace own_bm12_11 := ownM_store own_bm12_11 hs ne_bm12_11_b5_15
     replace D_cn12_11 := sf_store D_cn12_11 hs (by simp)
     replace D_ci12_11 := sf_store D_ci12_11 hs (by simp)
     replace D_v14_14_1 := sf_store D_v14_14_1 hs (by simp)
     replace kw := keeps_store kw hs lo_b5_15
     clear hs
     refine tail_nil (hK13 _ _ ?_)
     refine wp_seq_k fun K17 hK17 => ?_
     refine wp_seq_k fun K18 hK18 => ?_
     refine rg mixed y15 zz15 ?_
     refine .i (sp_move (hbs rfl e4)) ?_
     refine .i (v := (.int .i64 (doneE x (partM x ([]) 0) (partE x 0)))) (sp_call1 (φ1 := Is (.pointer (some ⟨bo12_11, 0, none⟩))) ent32 (hlc rfl) (fun g u1 W hk hgk h1 => by have h1 : u1 = _ := h1; subst u1; exact Done_ok (x) (partM x ([]) 0) (partE x 0) W _ _ _ _ _ (D_cn12_11.ext hk) (own_bo12_11.ext hk) (own_bm12_11.ext hk))) ?_
     refine .i (sp_assign (hlc rfl)) ?_
     refine .done ⟨by kernel_rfl, fun a19 g W19 y19 zz19 hk hg hV hR hP => ?_⟩
     obtain ⟨e6, -, -, -⟩ := hV
     replace e2 := (hR 2 rfl).trans e2
     replace e5 := (hR 5 rfl).trans e5
     replace D_cn12_11 := D_cn12_11.ext hk
     replace D_ci12_11 := D_ci12_11.ext hk
     replace D_v14_14_1 := D_v14_14_1.ext hk
     replace e6 := e6.q
     replace own_b2_2 := own_b2_2.ext hk
     replace own_b1_2 := own_b1_2.ext hk
     replace own_bo12_11 := own_bo12_11.ext hk
     replace own_bm12_11 := own_bm12_11.ext hk
     replace own_b5_15 := own_b5_15.ext hk
     replace kw := kw.x hk
     clear hR hk hg hP
     refine tail_nil (hK18 _ _ ?_)
     refine wp_seq_k fun K20 hK20 => ?_
     refine rg mixed y19 zz19 ?_
     refine .i (sp_move (hbs rfl e6)) ?_
     refine .i (sp_neq (hlc rfl) Has.cst) ?_
     refine .done ⟨by kernel_rfl, fun a21 g W21 y21 zz21 hk hg hV hR hP => ?_⟩
     obtain ⟨e18, -, -⟩ := hV
     replace e2 := (hR 2 rfl).trans e2
     replace e5 := (hR 5 rfl).trans e5
     replace e6 := (hR 6 rfl).trans e6
     replace D_v14_14_1 := D_v14_14_1.ext hk
     replace e18 := e18.q
     replace own_b2_2 := own_b2_2.ext hk
     replace own_b1_2 := own_b1_2.ext hk
     replace own_bo12_11 := own_bo12_11.ext hk
     replace own_bm12_11 := own_bm12_11.ext hk
     replace own_b5_15 := own_b5_15.ext hk
     replace kw := kw.x hk
     clear hR hk hg hP
     refine tail_nil (hK20 _ _ ?_)
     refine wp_cond_split e18 (fun hc => ?_) (fun hc => ?_)
     ·
      have hd := bne_iff_ne.1 hc
      have hoe : ofAE x = doneE x (partM x [] 0) (partE x 0) := by rw [ofAE, if_neg hm, if_neg (by simp [hof])]
      have hov : ofAV x = ⟨0, []⟩ := by rw [ofAV, if_neg (by rw [hoe]; exact hd)]
      refine wp_seq_k fun K22 hK22 => ?_
      refine rg mixed y21 zz21 ?_
      refine .i (v := (.agg #[(.int .i64 (0)), (.slice none 0 0)])) (sp_build (vs := []) Try.underlying27 z27 (pl27 Try.underlying27) trivial rfl) ?_
      refine .i (sp_move (hbs rfl e6)) ?_
      refine .done ⟨by kernel_rfl, fun a23 g W23 y23 zz23 hk hg hV hR hP => ?_⟩
      obtain ⟨e20, e19, -⟩ := hV
      replace e2 := (hR 2 rfl).trans e2
      replace D_v14_14_1 := D_v14_14_1.ext hk
      replace e19 := e19.q
      replace e20 := e20.q
      replace own_b2_2 := own_b2_2.ext hk
      replace own_b1_2 := own_b1_2.ext hk
      replace own_bo12_11 := own_bo12_11.ext hk
      replace own_bm12_11 := own_bm12_11.ext hk
      replace own_b5_15 := own_b5_15.ext hk
      replace kw := kw.x hk
      clear hR hk hg hP
      refine tail_store (b := b2_2) (o := 0) (v := (.agg #[(.int .i64 (0)), (.slice none 0 0)])) e2 e19 sz27 rfl own_b2_2 (lbr rfl) (all_cons rfl (all_cons rfl all_nil)) (fun W24 hs own_b2_2 => ?_)
      have own_b2_2 : Own W24 b2_2 [(.int .i64 (0)), (.slice none 0 0)] 27 := own_b2_2
      replace own_b1_2 := own_store own_b1_2 hs ne_b2_2_b1_2.symm
      replace own_bo12_11 := own_store own_bo12_11 hs ne_b2_2_bo12_11.symm
      replace own_bm12_11 := ownM_store own_bm12_11 hs ne_b2_2_bm12_11.symm
      replace own_b5_15 := own_store own_b5_15 hs ne_b2_2_b5_15.symm
      replace D_v14_14_1 := sf_store D_v14_14_1 hs (by simp)
      replace kw := keeps_store kw hs lo_b2_2
      clear hs
      refine tail_assign (v := (.int .i64 (doneE x (partM x ([]) 0) (partE x 0)))) e20 (by rw [y23]; exact Nat.le_of_ble_eq_true rfl) (fun a25 y25 zz25 e3 hr => ?_)
      replace y25 := y25.trans y23; replace zz25 := zz25.trans zz23
      replace e2 := (hr 2 (by decide)).trans e2
      replace e19 := (hr 19 (by decide)).trans e19
      replace e20 := (hr 20 (by decide)).trans e20
      clear hr
      refine tail_nil (hK22 _ _ ?_)
      refine wp_ret ?_
      refine (show bodyPost Try.prog Try.f16 _ .ret _ _ from retCT (v := (.agg #[(.int .i64 (0)), (.slice none 0 0)])) rfl zz25 e2 own_b2_2 agg27 sz27 rfl (fun h => by cases h) rfl e3 ⟨_, rfl, kw, ?_⟩)
      refine ⟨_, by rw [hoe], ?_⟩
      rw [hov]
      exact sf_fr (rdAu_mk (rd_nil _) : Rd W24 (SF w [b5_15, bo12_11, bm12_11, b2_2, b1_2]) (Au.d (Au.mk (0) ([]))) _)
     ·
      have hd := bne_eq_false_iff_eq.1 hc
      have hoe : ofAE x = 0 := by rw [ofAE, if_neg hm, if_neg (by simp [hof])]; exact hd
      have hov : ofAV x = partA x 0 := by rw [ofAV, if_pos hoe]
      refine wp_skip (hK17 _ _ ?_)
      refine wp_seq_k fun K26 hK26 => ?_
      refine rg mixed y21 zz21 ?_
      refine .i (v := (.agg #[(.int .i64 ((partA x 0).th)), (.slice v14_14_1a (((partA x 0).ids).length) v14_14_1c)])) (loA (hbs rfl e5) own_b5_15 trivial agg27 sz27 rfl rfl) ?_
      refine .done ⟨by kernel_rfl, fun a27 g W27 y27 zz27 hk hg hV hR hP => ?_⟩
      obtain ⟨e21, -⟩ := hV
      replace e2 := (hR 2 rfl).trans e2
      replace D_v14_14_1 := D_v14_14_1.ext hk
      replace e21 := e21.q
      replace own_b2_2 := own_b2_2.ext hk
      replace own_b1_2 := own_b1_2.ext hk
      replace own_bo12_11 := own_bo12_11.ext hk
      replace own_bm12_11 := own_bm12_11.ext hk
      replace own_b5_15 := own_b5_15.ext hk
      replace kw := kw.x hk
      clear hR hk hg hP
      refine tail_store (b := b2_2) (o := 0) (v := (.agg #[(.int .i64 ((partA x 0).th)), (.slice v14_14_1a (((partA x 0).ids).length) v14_14_1c)])) e2 e21 sz27 rfl own_b2_2 (lbr rfl) (all_cons rfl (all_cons rfl all_nil)) (fun W28 hs own_b2_2 => ?_)
      have own_b2_2 : Own W28 b2_2 [(.int .i64 ((partA x 0).th)), (.slice v14_14_1a (((partA x 0).ids).length) v14_14_1c)] 27 := own_b2_2
      replace own_b1_2 := own_store own_b1_2 hs ne_b2_2_b1_2.symm
      replace own_bo12_11 := own_store own_bo12_11 hs ne_b2_2_bo12_11.symm
      replace own_bm12_11 := ownM_store own_bm12_11 hs ne_b2_2_bm12_11.symm
      replace own_b5_15 := own_store own_b5_15 hs ne_b2_2_b5_15.symm
      replace D_v14_14_1 := sf_store D_v14_14_1 hs (by simp)
      replace kw := keeps_store kw hs lo_b2_2
      clear hs
      refine tail_assign (v := (.int .i64 (0))) rfl (by rw [y27]; exact Nat.le_of_ble_eq_true rfl) (fun a29 y29 zz29 e3 hr => ?_)
      replace y29 := y29.trans y27; replace zz29 := zz29.trans zz27
      replace e2 := (hr 2 (by decide)).trans e2
      replace e21 := (hr 21 (by decide)).trans e21
      clear hr
      refine tail_nil (hK26 _ _ ?_)
      refine wp_ret ?_
      refine (show bodyPost Try.prog Try.f16 _ .ret _ _ from retCT (v := (.agg #[(.int .i64 ((partA x 0).th)), (.slice v14_14_1a (((partA x 0).ids).length) v14_14_1c)])) rfl zz29 e2 own_b2_2 agg27 sz27 rfl (fun h => by cases h) rfl e3 ⟨_, rfl, kw, ?_⟩)
      refine ⟨_, by rw [hoe], ?_⟩
      rw [hov]
      exact sf_fr (rdAu_mk D_v14_14_1 : Rd W28 (SF w [b5_15, bo12_11, bm12_11, b2_2, b1_2]) (Au.d ((partA x 0))) _)
  · have hE : errK 0 (ofE x) ≠ 0 := by rw [ofE_dead hof]; exact hof
    obtain ⟨cn0a, cn0c, ci0a, ci0c, ev, ht0, D_cn0, D_ci0⟩ := rdV_out (rd_arg hv)
    subst ev
    refine enter Try.func16 rfl Try.ntmps16 (lbr rfl) fun a0 y0 zz0 harg => ?_
    have e0 : sl a0 0 = (.agg #[(.int .u8 (x.k)), (.int .i64 (x.n)), (.string (x.t)), (.slice cn0a (x.ns.length) cn0c), (.slice ci0a (x.xs.length) ci0c)]) := harg 0 (lbr rfl)
    have kw := Keeps.refl All w
    clear harg
    refine wp_seq_k fun K1 hK1 => ?_
    refine rg mixed y0 zz0 ?_
    refine .boxOp (v := (.agg #[(.int .u8 (x.k)), (.int .i64 (x.n)), (.string (x.t)), (.slice cn0a (x.ns.length) cn0c), (.slice ci0a (x.xs.length) ci0c)])) (hbs rfl e0) ?_
    refine .alloc z27 ?_
    refine .i (sp_assign Has.cst) ?_
    refine .done ⟨by kernel_rfl, fun a2 g W2 y2 zz2 hk hg hV hR hP => ?_⟩
    obtain ⟨-, ⟨b2_2, e2, hb2, own_b2_2⟩, ⟨b1_2, e1, hb1, own_b1_2⟩, -⟩ := hV
    have lo_b2_2 : w.heap.size ≤ b2_2 := Nat.le_trans kw.size (hg.lo _ _ hb2)
    have own_b2_2 : Own W2 b2_2 [(.int .i64 (0)), (.slice none 0 0)] 27 := own_b2_2
    have lo_b1_2 : w.heap.size ≤ b1_2 := Nat.le_trans kw.size (hg.lo _ _ hb1)
    have own_b1_2 : Own W2 b1_2 [(.int .u8 (x.k)), (.int .i64 (x.n)), (.string (x.t)), (.slice cn0a (x.ns.length) cn0c), (.slice ci0a (x.xs.length) ci0c)] 33 := own_b1_2
    have ne_b2_2_b1_2 : b2_2 ≠ b1_2 := fun h => by have := hg.inj _ _ _ hb2 (h ▸ hb1); cases this
    replace D_cn0 := sa_more D_cn0 hk [b2_2, b1_2] (in_cons (hg.lo _ _ hb2) (in_cons (hg.lo _ _ hb1) in_nil))
    replace D_ci0 := sa_more D_ci0 hk [b2_2, b1_2] (in_cons (hg.lo _ _ hb2) (in_cons (hg.lo _ _ hb1) in_nil))
    replace kw := kw.x hk
    clear hR hk hg hP hb2 hb1
    refine tail_nil (hK1 _ _ ?_)
    refine wp_seq_k fun K3 hK3 => ?_
    refine wp_seq_k fun K4 hK4 => ?_
    refine rg mixed y2 zz2 ?_
    refine .i (v := (.agg #[(.int .u8 (x.k)), (.int .i64 (x.n)), (.string (x.t)), (.slice cn0a (x.ns.length) cn0c), (.slice ci0a (x.xs.length) ci0c)])) (loA (hbs rfl e1) own_b1_2 trivial agg33 sz33 rfl rfl) ?_
    refine .i (v := (.bool (mayB (x)))) (sp_call1 (φ1 := IsD (SA w S [b2_2, b1_2]) (V.d (x))) ent76 ((hlc rfl).dat (rdV_in (x := x) ht0 D_cn0 D_ci0 : Rd W2 (SA w S [b2_2, b1_2]) (V.d (x)) _) sub_all) (fun g u1 W hk hgk h1 => May_ok (x) (Nat.le_trans (cnt_wt x) hx) W _ _ h1)) ?_
    refine .i (sp_not (hlc rfl)) ?_
    refine .done ⟨by kernel_rfl, fun a5 g W5 y5 zz5 hk hg hV hR hP => ?_⟩
    obtain ⟨e9, -, -, -⟩ := hV
    replace e2 := (hR 2 rfl).trans e2
    replace e1 := (hR 1 rfl).trans e1
    replace D_cn0 := D_cn0.ext hk
    replace D_ci0 := D_ci0.ext hk
    have e9 : sl a5 9 = (.bool (!(mayB (x)))) := e9
    replace own_b2_2 := own_b2_2.ext hk
    replace own_b1_2 := own_b1_2.ext hk
    replace kw := kw.x hk
    clear hR hk hg hP
    refine tail_nil (hK4 _ _ ?_)
    refine wp_cond_split e9 (fun hc => ?_) (fun hc => ?_)
    ·
     have hm : mayB x = false := by simpa using hc
     have hoe : ofAE x = 3 := by rw [ofAE, if_pos hm]
     have hov : ofAV x = ⟨0, []⟩ := by rw [ofAV, hoe]; rfl
     refine wp_seq_k fun K6 hK6 => ?_
     refine rg mixed y5 zz5 ?_
     refine .i (v := (.agg #[(.int .i64 (0)), (.slice none 0 0)])) (sp_build (vs := []) Try.underlying27 z27 (pl27 Try.underlying27) trivial rfl) ?_
     refine .done ⟨by kernel_rfl, fun a7 g W7 y7 zz7 hk hg hV hR hP => ?_⟩
     obtain ⟨e10, -⟩ := hV
     replace e2 := (hR 2 rfl).trans e2
     replace D_cn0 := D_cn0.ext hk
     replace D_ci0 := D_ci0.ext hk
     replace e10 := e10.q
     replace own_b2_2 := own_b2_2.ext hk
     replace own_b1_2 := own_b1_2.ext hk
     replace kw := kw.x hk
     clear hR hk hg hP
     refine tail_store (b := b2_2) (o := 0) (v := (.agg #[(.int .i64 (0)), (.slice none 0 0)])) e2 e10 sz27 rfl own_b2_2 (lbr rfl) (all_cons rfl (all_cons rfl all_nil)) (fun W8 hs own_b2_2 => ?_)
     have own_b2_2 : Own W8 b2_2 [(.int .i64 (0)), (.slice none 0 0)] 27 := own_b2_2
     replace own_b1_2 := own_store own_b1_2 hs ne_b2_2_b1_2.symm
     replace D_cn0 := sa_store D_cn0 hs (by simp)
     replace D_ci0 := sa_store D_ci0 hs (by simp)
     replace kw := keeps_store kw hs lo_b2_2
     clear hs
     refine tail_assign (v := (.int .i64 (3))) rfl (by rw [y7]; exact Nat.le_of_ble_eq_true rfl) (fun a9 y9 zz9 e3 hr => ?_)
     replace y9 := y9.trans y7; replace zz9 := zz9.trans zz7
     replace e2 := (hr 2 (by decide)).trans e2
     replace e10 := (hr 10 (by decide)).trans e10
     clear hr
     refine tail_nil (hK6 _ _ ?_)
     refine wp_ret ?_
     refine (show bodyPost Try.prog Try.f16 _ .ret _ _ from retCT (v := (.agg #[(.int .i64 (0)), (.slice none 0 0)])) rfl zz9 e2 own_b2_2 agg27 sz27 rfl (fun h => by cases h) rfl e3 ⟨_, rfl, kw, ?_⟩)
     refine ⟨_, by rw [hoe], ?_⟩
     rw [hov]
     exact sf_fr (rdAu_mk (rd_nil _) : Rd W8 (SF w [b2_2, b1_2]) (Au.d (Au.mk (0) ([]))) _)
    ·
     have hm : ¬ mayB x = false := by simpa using hc
     refine wp_skip (hK3 _ _ ?_)
     refine wp_seq_k fun K10 hK10 => ?_
     refine rg mixed y5 zz5 ?_
     refine .i (v := (.agg #[(.int .u8 (x.k)), (.int .i64 (x.n)), (.string (x.t)), (.slice cn0a (x.ns.length) cn0c), (.slice ci0a (x.xs.length) ci0c)])) (loA (hbs rfl e1) own_b1_2 trivial agg33 sz33 rfl rfl) ?_
     refine .op (φ := IsPkD W5 74 (ofE x)) st_pkd (sp_call1 (φ1 := IsD (SA w S [b2_2, b1_2]) (V.d (x))) ent21 ((hlc rfl).dat (rdV_in (x := x) ht0 D_cn0 D_ci0 : Rd W5 (SA w S [b2_2, b1_2]) (V.d (x)) _) sub_all) (fun g u1 W hk hgk h1 => (OfD_ok (x) hof W _ _ h1).mono (fun _ _ ⟨v, h1, h2, h3⟩ => ⟨v, h1, h2, pkd_up hk h3⟩))) ?_
     refine .done ⟨by kernel_rfl, fun a11 g W11 y11 zz11 hk hg hV hR hP => ?_⟩
     obtain ⟨e12, -, -⟩ := hV
     replace e2 := (hR 2 rfl).trans e2
     obtain ⟨bo12_11, e12, lr_bo12_11, own_bo12_11⟩ := e12
     have e12 : sl a11 12 = (.pointer (some ⟨bo12_11, 0, none⟩)) := e12
     have lo_bo12_11 : w.heap.size ≤ bo12_11 := Nat.le_trans kw.size lr_bo12_11
     have ne_b2_2_bo12_11 : b2_2 ≠ bo12_11 := Nat.ne_of_lt (Nat.lt_of_lt_of_le own_b2_2.lt lr_bo12_11)
     have ne_b1_2_bo12_11 : b1_2 ≠ bo12_11 := Nat.ne_of_lt (Nat.lt_of_lt_of_le own_b1_2.lt lr_bo12_11)
     replace D_cn0 : Rd W11 (SA w S [bo12_11, b2_2, b1_2]) (strsD (x.ns)) (.slice cn0a (x.ns.length) cn0c) := sa_more D_cn0 hk [bo12_11] (in_cons lr_bo12_11 in_nil)
     replace D_ci0 : Rd W11 (SA w S [bo12_11, b2_2, b1_2]) (valsD (x.xs)) (.slice ci0a (x.xs.length) ci0c) := sa_more D_ci0 hk [bo12_11] (in_cons lr_bo12_11 in_nil)
     have own_bo12_11 : Own W11 bo12_11 [(.int .u8 (0)), (.int .i64 (0)), (.string (⟨#[]⟩)), (.slice none 0 0), (.slice none 0 0), (.map none), (.int .i64 (ofE x))] 74 := own_bo12_11
     replace own_b2_2 := own_b2_2.ext hk
     replace own_b1_2 := own_b1_2.ext hk
     replace kw := kw.x hk
     clear hR hk hg hP lr_bo12_11
     refine tail_assign (v := (.pointer (some ⟨bo12_11, 0, none⟩))) e12 (by rw [y11]; exact Nat.le_of_ble_eq_true rfl) (fun a12 y12 zz12 e4 hr => ?_)
     replace y12 := y12.trans y11; replace zz12 := zz12.trans zz11
     replace e2 := (hr 2 (by decide)).trans e2
     replace e12 := (hr 12 (by decide)).trans e12
     clear hr
     refine tail_nil (hK10 _ _ ?_)
     refine wp_seq_k fun K13 hK13 => ?_
     refine wp_reg (fun k => k ∉ [bo12_11]) (Ψ := fun W => Own W bo12_11 [(.int .u8 (0)), (.int .i64 (0)), (.string (⟨#[]⟩)), (.slice none 0 0), (.slice none 0 0), (.map none), (.int .i64 (ofE x))] 74) mixed y12 zz12 stE_own own_bo12_11 ?_
     refine .i (sp_move (hbs rfl e4)) ?_
     refine .callL1 (φ1 := Is (.pointer (some ⟨bo12_11, 0, none⟩))) (φ := Is (.agg #[(.int .i64 (0)), (.slice none 0 0)])) (Ψ' := fun W => Own W bo12_11 [(.int .u8 (0)), (.int .i64 (0)), (.string (⟨#[]⟩)), (.slice none 0 0), (.slice none 0 0), (.map none), (.int .i64 (ofE x))] 74) ent23 (hlc rfl) (st_is _) stE_own (fun g u1 W hk hg h1 hP => by have h1 : u1 = _ := h1; subst u1; exact (PartD_ok 0 _ _ _ _ _ (ofE x) hE W _ hP)) ?_
     refine .done ⟨by kernel_rfl, fun a14 g W14 y14 zz14 hk hg hV hR hP => ?_⟩
     obtain ⟨e14, -, -⟩ := hV
     replace e2 := (hR 2 rfl).trans e2
     replace e4 := (hR 4 rfl).trans e4
     replace e14 := e14.q
     replace own_b2_2 := own_keepL own_b2_2 hk (by simp [ne_b2_2_bo12_11])
     replace own_b1_2 := own_keepL own_b1_2 hk (by simp [ne_b1_2_bo12_11])
     have own_bo12_11 := hP
     replace own_bo12_11 : Own W14 bo12_11 [(.int .u8 (0)), (.int .i64 (0)), (.string (⟨#[]⟩)), (.slice none 0 0), (.slice none 0 0), (.map none), (.int .i64 (ofE x))] 74 := own_bo12_11
     replace kw := keeps_L kw hk (in_cons (.inl lo_bo12_11) in_nil)
     clear hR hk hg hP
     refine tail_reg 1 All y14 zz14 st_tr trivial rfl ?_
     refine .alloc z27 ?_
     refine .done ⟨by kernel_rfl, fun a15 g W15 y15 zz15 hk hg hV hR hP => ?_⟩
     refine tail_nil ?_
     show runTail _ _ _ _ _ _
     obtain ⟨⟨b5_15, e5, hb5, own_b5_15⟩, -⟩ := hV
     have lo_b5_15 : w.heap.size ≤ b5_15 := Nat.le_trans kw.size (hg.lo _ _ hb5)
     have ne_b2_2_b5_15 : b2_2 ≠ b5_15 := Nat.ne_of_lt (Nat.lt_of_lt_of_le own_b2_2.lt (hg.lo _ _ hb5))
     have ne_b1_2_b5_15 : b1_2 ≠ b5_15 := Nat.ne_of_lt (Nat.lt_of_lt_of_le own_b1_2.lt (hg.lo _ _ hb5))
     have ne_bo12_11_b5_15 : bo12_11 ≠ b5_15 := Nat.ne_of_lt (Nat.lt_of_lt_of_le own_bo12_11.lt (hg.lo _ _ hb5))
     have own_b5_15 : Own W15 b5_15 [(.int .i64 (0)), (.slice none 0 0)] 27 := own_b5_15
     replace e2 := (hR 2 rfl).trans e2
     replace e4 := (hR 4 rfl).trans e4
     replace e14 := (hR 14 rfl).trans e14
     replace own_b2_2 := own_b2_2.ext hk
     replace own_b1_2 := own_b1_2.ext hk
     replace own_bo12_11 := own_bo12_11.ext hk
     replace kw := kw.x hk
     clear hR hk hg hP hb5
     refine tail_store (b := b5_15) (o := 0) (v := (.agg #[(.int .i64 (0)), (.slice none 0 0)])) e5 e14 sz27 rfl own_b5_15 (lbr rfl) (all_cons rfl (all_cons rfl all_nil)) (fun W16 hs own_b5_15 => ?_)
     have own_b5_15 : Own W16 b5_15 [(.int .i64 (0)), (.slice none 0 0)] 27 := own_b5_15
     replace own_b2_2 := own_store own_b2_2 hs ne_b2_2_b5_15
     replace own_b1_2 := own_store own_b1_2 hs ne_b1_2_b5_15
     replace own_bo12_11 := own_store own_bo12_11 hs ne_bo12_11_b5_15
     replace kw := keeps_store kw hs lo_b5_15
     clear hs
     refine tail_nil (hK13 _ _ ?_)
     refine wp_seq_k fun K17 hK17 => ?_
     refine wp_seq_k fun K18 hK18 => ?_
     refine rg mixed y15 zz15 ?_
     refine .i (sp_move (hbs rfl e4)) ?_
     refine .i (v := (.int .i64 (errK 0 (ofE x)))) (sp_call1 (φ1 := Is (.pointer (some ⟨bo12_11, 0, none⟩))) ent32 (hlc rfl) (fun g u1 W hk hgk h1 => by have h1 : u1 = _ := h1; subst u1; exact DoneD_ok _ _ _ _ _ _ _ hE W _ (own_bo12_11.ext hk))) ?_
     refine .i (sp_assign (hlc rfl)) ?_
     refine .done ⟨by kernel_rfl, fun a19 g W19 y19 zz19 hk hg hV hR hP => ?_⟩
     obtain ⟨e6, -, -, -⟩ := hV
     replace e2 := (hR 2 rfl).trans e2
     replace e5 := (hR 5 rfl).trans e5
     have e6 : sl a19 6 = (.int .i64 (errK 0 (ofE x))) := e6
     replace own_b2_2 := own_b2_2.ext hk
     replace own_b1_2 := own_b1_2.ext hk
     replace own_bo12_11 := own_bo12_11.ext hk
     replace own_b5_15 := own_b5_15.ext hk
     replace kw := kw.x hk
     clear hR hk hg hP
     refine tail_nil (hK18 _ _ ?_)
     refine wp_seq_k fun K20 hK20 => ?_
     refine rg mixed y19 zz19 ?_
     refine .i (sp_move (hbs rfl e6)) ?_
     refine .i (sp_neq (hlc rfl) Has.cst) ?_
     refine .done ⟨by kernel_rfl, fun a21 g W21 y21 zz21 hk hg hV hR hP => ?_⟩
     obtain ⟨e18, -, -⟩ := hV
     replace e2 := (hR 2 rfl).trans e2
     replace e5 := (hR 5 rfl).trans e5
     replace e6 := (hR 6 rfl).trans e6
     replace e18 := e18.q
     replace own_b2_2 := own_b2_2.ext hk
     replace own_b1_2 := own_b1_2.ext hk
     replace own_bo12_11 := own_bo12_11.ext hk
     replace own_b5_15 := own_b5_15.ext hk
     replace kw := kw.x hk
     clear hR hk hg hP
     refine tail_nil (hK20 _ _ ?_)
     refine wp_cond_split e18 (fun hc => ?_) (fun hc => ?_)
     ·
      have hoe : ofAE x = errK 0 (ofE x) := by rw [ofAE, if_neg hm, if_pos hof, ofE_dead hof]
      have hov : ofAV x = ⟨0, []⟩ := by rw [ofAV, if_neg (by rw [hoe]; exact hE)]
      refine wp_seq_k fun K22 hK22 => ?_
      refine rg mixed y21 zz21 ?_
      refine .i (v := (.agg #[(.int .i64 (0)), (.slice none 0 0)])) (sp_build (vs := []) Try.underlying27 z27 (pl27 Try.underlying27) trivial rfl) ?_
      refine .i (sp_move (hbs rfl e6)) ?_
      refine .done ⟨by kernel_rfl, fun a23 g W23 y23 zz23 hk hg hV hR hP => ?_⟩
      obtain ⟨e20, e19, -⟩ := hV
      replace e2 := (hR 2 rfl).trans e2
      replace e19 := e19.q
      have e20 : sl a23 20 = (.int .i64 (errK 0 (ofE x))) := e20
      replace own_b2_2 := own_b2_2.ext hk
      replace own_b1_2 := own_b1_2.ext hk
      replace own_bo12_11 := own_bo12_11.ext hk
      replace own_b5_15 := own_b5_15.ext hk
      replace kw := kw.x hk
      clear hR hk hg hP
      refine tail_store (b := b2_2) (o := 0) (v := (.agg #[(.int .i64 (0)), (.slice none 0 0)])) e2 e19 sz27 rfl own_b2_2 (lbr rfl) (all_cons rfl (all_cons rfl all_nil)) (fun W24 hs own_b2_2 => ?_)
      have own_b2_2 : Own W24 b2_2 [(.int .i64 (0)), (.slice none 0 0)] 27 := own_b2_2
      replace own_b1_2 := own_store own_b1_2 hs ne_b2_2_b1_2.symm
      replace own_bo12_11 := own_store own_bo12_11 hs ne_b2_2_bo12_11.symm
      replace own_b5_15 := own_store own_b5_15 hs ne_b2_2_b5_15.symm
      replace kw := keeps_store kw hs lo_b2_2
      clear hs
      refine tail_assign (v := (.int .i64 (errK 0 (ofE x)))) e20 (by rw [y23]; exact Nat.le_of_ble_eq_true rfl) (fun a25 y25 zz25 e3 hr => ?_)
      replace y25 := y25.trans y23; replace zz25 := zz25.trans zz23
      replace e2 := (hr 2 (by decide)).trans e2
      replace e19 := (hr 19 (by decide)).trans e19
      replace e20 := (hr 20 (by decide)).trans e20
      clear hr
      refine tail_nil (hK22 _ _ ?_)
      refine wp_ret ?_
      refine (show bodyPost Try.prog Try.f16 _ .ret _ _ from retCT (v := (.agg #[(.int .i64 (0)), (.slice none 0 0)])) rfl zz25 e2 own_b2_2 agg27 sz27 rfl (fun h => by cases h) rfl e3 ⟨_, rfl, kw, ?_⟩)
      refine ⟨_, by rw [hoe], ?_⟩
      rw [hov]
      exact sf_fr (rdAu_mk (rd_nil _) : Rd W24 (SF w [b5_15, bo12_11, b2_2, b1_2]) (Au.d (Au.mk (0) ([]))) _)
     ·
      exact absurd (bne_eq_false_iff_eq.1 hc) hE
end Go.Proofs.Ytnobijngkpflcaa
namespace Go.Proofs.Ytnobijngkpflcaa
open Go.Eng
set_option maxRecDepth 100000 in
theorem OfP_ok (u : World) (x : V) (hx : x.wt ≤ 1073741824) (hof : ofE x = 0) (w : World) (S : BSet) (v : Value) (hu : u.heap.size ≤ w.heap.size) (hP : Pin u S) (hav : AVv u v) (hv : Rd w S x.d v) : Calls Try.prog 21 #[v] w (Ret w fun r W => ∃ y, Cp x y ∧ PkAt w W 74 y [] 0 r) := by
  have hwx := wt_eq x
  have hwl := wts_len x.xs
  have hwn := wtN_len x.ns
  have hk5 : x.k = 5 ∧ x.ns.length = x.xs.length ∧ asc x.ns = true := by
    unfold ofE at hof
    split at hof
    · cases hof
    · split at hof
      · cases hof
      · rename_i h1 h2
        have h3 : asc x.ns = true := by cases hq : asc x.ns with | true => rfl | false => exact absurd (.inr hq) h2
        exact ⟨by omega, by omega, h3⟩
  obtain ⟨cn0a, cn0c, ci0a, ci0c, ev, ht0, D_cn0, D_ci0⟩ := rdV_out (rd_arg hv)
  subst ev
  refine enter Try.func21 rfl Try.ntmps21 (lbr rfl) fun a0 y0 zz0 harg => ?_
  have e0 : sl a0 0 = (.agg #[(.int .u8 (x.k)), (.int .i64 (x.n)), (.string (x.t)), (.slice cn0a (x.ns.length) cn0c), (.slice ci0a (x.xs.length) ci0c)]) := harg 0 (lbr rfl)
  have kw := Keeps.refl All w
  clear harg
  refine wp_seq_k fun K1 hK1 => ?_
  refine rg mixed y0 zz0 ?_
  refine .boxOp (v := (.agg #[(.int .u8 (x.k)), (.int .i64 (x.n)), (.string (x.t)), (.slice cn0a (x.ns.length) cn0c), (.slice ci0a (x.xs.length) ci0c)])) (hbs rfl e0) ?_
  refine .i (sp_assign Has.cst) ?_
  refine .done ⟨by kernel_rfl, fun a2 g W2 y2 zz2 hk hg hV hR hP => ?_⟩
  obtain ⟨-, ⟨b1_2, e1, hb1, own_b1_2⟩, -⟩ := hV
  have lo_b1_2 : w.heap.size ≤ b1_2 := Nat.le_trans kw.size (hg.lo _ _ hb1)
  have own_b1_2 : Own W2 b1_2 [(.int .u8 (x.k)), (.int .i64 (x.n)), (.string (x.t)), (.slice cn0a (x.ns.length) cn0c), (.slice ci0a (x.xs.length) ci0c)] 33 := own_b1_2
  replace D_cn0 := sa_more D_cn0 hk [b1_2] (in_cons (hg.lo _ _ hb1) in_nil)
  replace D_ci0 := sa_more D_ci0 hk [b1_2] (in_cons (hg.lo _ _ hb1) in_nil)
  replace kw := kw.x hk
  clear hR hk hg hP hb1
  refine tail_nil (hK1 _ _ ?_)
  refine wp_seq_k fun K3 hK3 => ?_
  refine wp_seq_k fun K4 hK4 => ?_
  refine rg mixed y2 zz2 ?_
  refine .i (fo 0 (hbs rfl e1) Try.underlying33 rfl sz5 rfl) ?_
  refine .i (lo1 (hlc rfl) own_b1_2 trivial agg5 sz5 rfl) ?_
  refine .i (sp_neq (hlc rfl) Has.cst) ?_
  refine .done ⟨by kernel_rfl, fun a5 g W5 y5 zz5 hk hg hV hR hP => ?_⟩
  obtain ⟨e6, -, -, -⟩ := hV
  replace e1 := (hR 1 rfl).trans e1
  replace D_cn0 := D_cn0.ext hk
  replace D_ci0 := D_ci0.ext hk
  have e6 : sl a5 6 = (.bool ((x.k : Int) != (5 : Int))) := e6
  replace own_b1_2 := own_b1_2.ext hk
  replace kw := kw.x hk
  clear hR hk hg hP
  refine tail_nil (hK4 _ _ ?_)
  refine wp_cond_split e6 (fun hc => ?_) (fun hc => ?_)
  ·
   exfalso
   simp [hk5.1] at hc
  ·
   refine wp_skip (hK3 _ _ ?_)
   refine wp_seq_k fun K6 hK6 => ?_
   refine wp_seq_k fun K7 hK7 => ?_
   refine rg mixed y5 zz5 ?_
   refine .i (fo 3 (hbs rfl e1) Try.underlying33 rfl sz23 rfl) ?_
   refine .i (lo1 (hlc rfl) own_b1_2 trivial agg23 sz23 rfl) ?_
   refine .i (sp_lenSs Try.underlying23 ((hlc rfl).dat D_cn0 sub_all)) ?_
   refine .i (fo 4 (hbs rfl e1) Try.underlying33 rfl sz31 rfl) ?_
   refine .i (lo1 (hlc rfl) own_b1_2 trivial agg31 sz31 rfl) ?_
   refine .i (sp_lenVs Try.underlying31 ((hlc rfl).dat D_ci0 sub_all)) ?_
   refine .i (sp_neq (hlc rfl) (hlc rfl)) ?_
   refine .done ⟨by kernel_rfl, fun a8 g W8 y8 zz8 hk hg hV hR hP => ?_⟩
   obtain ⟨e15, -, -, -, -, -, -, -⟩ := hV
   replace e1 := (hR 1 rfl).trans e1
   replace D_cn0 := D_cn0.ext hk
   replace D_ci0 := D_ci0.ext hk
   replace e15 := e15.q
   replace own_b1_2 := own_b1_2.ext hk
   replace kw := kw.x hk
   clear hR hk hg hP
   refine tail_nil (hK7 _ _ ?_)
   refine wp_cond_split e15 (fun hc => ?_) (fun hc => ?_)
   ·
    exfalso
    simp [hk5.2.1] at hc
   ·
    refine wp_skip (hK6 _ _ ?_)
    refine wp_seq_k fun K9 hK9 => ?_
    refine wp_seq_k fun K10 hK10 => ?_
    refine rg mixed y8 zz8 ?_
    refine .i (sp_assign Has.cst) ?_
    refine .done ⟨by kernel_rfl, fun a11 g W11 y11 zz11 hk hg hV hR hP => ?_⟩
    obtain ⟨e3, -⟩ := hV
    replace e1 := (hR 1 rfl).trans e1
    replace D_cn0 := D_cn0.ext hk
    replace D_ci0 := D_ci0.ext hk
    have e3 : sl a11 3 = (.int .i64 (1)) := e3
    replace own_b1_2 := own_b1_2.ext hk
    replace kw := kw.x hk
    clear hR hk hg hP
    refine tail_nil (hK10 _ _ ?_)
    refine wp_block ?_
    refine wp_for (x.ns.length) (fun k a W => a.tmps.size = 44 ∧ a.defers = [] ∧ Keeps All w W ∧ sl a 1 = (.pointer (some ⟨b1_2, 0, none⟩)) ∧ sl a 3 = (.int .i64 (((k + 1 : Nat) : Int))) ∧ Own W b1_2 [(.int .u8 (x.k)), (.int .i64 (x.n)), (.string (x.t)), (.slice cn0a (x.ns.length) cn0c), (.slice ci0a (x.xs.length) ci0c)] 33 ∧ Rd W (SA w S [b1_2]) (strsD (x.ns)) (.slice cn0a (x.ns.length) cn0c) ∧ Rd W (SA w S [b1_2]) (valsD (x.xs)) (.slice ci0a (x.xs.length) ci0c)) ⟨y11, zz11, kw, e1, (e3.trans (congrArg (Value.int .i64) (rfl))), own_b1_2, D_cn0, D_ci0⟩ ?_
    clear kw e1 e3 own_b1_2 D_cn0 D_ci0
    rintro k a12 W12 hkk ⟨y12, zz12, kw, e1, e3, own_b1_2, D_cn0, D_ci0⟩
    refine wp_seq_k fun K13 hK13 => ?_
    refine wp_seq_k fun K14 hK14 => ?_
    refine rg mixed y12 zz12 ?_
    refine .i (sp_move (hbs rfl e3)) ?_
    refine .i (fo 3 (hbs rfl e1) Try.underlying33 rfl sz23 rfl) ?_
    refine .i (lo1 (hlc rfl) own_b1_2 trivial agg23 sz23 rfl) ?_
    refine .i (sp_lenSs Try.underlying23 ((hlc rfl).dat D_cn0 sub_all)) ?_
    refine .i (sp_lss (hlc rfl) (hlc rfl)) ?_
    refine .done ⟨by kernel_rfl, fun a15 g W15 y15 zz15 hk hg hV hR hP => ?_⟩
    obtain ⟨e22, -, -, -, -, -⟩ := hV
    replace e1 := (hR 1 rfl).trans e1
    replace e3 := (hR 3 rfl).trans e3
    replace D_cn0 := D_cn0.ext hk
    replace D_ci0 := D_ci0.ext hk
    replace e22 := e22.q
    replace own_b1_2 := own_b1_2.ext hk
    replace kw := kw.x hk
    clear hR hk hg hP
    refine tail_nil (hK14 _ _ ?_)
    refine wp_cond_split e22 (fun hc => ?_) (fun hc => ?_)
    ·
     have hlt : k + 1 < x.ns.length := by have := of_decide_eq_true hc; omega
     refine wp_skip (hK13 _ _ ?_)
     refine wp_seq_k fun K16 hK16 => ?_
     refine wp_block ?_
     refine wp_seq_k fun K17 hK17 => ?_
     refine rg mixed y15 zz15 ?_
     refine .i (fo 3 (hbs rfl e1) Try.underlying33 rfl sz23 rfl) ?_
     refine .i (lo1 (hlc rfl) own_b1_2 trivial agg23 sz23 rfl) ?_
     refine .i (sp_move (hbs rfl e3)) ?_
     refine .i (sp_sub (hlc rfl) Has.cst (i64_in (by omega))) ?_
     refine .rf (sp_indexS (i := k) ((hlc rfl).dat D_cn0 sub_all) (hlc rfl) Try.underlying23 sz9 (by omega) (by omega)) ?_
     refine .i (sp_loadStr (hlc rfl) agg9 sz9) ?_
     refine .i (fo 3 (hbs rfl e1) Try.underlying33 rfl sz23 rfl) ?_
     refine .i (lo1 (hlc rfl) own_b1_2 trivial agg23 sz23 rfl) ?_
     refine .i (sp_move (hbs rfl e3)) ?_
     refine .rf (sp_indexS (i := (k + 1)) ((hlc rfl).dat D_cn0 sub_all) (hlc rfl) Try.underlying23 sz9 rfl hlt) ?_
     refine .i (sp_loadStr (hlc rfl) agg9 sz9) ?_
     refine .i (sp_sGeq (hlc rfl) (hlc rfl)) ?_
     refine .done ⟨by kernel_rfl, fun a18 g W18 y18 zz18 hk hg hV hR hP => ?_⟩
     obtain ⟨e36, -, -, -, -, -, -, -, -, -, -, -, -⟩ := hV
     replace e1 := (hR 1 rfl).trans e1
     replace e3 := (hR 3 rfl).trans e3
     replace D_cn0 := D_cn0.ext hk
     replace D_ci0 := D_ci0.ext hk
     replace e36 := e36.q
     replace own_b1_2 := own_b1_2.ext hk
     replace kw := kw.x hk
     clear hR hk hg hP
     refine tail_nil (hK17 _ _ ?_)
     refine wp_cond_split e36 (fun hc => ?_) (fun hc => ?_)
     ·
      exfalso
      have h1 := (asc_iff x.ns).1 hk5.2.2 k hlt
      simp [h1] at hc
     ·
      refine wp_skip (hK16 _ _ ?_)
      refine rg mixed y18 zz18 ?_
      refine .i (sp_move (hbs rfl e3)) ?_
      refine .i (sp_add (hlc rfl) Has.cst (i64_in (by omega))) ?_
      refine .i (sp_assign (hlc rfl)) ?_
      refine .done ⟨by kernel_rfl, fun a19 g W19 y19 zz19 hk hg hV hR hP => ?_⟩
      obtain ⟨e3, -, -, -⟩ := hV
      replace e1 := (hR 1 rfl).trans e1
      replace D_cn0 := D_cn0.ext hk
      replace D_ci0 := D_ci0.ext hk
      replace e3 := e3.q
      replace own_b1_2 := own_b1_2.ext hk
      replace kw := kw.x hk
      clear hR hk hg hP
      exact tail_nil ⟨by omega, y19, zz19, kw, e1, (e3.trans (congrArg (Value.int .i64) (by omega))), own_b1_2, D_cn0, D_ci0⟩
    ·
     refine wp_exit (hK9 _ _ ?_)
     refine wp_seq_k fun K20 hK20 => ?_
     refine rg mixed y15 zz15 ?_
     refine .i (v := (.agg #[(.int .u8 (x.k)), (.int .i64 (x.n)), (.string (x.t)), (.slice cn0a (x.ns.length) cn0c), (.slice ci0a (x.xs.length) ci0c)])) (loA (hbs rfl e1) own_b1_2 trivial agg33 sz33 rfl rfl) ?_
     refine .op (φ := IsEx (x) (fun yy => IsD (Fr W15) (V.d (yy)))) (st_ex1 fun yy => (st_d sub_all)) (sp_call1 (φ1 := Is (.agg #[(.int .u8 (x.k)), (.int .i64 (x.n)), (.string (x.t)), (.slice cn0a (x.ns.length) cn0c), (.slice ci0a (x.xs.length) ci0c)])) ent79 (hlc rfl) (fun g u1 W hk hgk h1 => by have h1 : u1 = _ := h1; subst u1; exact (CopyP_ok u (x) (by first | omega | exact hx) W _ _ (Nat.le_trans hu (Nat.le_trans kw.size hk.size)) (pin_sa hP hu) hav ((rdV_in (x := x) ht0 D_cn0 D_ci0 : Rd W15 (SA w S [b1_2]) (V.d (x)) _).ext hk)).mono (fun _ _ ⟨v, h1, h2, y, h3, h4⟩ => ⟨v, h1, h2, y, h3, fresh_d hk hgk h4⟩))) ?_
     refine .done ⟨by kernel_rfl, fun a21 g W21 y21 zz21 hk hg hV hR hP => ?_⟩
     obtain ⟨e40, -, -⟩ := hV
     obtain ⟨y40_21, hcp_y40_21, e40⟩ := e40
     replace D_cn0 := D_cn0.ext hk
     replace D_ci0 := D_ci0.ext hk
     obtain ⟨v40_21, ev⟩ : ∃ v, sl a21 40 = v := ⟨_, rfl⟩
     rw [ev] at e40
     have D_v40_21 : Rd W21 (SF w [b1_2]) (V.d (y40_21)) v40_21 := fr_end (M := [b1_2]) e40 kw [] in_nil (in_cons own_b1_2.lt in_nil)
     replace e40 := ev; clear ev
     obtain ⟨cn40_21a, cn40_21c, ci40_21a, ci40_21c, ev, ht_v40_21, D_cn40_21, D_ci40_21⟩ := rdV_out D_v40_21
     subst ev; clear D_v40_21
     replace own_b1_2 := own_b1_2.ext hk
     replace kw := kw.x hk
     clear hR hk hg hP
     refine tail_reg 1 All y21 zz21 st_tr trivial rfl ?_
     refine .mkMap ?_
     refine .done ⟨by kernel_rfl, fun a22 g W22 y22 zz22 hk hg hV hR hP => ?_⟩
     refine tail_nil ?_
     show runTail _ _ _ _ _ _
     obtain ⟨⟨b41_22, e41, hb41, own_b41_22⟩, -⟩ := hV
     have lo_b41_22 : w.heap.size ≤ b41_22 := Nat.le_trans kw.size (hg.lo _ _ hb41)
     have ne_b1_2_b41_22 : b1_2 ≠ b41_22 := Nat.ne_of_lt (Nat.lt_of_lt_of_le own_b1_2.lt (hg.lo _ _ hb41))
     have own_b41_22 : OwnM W22 b41_22 ([]) := own_b41_22
     replace e40 := (hR 40 rfl).trans e40
     replace D_cn40_21 := sf_more D_cn40_21 hk [b41_22] (in_cons (hg.lo _ _ hb41) in_nil)
     replace D_ci40_21 := sf_more D_ci40_21 hk [b41_22] (in_cons (hg.lo _ _ hb41) in_nil)
     replace own_b1_2 := own_b1_2.ext hk
     replace kw := kw.x hk
     clear hR hk hg hP hb41
     refine tail_reg 2 All y22 zz22 st_tr trivial rfl ?_
     refine .i (v := (.agg #[(.int .u8 (y40_21.k)), (.int .i64 (y40_21.n)), (.string (y40_21.t)), (.slice cn40_21a (y40_21.ns.length) cn40_21c), (.slice ci40_21a (y40_21.xs.length) ci40_21c), (.map (some b41_22)), (.int .i64 (0))])) (sp_build (vs := [(0, (.agg #[(.int .u8 (y40_21.k)), (.int .i64 (y40_21.n)), (.string (y40_21.t)), (.slice cn40_21a (y40_21.ns.length) cn40_21c), (.slice ci40_21a (y40_21.xs.length) ci40_21c)])), (1, (.map (some b41_22)))]) Try.underlying74 z74 (pl74 Try.underlying74) ⟨rfl, (hbs rfl e40), rfl, (hbs rfl e41), trivial⟩ (by kernel_rfl)) ?_
     refine .boxOp (v := (.agg #[(.int .u8 (y40_21.k)), (.int .i64 (y40_21.n)), (.string (y40_21.t)), (.slice cn40_21a (y40_21.ns.length) cn40_21c), (.slice ci40_21a (y40_21.xs.length) ci40_21c), (.map (some b41_22)), (.int .i64 (0))])) (hlc rfl) ?_
     refine .done ⟨by kernel_rfl, fun a23 g W23 y23 zz23 hk hg hV hR hP => ?_⟩
     refine tail_nil ?_
     show runTail _ _ _ _ _ _
     obtain ⟨⟨b43_23, e43, hb43, own_b43_23⟩, -, -⟩ := hV
     have lo_b43_23 : w.heap.size ≤ b43_23 := Nat.le_trans kw.size (hg.lo _ _ hb43)
     have ne_b1_2_b43_23 : b1_2 ≠ b43_23 := Nat.ne_of_lt (Nat.lt_of_lt_of_le own_b1_2.lt (hg.lo _ _ hb43))
     have ne_b41_22_b43_23 : b41_22 ≠ b43_23 := Nat.ne_of_lt (Nat.lt_of_lt_of_le own_b41_22.lt (hg.lo _ _ hb43))
     have own_b43_23 : Own W23 b43_23 [(.int .u8 (y40_21.k)), (.int .i64 (y40_21.n)), (.string (y40_21.t)), (.slice cn40_21a (y40_21.ns.length) cn40_21c), (.slice ci40_21a (y40_21.xs.length) ci40_21c), (.map (some b41_22)), (.int .i64 (0))] 74 := own_b43_23
     replace D_cn40_21 := sf_more D_cn40_21 hk [b43_23] (in_cons (hg.lo _ _ hb43) in_nil)
     replace D_ci40_21 := sf_more D_ci40_21 hk [b43_23] (in_cons (hg.lo _ _ hb43) in_nil)
     replace own_b1_2 := own_b1_2.ext hk
     replace own_b41_22 := own_b41_22.ext hk
     replace kw := kw.x hk
     clear hR hk hg hP hb43
     refine tail_assign (v := (.pointer (some ⟨b43_23, 0, none⟩))) e43 (by rw [y23]; exact Nat.le_of_ble_eq_true rfl) (fun a24 y24 zz24 e2 hr => ?_)
     replace y24 := y24.trans y23; replace zz24 := zz24.trans zz23
     replace e43 := (hr 43 (by decide)).trans e43
     clear hr
     refine tail_nil (hK20 _ _ ?_)
     refine wp_ret ?_
     refine (show bodyPost Try.prog Try.f21 _ .ret _ _ from ret1 rfl zz24 e2 ⟨_, rfl, kw, ?_⟩)
     exact ⟨y40_21, hcp_y40_21, b43_23, b41_22, _, _, rfl, lo_b43_23, lo_b41_22, ne_b41_22_b43_23.symm, own_b43_23, own_b41_22, sf_pkf (by simp) D_cn40_21, sf_pkf (by simp) D_ci40_21, ht_v40_21⟩
set_option maxRecDepth 100000 in
theorem authOfP_ok (u : World) (x : V) (hx : x.wt ≤ 1073741824) (w : World) (S : BSet) (v : Value) (hu : u.heap.size ≤ w.heap.size) (hP : Pin u S) (hav : AVv u v) (hv : Rd w S x.d v) : Calls Try.prog 16 #[v] w (Ret w fun r W => ∃ y, Cp x y ∧ ∃ r1, r = .tuple #[r1, .int .i64 (ofAE2 x y)] ∧ Rd W (Fr w) (ofAV2 x y).d r1) := by
  by_cases hof : ofE x = 0
  · skip
    obtain ⟨cn0a, cn0c, ci0a, ci0c, ev, ht0, D_cn0, D_ci0⟩ := rdV_out (rd_arg hv)
    subst ev
    refine enter Try.func16 rfl Try.ntmps16 (lbr rfl) fun a0 y0 zz0 harg => ?_
    have e0 : sl a0 0 = (.agg #[(.int .u8 (x.k)), (.int .i64 (x.n)), (.string (x.t)), (.slice cn0a (x.ns.length) cn0c), (.slice ci0a (x.xs.length) ci0c)]) := harg 0 (lbr rfl)
    have kw := Keeps.refl All w
    clear harg
    refine wp_seq_k fun K1 hK1 => ?_
    refine rg mixed y0 zz0 ?_
    refine .boxOp (v := (.agg #[(.int .u8 (x.k)), (.int .i64 (x.n)), (.string (x.t)), (.slice cn0a (x.ns.length) cn0c), (.slice ci0a (x.xs.length) ci0c)])) (hbs rfl e0) ?_
    refine .alloc z27 ?_
    refine .i (sp_assign Has.cst) ?_
    refine .done ⟨by kernel_rfl, fun a2 g W2 y2 zz2 hk hg hV hR hP => ?_⟩
    obtain ⟨-, ⟨b2_2, e2, hb2, own_b2_2⟩, ⟨b1_2, e1, hb1, own_b1_2⟩, -⟩ := hV
    have lo_b2_2 : w.heap.size ≤ b2_2 := Nat.le_trans kw.size (hg.lo _ _ hb2)
    have own_b2_2 : Own W2 b2_2 [(.int .i64 (0)), (.slice none 0 0)] 27 := own_b2_2
    have lo_b1_2 : w.heap.size ≤ b1_2 := Nat.le_trans kw.size (hg.lo _ _ hb1)
    have own_b1_2 : Own W2 b1_2 [(.int .u8 (x.k)), (.int .i64 (x.n)), (.string (x.t)), (.slice cn0a (x.ns.length) cn0c), (.slice ci0a (x.xs.length) ci0c)] 33 := own_b1_2
    have ne_b2_2_b1_2 : b2_2 ≠ b1_2 := fun h => by have := hg.inj _ _ _ hb2 (h ▸ hb1); cases this
    replace D_cn0 := sa_more D_cn0 hk [b2_2, b1_2] (in_cons (hg.lo _ _ hb2) (in_cons (hg.lo _ _ hb1) in_nil))
    replace D_ci0 := sa_more D_ci0 hk [b2_2, b1_2] (in_cons (hg.lo _ _ hb2) (in_cons (hg.lo _ _ hb1) in_nil))
    replace kw := kw.x hk
    clear hR hk hg hP hb2 hb1
    refine tail_nil (hK1 _ _ ?_)
    refine wp_seq_k fun K3 hK3 => ?_
    refine wp_seq_k fun K4 hK4 => ?_
    refine rg mixed y2 zz2 ?_
    refine .i (v := (.agg #[(.int .u8 (x.k)), (.int .i64 (x.n)), (.string (x.t)), (.slice cn0a (x.ns.length) cn0c), (.slice ci0a (x.xs.length) ci0c)])) (loA (hbs rfl e1) own_b1_2 trivial agg33 sz33 rfl rfl) ?_
    refine .i (v := (.bool (mayB (x)))) (sp_call1 (φ1 := IsD (SA w S [b2_2, b1_2]) (V.d (x))) ent76 ((hlc rfl).dat (rdV_in (x := x) ht0 D_cn0 D_ci0 : Rd W2 (SA w S [b2_2, b1_2]) (V.d (x)) _) sub_all) (fun g u1 W hk hgk h1 => May_ok (x) (Nat.le_trans (cnt_wt x) hx) W _ _ h1)) ?_
    refine .i (sp_not (hlc rfl)) ?_
    refine .done ⟨by kernel_rfl, fun a5 g W5 y5 zz5 hk hg hV hR hP => ?_⟩
    obtain ⟨e9, -, -, -⟩ := hV
    replace e2 := (hR 2 rfl).trans e2
    replace e1 := (hR 1 rfl).trans e1
    replace D_cn0 := D_cn0.ext hk
    replace D_ci0 := D_ci0.ext hk
    have e9 : sl a5 9 = (.bool (!(mayB (x)))) := e9
    replace own_b2_2 := own_b2_2.ext hk
    replace own_b1_2 := own_b1_2.ext hk
    replace kw := kw.x hk
    clear hR hk hg hP
    refine tail_nil (hK4 _ _ ?_)
    refine wp_cond_split e9 (fun hc => ?_) (fun hc => ?_)
    ·
     obtain ⟨yy, hyy, hyx⟩ : ∃ yy, Cp x yy ∧ yy = x := ⟨x, .refl x, rfl⟩
     have hm : mayB x = false := by simpa using hc
     have hoe : ofAE2 x yy = 3 := by rw [ofAE2, if_pos hm]
     have hov : ofAV2 x yy = ⟨0, []⟩ := by rw [ofAV2, hoe]; rfl
     refine wp_seq_k fun K6 hK6 => ?_
     refine rg mixed y5 zz5 ?_
     refine .i (v := (.agg #[(.int .i64 (0)), (.slice none 0 0)])) (sp_build (vs := []) Try.underlying27 z27 (pl27 Try.underlying27) trivial rfl) ?_
     refine .done ⟨by kernel_rfl, fun a7 g W7 y7 zz7 hk hg hV hR hP => ?_⟩
     obtain ⟨e10, -⟩ := hV
     replace e2 := (hR 2 rfl).trans e2
     replace D_cn0 := D_cn0.ext hk
     replace D_ci0 := D_ci0.ext hk
     replace e10 := e10.q
     replace own_b2_2 := own_b2_2.ext hk
     replace own_b1_2 := own_b1_2.ext hk
     replace kw := kw.x hk
     clear hR hk hg hP
     refine tail_store (b := b2_2) (o := 0) (v := (.agg #[(.int .i64 (0)), (.slice none 0 0)])) e2 e10 sz27 rfl own_b2_2 (lbr rfl) (all_cons rfl (all_cons rfl all_nil)) (fun W8 hs own_b2_2 => ?_)
     have own_b2_2 : Own W8 b2_2 [(.int .i64 (0)), (.slice none 0 0)] 27 := own_b2_2
     replace own_b1_2 := own_store own_b1_2 hs ne_b2_2_b1_2.symm
     replace D_cn0 := sa_store D_cn0 hs (by simp)
     replace D_ci0 := sa_store D_ci0 hs (by simp)
     replace kw := keeps_store kw hs lo_b2_2
     clear hs
     refine tail_assign (v := (.int .i64 (3))) rfl (by rw [y7]; exact Nat.le_of_ble_eq_true rfl) (fun a9 y9 zz9 e3 hr => ?_)
     replace y9 := y9.trans y7; replace zz9 := zz9.trans zz7
     replace e2 := (hr 2 (by decide)).trans e2
     replace e10 := (hr 10 (by decide)).trans e10
     clear hr
     refine tail_nil (hK6 _ _ ?_)
     refine wp_ret ?_
     refine (show bodyPost Try.prog Try.f16 _ .ret _ _ from retCT (v := (.agg #[(.int .i64 (0)), (.slice none 0 0)])) rfl zz9 e2 own_b2_2 agg27 sz27 rfl (fun h => by cases h) rfl e3 ⟨_, rfl, kw, ?_⟩)
     refine ⟨yy, hyy, _, by rw [hoe], ?_⟩
     rw [hov]
     exact sf_fr (rdAu_mk (rd_nil _) : Rd W8 (SF w [b2_2, b1_2]) (Au.d (Au.mk (0) ([]))) _)
    ·
     have hm : ¬ mayB x = false := by simpa using hc
     refine wp_skip (hK3 _ _ ?_)
     refine wp_seq_k fun K10 hK10 => ?_
     refine rg mixed y5 zz5 ?_
     refine .i (v := (.agg #[(.int .u8 (x.k)), (.int .i64 (x.n)), (.string (x.t)), (.slice cn0a (x.ns.length) cn0c), (.slice ci0a (x.xs.length) ci0c)])) (loA (hbs rfl e1) own_b1_2 trivial agg33 sz33 rfl rfl) ?_
     refine .op (φ := IsEx (x) (fun yy => IsPk W5 74 (yy) ([]) (0))) (st_ex1 fun yy => st_pk) (sp_call1 (φ1 := Is (.agg #[(.int .u8 (x.k)), (.int .i64 (x.n)), (.string (x.t)), (.slice cn0a (x.ns.length) cn0c), (.slice ci0a (x.xs.length) ci0c)])) ent21 (hlc rfl) (fun g u1 W hk hgk h1 => by have h1 : u1 = _ := h1; subst u1; exact (OfP_ok u (x) hx hof W _ _ (Nat.le_trans hu (Nat.le_trans kw.size hk.size)) (pin_sa hP hu) hav ((rdV_in (x := x) ht0 D_cn0 D_ci0 : Rd W5 (SA w S [b2_2, b1_2]) (V.d (x)) _).ext hk)).mono (fun _ _ ⟨v, h1, h2, y, h3, h4⟩ => ⟨v, h1, h2, y, h3, pk_up hk h4⟩))) ?_
     refine .done ⟨by kernel_rfl, fun a11 g W11 y11 zz11 hk hg hV hR hP => ?_⟩
     obtain ⟨e12, -, -⟩ := hV
     replace e2 := (hR 2 rfl).trans e2
     obtain ⟨y12_11, hcp_y12_11, e12⟩ := e12
     obtain ⟨bo12_11, bm12_11, cn12_11v, ci12_11v, e12, lr_bo12_11, lr_bm12_11, ne_bo12_11_bm12_11, own_bo12_11, own_bm12_11, D_cn12_11, D_ci12_11, tb12_11⟩ := e12
     obtain ⟨cn12_11a, cn12_11c, ev, D2⟩ := rdS_out D_cn12_11; subst ev; replace D_cn12_11 := D2; clear D2
     obtain ⟨ci12_11a, ci12_11c, ev, D2⟩ := rdVs_out D_ci12_11; subst ev; replace D_ci12_11 := D2; clear D2
     have e12 : sl a11 12 = (.pointer (some ⟨bo12_11, 0, none⟩)) := e12
     have lo_bo12_11 : w.heap.size ≤ bo12_11 := Nat.le_trans kw.size lr_bo12_11
     have ne_b2_2_bo12_11 : b2_2 ≠ bo12_11 := Nat.ne_of_lt (Nat.lt_of_lt_of_le own_b2_2.lt lr_bo12_11)
     have ne_b1_2_bo12_11 : b1_2 ≠ bo12_11 := Nat.ne_of_lt (Nat.lt_of_lt_of_le own_b1_2.lt lr_bo12_11)
     have lo_bm12_11 : w.heap.size ≤ bm12_11 := Nat.le_trans kw.size lr_bm12_11
     have ne_b2_2_bm12_11 : b2_2 ≠ bm12_11 := Nat.ne_of_lt (Nat.lt_of_lt_of_le own_b2_2.lt lr_bm12_11)
     have ne_b1_2_bm12_11 : b1_2 ≠ bm12_11 := Nat.ne_of_lt (Nat.lt_of_lt_of_le own_b1_2.lt lr_bm12_11)
     replace D_cn0 : Rd W11 (SA w S [bo12_11, bm12_11, b2_2, b1_2]) (strsD (x.ns)) (.slice cn0a (x.ns.length) cn0c) := sa_more D_cn0 hk [bo12_11, bm12_11] (in_cons lr_bo12_11 (in_cons lr_bm12_11 in_nil))
     replace D_ci0 : Rd W11 (SA w S [bo12_11, bm12_11, b2_2, b1_2]) (valsD (x.xs)) (.slice ci0a (x.xs.length) ci0c) := sa_more D_ci0 hk [bo12_11, bm12_11] (in_cons lr_bo12_11 (in_cons lr_bm12_11 in_nil))
     replace D_cn12_11 : Rd W11 (SF w [bo12_11, bm12_11, b2_2, b1_2]) (strsD (y12_11.ns)) (.slice cn12_11a (y12_11.ns.length) cn12_11c) := pk_data kw (in_cons own_b2_2.lt (in_cons own_b1_2.lt in_nil)) D_cn12_11
     replace D_ci12_11 : Rd W11 (SF w [bo12_11, bm12_11, b2_2, b1_2]) (valsD (y12_11.xs)) (.slice ci12_11a (y12_11.xs.length) ci12_11c) := pk_data kw (in_cons own_b2_2.lt (in_cons own_b1_2.lt in_nil)) D_ci12_11
     have own_bo12_11 : Own W11 bo12_11 [(.int .u8 (y12_11.k)), (.int .i64 (y12_11.n)), (.string (y12_11.t)), (.slice cn12_11a (y12_11.ns.length) cn12_11c), (.slice ci12_11a (y12_11.xs.length) ci12_11c), (.map (some bm12_11)), (.int .i64 (0))] 74 := own_bo12_11
     have own_bm12_11 : OwnM W11 bm12_11 ([]) := own_bm12_11
     replace own_b2_2 := own_b2_2.ext hk
     replace own_b1_2 := own_b1_2.ext hk
     replace kw := kw.x hk
     clear hR hk hg hP lr_bo12_11 lr_bm12_11
     refine tail_assign (v := (.pointer (some ⟨bo12_11, 0, none⟩))) e12 (by rw [y11]; exact Nat.le_of_ble_eq_true rfl) (fun a12 y12 zz12 e4 hr => ?_)
     replace y12 := y12.trans y11; replace zz12 := zz12.trans zz11
     replace e2 := (hr 2 (by decide)).trans e2
     replace e12 := (hr 12 (by decide)).trans e12
     clear hr
     refine tail_nil (hK10 _ _ ?_)
     refine wp_seq_k fun K13 hK13 => ?_
     refine wp_reg (fun k => k ∉ [bo12_11, bm12_11]) (Ψ := fun W => Own W bo12_11 [(.int .u8 (y12_11.k)), (.int .i64 (y12_11.n)), (.string (y12_11.t)), (.slice cn12_11a (y12_11.ns.length) cn12_11c), (.slice ci12_11a (y12_11.xs.length) ci12_11c), (.map (some bm12_11)), (.int .i64 (0))] 74 ∧ OwnM W bm12_11 ([])) mixed y12 zz12 (stE_and stE_own stE_ownM) ⟨own_bo12_11, own_bm12_11⟩ ?_
     refine .i (sp_move (hbs rfl e4)) ?_
     refine .callL1 (φ1 := Is (.pointer (some ⟨bo12_11, 0, none⟩))) (φ := IsD (Fr W11) (Au.d (partA y12_11 0))) (Ψ' := fun W => Own W bo12_11 [(.int .u8 (y12_11.k)), (.int .i64 (y12_11.n)), (.string (y12_11.t)), (.slice cn12_11a (y12_11.ns.length) cn12_11c), (.slice ci12_11a (y12_11.xs.length) ci12_11c), (.map (some bm12_11)), (.int .i64 (partE y12_11 0))] 74 ∧ OwnM W bm12_11 (partM y12_11 ([]) 0)) ent23 (hlc rfl) (st_d (sub_frnl (in_cons own_bo12_11.lt (in_cons own_bm12_11.lt in_nil)))) (stE_and stE_own stE_ownM) (fun g u1 W hk hg h1 hP => by have h1 : u1 = _ := h1; subst u1; exact (Part_ok (y12_11) ([]) (0) (AB.nil.mono (by omega)) (by first | exact hx | exact Nat.le_trans (Cp.wt (by assumption)) hx) tb12_11 W _ _ _ _ _ (fun b o h => h.2.1) (sf_notin (by simp)) ne_bo12_11_bm12_11 (sf_keepL D_cn12_11 hk (by simp)) (sf_keepL D_ci12_11 hk (by simp)) hP.1 hP.2).mono (fun _ _ ⟨v, h1, h2, h3, h4⟩ => ⟨v, h1, h2, fresh_d hk hg h3, h4⟩)) ?_
     refine .done ⟨by kernel_rfl, fun a14 g W14 y14 zz14 hk hg hV hR hP => ?_⟩
     obtain ⟨e14, -, -⟩ := hV
     replace e2 := (hR 2 rfl).trans e2
     replace e4 := (hR 4 rfl).trans e4
     obtain ⟨v14_14, ev⟩ : ∃ v, sl a14 14 = v := ⟨_, rfl⟩
     rw [ev] at e14
     have D_v14_14 : Rd W14 (SF w [bo12_11, bm12_11, b2_2, b1_2]) (Au.d (partA y12_11 0)) v14_14 := fr_end (M := [bo12_11, bm12_11, b2_2, b1_2]) e14 kw [] in_nil (in_cons own_bo12_11.lt (in_cons own_bm12_11.lt (in_cons own_b2_2.lt (in_cons own_b1_2.lt in_nil))))
     replace e14 := ev; clear ev
     obtain ⟨v14_14_1a, v14_14_1c, ev, D_v14_14_1⟩ := rdAu_out D_v14_14
     subst ev; clear D_v14_14
     replace D_cn12_11 := sf_keepL D_cn12_11 hk (by simp)
     replace D_ci12_11 := sf_keepL D_ci12_11 hk (by simp)
     replace own_b2_2 := own_keepL own_b2_2 hk (by simp [ne_b2_2_bo12_11, ne_b2_2_bm12_11])
     replace own_b1_2 := own_keepL own_b1_2 hk (by simp [ne_b1_2_bo12_11, ne_b1_2_bm12_11])
     obtain ⟨own_bo12_11, own_bm12_11⟩ := hP
     replace own_bo12_11 : Own W14 bo12_11 [(.int .u8 (y12_11.k)), (.int .i64 (y12_11.n)), (.string (y12_11.t)), (.slice cn12_11a (y12_11.ns.length) cn12_11c), (.slice ci12_11a (y12_11.xs.length) ci12_11c), (.map (some bm12_11)), (.int .i64 (partE y12_11 0))] 74 := own_bo12_11
     replace own_bm12_11 : OwnM W14 bm12_11 (partM y12_11 ([]) 0) := own_bm12_11
     replace kw := keeps_L kw hk (in_cons (.inl lo_bo12_11) (in_cons (.inl lo_bm12_11) in_nil))
     clear hR hk hg
     refine tail_reg 1 All y14 zz14 st_tr trivial rfl ?_
     refine .alloc z27 ?_
     refine .done ⟨by kernel_rfl, fun a15 g W15 y15 zz15 hk hg hV hR hP => ?_⟩
     refine tail_nil ?_
     show runTail _ _ _ _ _ _
     obtain ⟨⟨b5_15, e5, hb5, own_b5_15⟩, -⟩ := hV
     have lo_b5_15 : w.heap.size ≤ b5_15 := Nat.le_trans kw.size (hg.lo _ _ hb5)
     have ne_b2_2_b5_15 : b2_2 ≠ b5_15 := Nat.ne_of_lt (Nat.lt_of_lt_of_le own_b2_2.lt (hg.lo _ _ hb5))
     have ne_b1_2_b5_15 : b1_2 ≠ b5_15 := Nat.ne_of_lt (Nat.lt_of_lt_of_le own_b1_2.lt (hg.lo _ _ hb5))
     have ne_bo12_11_b5_15 : bo12_11 ≠ b5_15 := Nat.ne_of_lt (Nat.lt_of_lt_of_le own_bo12_11.lt (hg.lo _ _ hb5))
     have ne_bm12_11_b5_15 : bm12_11 ≠ b5_15 := Nat.ne_of_lt (Nat.lt_of_lt_of_le own_bm12_11.lt (hg.lo _ _ hb5))
     have own_b5_15 : Own W15 b5_15 [(.int .i64 (0)), (.slice none 0 0)] 27 := own_b5_15
     replace e2 := (hR 2 rfl).trans e2
     replace e4 := (hR 4 rfl).trans e4
     replace e14 := (hR 14 rfl).trans e14
     replace D_cn12_11 := sf_more D_cn12_11 hk [b5_15] (in_cons (hg.lo _ _ hb5) in_nil)
     replace D_ci12_11 := sf_more D_ci12_11 hk [b5_15] (in_cons (hg.lo _ _ hb5) in_nil)
     replace D_v14_14_1 := sf_more D_v14_14_1 hk [b5_15] (in_cons (hg.lo _ _ hb5) in_nil)
     replace own_b2_2 := own_b2_2.ext hk
     replace own_b1_2 := own_b1_2.ext hk
     replace own_bo12_11 := own_bo12_11.ext hk
     replace own_bm12_11 := own_bm12_11.ext hk
     replace kw := kw.x hk
     clear hR hk hg hP hb5
     refine tail_store (b := b5_15) (o := 0) (v := (.agg #[(.int .i64 ((partA y12_11 0).th)), (.slice v14_14_1a (((partA y12_11 0).ids).length) v14_14_1c)])) e5 e14 sz27 rfl own_b5_15 (lbr rfl) (all_cons rfl (all_cons rfl all_nil)) (fun W16 hs own_b5_15 => ?_)
     have own_b5_15 : Own W16 b5_15 [(.int .i64 ((partA y12_11 0).th)), (.slice v14_14_1a (((partA y12_11 0).ids).length) v14_14_1c)] 27 := own_b5_15
     replace own_b2_2 := own_store own_b2_2 hs ne_b2_2_b5_15
     replace own_b1_2 := own_store own_b1_2 hs ne_b1_2_b5_15
     replace own_bo12_11 := own_store own_bo12_11 hs ne_bo12_11_b5_15
     replace own_bm12_11 := ownM_store own_bm12_11 hs ne_bm12_11_b5_15
     replace D_cn12_11 := sf_store D_cn12_11 hs (by simp)
     replace D_ci12_11 := sf_store D_ci12_11 hs (by simp)
     replace D_v14_14_1 := sf_store D_v14_14_1 hs (by simp)
     replace kw := keeps_store kw hs lo_b5_15
     clear hs
     refine tail_nil (hK13 _ _ ?_)
     refine wp_seq_k fun K17 hK17 => ?_
     refine wp_seq_k fun K18 hK18 => ?_
     refine rg mixed y15 zz15 ?_
     refine .i (sp_move (hbs rfl e4)) ?_
     refine .i (v := (.int .i64 (doneE y12_11 (partM y12_11 ([]) 0) (partE y12_11 0)))) (sp_call1 (φ1 := Is (.pointer (some ⟨bo12_11, 0, none⟩))) ent32 (hlc rfl) (fun g u1 W hk hgk h1 => by have h1 : u1 = _ := h1; subst u1; exact Done_ok (y12_11) (partM y12_11 ([]) 0) (partE y12_11 0) W _ _ _ _ _ (D_cn12_11.ext hk) (own_bo12_11.ext hk) (own_bm12_11.ext hk))) ?_
     refine .i (sp_assign (hlc rfl)) ?_
     refine .done ⟨by kernel_rfl, fun a19 g W19 y19 zz19 hk hg hV hR hP => ?_⟩
     obtain ⟨e6, -, -, -⟩ := hV
     replace e2 := (hR 2 rfl).trans e2
     replace e5 := (hR 5 rfl).trans e5
     replace D_cn12_11 := D_cn12_11.ext hk
     replace D_ci12_11 := D_ci12_11.ext hk
     replace D_v14_14_1 := D_v14_14_1.ext hk
     replace e6 := e6.q
     replace own_b2_2 := own_b2_2.ext hk
     replace own_b1_2 := own_b1_2.ext hk
     replace own_bo12_11 := own_bo12_11.ext hk
     replace own_bm12_11 := own_bm12_11.ext hk
     replace own_b5_15 := own_b5_15.ext hk
     replace kw := kw.x hk
     clear hR hk hg hP
     refine tail_nil (hK18 _ _ ?_)
     refine wp_seq_k fun K20 hK20 => ?_
     refine rg mixed y19 zz19 ?_
     refine .i (sp_move (hbs rfl e6)) ?_
     refine .i (sp_neq (hlc rfl) Has.cst) ?_
     refine .done ⟨by kernel_rfl, fun a21 g W21 y21 zz21 hk hg hV hR hP => ?_⟩
     obtain ⟨e18, -, -⟩ := hV
     replace e2 := (hR 2 rfl).trans e2
     replace e5 := (hR 5 rfl).trans e5
     replace e6 := (hR 6 rfl).trans e6
     replace D_v14_14_1 := D_v14_14_1.ext hk
     replace e18 := e18.q
     replace own_b2_2 := own_b2_2.ext hk
     replace own_b1_2 := own_b1_2.ext hk
     replace own_bo12_11 := own_bo12_11.ext hk
     replace own_bm12_11 := own_bm12_11.ext hk
     replace own_b5_15 := own_b5_15.ext hk
     replace kw := kw.x hk
     clear hR hk hg hP
     refine tail_nil (hK20 _ _ ?_)
     refine wp_cond_split e18 (fun hc => ?_) (fun hc => ?_)
     ·
      have hd := bne_iff_ne.1 hc
      have hoe : ofAE2 x y12_11 = doneE y12_11 (partM y12_11 [] 0) (partE y12_11 0) := by rw [ofAE2, if_neg hm, if_neg (by simp [hof])]
      have hov : ofAV2 x y12_11 = ⟨0, []⟩ := by rw [ofAV2, if_neg (by rw [hoe]; exact hd)]
      refine wp_seq_k fun K22 hK22 => ?_
      refine rg mixed y21 zz21 ?_
      refine .i (v := (.agg #[(.int .i64 (0)), (.slice none 0 0)])) (sp_build (vs := []) Try.underlying27 z27 (pl27 Try.underlying27) trivial rfl) ?_
      refine .i (sp_move (hbs rfl e6)) ?_
      refine .done ⟨by kernel_rfl, fun a23 g W23 y23 zz23 hk hg hV hR hP => ?_⟩
      obtain ⟨e20, e19, -⟩ := hV
      replace e2 := (hR 2 rfl).trans e2
      replace D_v14_14_1 := D_v14_14_1.ext hk
      replace e19 := e19.q
      replace e20 := e20.q
      replace own_b2_2 := own_b2_2.ext hk
      replace own_b1_2 := own_b1_2.ext hk
      replace own_bo12_11 := own_bo12_11.ext hk
      replace own_bm12_11 := own_bm12_11.ext hk
      replace own_b5_15 := own_b5_15.ext hk
      replace kw := kw.x hk
      clear hR hk hg hP
      refine tail_store (b := b2_2) (o := 0) (v := (.agg #[(.int .i64 (0)), (.slice none 0 0)])) e2 e19 sz27 rfl own_b2_2 (lbr rfl) (all_cons rfl (all_cons rfl all_nil)) (fun W24 hs own_b2_2 => ?_)
      have own_b2_2 : Own W24 b2_2 [(.int .i64 (0)), (.slice none 0 0)] 27 := own_b2_2
      replace own_b1_2 := own_store own_b1_2 hs ne_b2_2_b1_2.symm
      replace own_bo12_11 := own_store own_bo12_11 hs ne_b2_2_bo12_11.symm
      replace own_bm12_11 := ownM_store own_bm12_11 hs ne_b2_2_bm12_11.symm
      replace own_b5_15 := own_store own_b5_15 hs ne_b2_2_b5_15.symm
      replace D_v14_14_1 := sf_store D_v14_14_1 hs (by simp)
      replace kw := keeps_store kw hs lo_b2_2
      clear hs
      refine tail_assign (v := (.int .i64 (doneE y12_11 (partM y12_11 ([]) 0) (partE y12_11 0)))) e20 (by rw [y23]; exact Nat.le_of_ble_eq_true rfl) (fun a25 y25 zz25 e3 hr => ?_)
      replace y25 := y25.trans y23; replace zz25 := zz25.trans zz23
      replace e2 := (hr 2 (by decide)).trans e2
      replace e19 := (hr 19 (by decide)).trans e19
      replace e20 := (hr 20 (by decide)).trans e20
      clear hr
      refine tail_nil (hK22 _ _ ?_)
      refine wp_ret ?_
      refine (show bodyPost Try.prog Try.f16 _ .ret _ _ from retCT (v := (.agg #[(.int .i64 (0)), (.slice none 0 0)])) rfl zz25 e2 own_b2_2 agg27 sz27 rfl (fun h => by cases h) rfl e3 ⟨_, rfl, kw, ?_⟩)
      refine ⟨y12_11, hcp_y12_11, _, by rw [hoe], ?_⟩
      rw [hov]
      exact sf_fr (rdAu_mk (rd_nil _) : Rd W24 (SF w [b5_15, bo12_11, bm12_11, b2_2, b1_2]) (Au.d (Au.mk (0) ([]))) _)
     ·
      have hd := bne_eq_false_iff_eq.1 hc
      have hoe : ofAE2 x y12_11 = 0 := by rw [ofAE2, if_neg hm, if_neg (by simp [hof])]; exact hd
      have hov : ofAV2 x y12_11 = partA y12_11 0 := by rw [ofAV2, if_pos hoe]
      refine wp_skip (hK17 _ _ ?_)
      refine wp_seq_k fun K26 hK26 => ?_
      refine rg mixed y21 zz21 ?_
      refine .i (v := (.agg #[(.int .i64 ((partA y12_11 0).th)), (.slice v14_14_1a (((partA y12_11 0).ids).length) v14_14_1c)])) (loA (hbs rfl e5) own_b5_15 trivial agg27 sz27 rfl rfl) ?_
      refine .done ⟨by kernel_rfl, fun a27 g W27 y27 zz27 hk hg hV hR hP => ?_⟩
      obtain ⟨e21, -⟩ := hV
      replace e2 := (hR 2 rfl).trans e2
      replace D_v14_14_1 := D_v14_14_1.ext hk
      replace e21 := e21.q
      replace own_b2_2 := own_b2_2.ext hk
      replace own_b1_2 := own_b1_2.ext hk
      replace own_bo12_11 := own_bo12_11.ext hk
      replace own_bm12_11 := own_bm12_11.ext hk
      replace own_b5_15 := own_b5_15.ext hk
      replace kw := kw.x hk
      clear hR hk hg hP
      refine tail_store (b := b2_2) (o := 0) (v := (.agg #[(.int .i64 ((partA y12_11 0).th)), (.slice v14_14_1a (((partA y12_11 0).ids).length) v14_14_1c)])) e2 e21 sz27 rfl own_b2_2 (lbr rfl) (all_cons rfl (all_cons rfl all_nil)) (fun W28 hs own_b2_2 => ?_)
      have own_b2_2 : Own W28 b2_2 [(.int .i64 ((partA y12_11 0).th)), (.slice v14_14_1a (((partA y12_11 0).ids).length) v14_14_1c)] 27 := own_b2_2
      replace own_b1_2 := own_store own_b1_2 hs ne_b2_2_b1_2.symm
      replace own_bo12_11 := own_store own_bo12_11 hs ne_b2_2_bo12_11.symm
      replace own_bm12_11 := ownM_store own_bm12_11 hs ne_b2_2_bm12_11.symm
      replace own_b5_15 := own_store own_b5_15 hs ne_b2_2_b5_15.symm
      replace D_v14_14_1 := sf_store D_v14_14_1 hs (by simp)
      replace kw := keeps_store kw hs lo_b2_2
      clear hs
      refine tail_assign (v := (.int .i64 (0))) rfl (by rw [y27]; exact Nat.le_of_ble_eq_true rfl) (fun a29 y29 zz29 e3 hr => ?_)
      replace y29 := y29.trans y27; replace zz29 := zz29.trans zz27
      replace e2 := (hr 2 (by decide)).trans e2
      replace e21 := (hr 21 (by decide)).trans e21
      clear hr
      refine tail_nil (hK26 _ _ ?_)
      refine wp_ret ?_
      refine (show bodyPost Try.prog Try.f16 _ .ret _ _ from retCT (v := (.agg #[(.int .i64 ((partA y12_11 0).th)), (.slice v14_14_1a (((partA y12_11 0).ids).length) v14_14_1c)])) rfl zz29 e2 own_b2_2 agg27 sz27 rfl (fun h => by cases h) rfl e3 ⟨_, rfl, kw, ?_⟩)
      refine ⟨y12_11, hcp_y12_11, _, by rw [hoe], ?_⟩
      rw [hov]
      exact sf_fr (rdAu_mk D_v14_14_1 : Rd W28 (SF w [b5_15, bo12_11, bm12_11, b2_2, b1_2]) (Au.d ((partA y12_11 0))) _)
  · have hE : errK 0 (ofE x) ≠ 0 := by rw [ofE_dead hof]; exact hof
    obtain ⟨cn0a, cn0c, ci0a, ci0c, ev, ht0, D_cn0, D_ci0⟩ := rdV_out (rd_arg hv)
    subst ev
    refine enter Try.func16 rfl Try.ntmps16 (lbr rfl) fun a0 y0 zz0 harg => ?_
    have e0 : sl a0 0 = (.agg #[(.int .u8 (x.k)), (.int .i64 (x.n)), (.string (x.t)), (.slice cn0a (x.ns.length) cn0c), (.slice ci0a (x.xs.length) ci0c)]) := harg 0 (lbr rfl)
    have kw := Keeps.refl All w
    clear harg
    refine wp_seq_k fun K1 hK1 => ?_
    refine rg mixed y0 zz0 ?_
    refine .boxOp (v := (.agg #[(.int .u8 (x.k)), (.int .i64 (x.n)), (.string (x.t)), (.slice cn0a (x.ns.length) cn0c), (.slice ci0a (x.xs.length) ci0c)])) (hbs rfl e0) ?_
    refine .alloc z27 ?_
    refine .i (sp_assign Has.cst) ?_
    refine .done ⟨by kernel_rfl, fun a2 g W2 y2 zz2 hk hg hV hR hP => ?_⟩
    obtain ⟨-, ⟨b2_2, e2, hb2, own_b2_2⟩, ⟨b1_2, e1, hb1, own_b1_2⟩, -⟩ := hV
    have lo_b2_2 : w.heap.size ≤ b2_2 := Nat.le_trans kw.size (hg.lo _ _ hb2)
    have own_b2_2 : Own W2 b2_2 [(.int .i64 (0)), (.slice none 0 0)] 27 := own_b2_2
    have lo_b1_2 : w.heap.size ≤ b1_2 := Nat.le_trans kw.size (hg.lo _ _ hb1)
    have own_b1_2 : Own W2 b1_2 [(.int .u8 (x.k)), (.int .i64 (x.n)), (.string (x.t)), (.slice cn0a (x.ns.length) cn0c), (.slice ci0a (x.xs.length) ci0c)] 33 := own_b1_2
    have ne_b2_2_b1_2 : b2_2 ≠ b1_2 := fun h => by have := hg.inj _ _ _ hb2 (h ▸ hb1); cases this
    replace D_cn0 := sa_more D_cn0 hk [b2_2, b1_2] (in_cons (hg.lo _ _ hb2) (in_cons (hg.lo _ _ hb1) in_nil))
    replace D_ci0 := sa_more D_ci0 hk [b2_2, b1_2] (in_cons (hg.lo _ _ hb2) (in_cons (hg.lo _ _ hb1) in_nil))
    replace kw := kw.x hk
    clear hR hk hg hP hb2 hb1
    refine tail_nil (hK1 _ _ ?_)
    refine wp_seq_k fun K3 hK3 => ?_
    refine wp_seq_k fun K4 hK4 => ?_
    refine rg mixed y2 zz2 ?_
    refine .i (v := (.agg #[(.int .u8 (x.k)), (.int .i64 (x.n)), (.string (x.t)), (.slice cn0a (x.ns.length) cn0c), (.slice ci0a (x.xs.length) ci0c)])) (loA (hbs rfl e1) own_b1_2 trivial agg33 sz33 rfl rfl) ?_
    refine .i (v := (.bool (mayB (x)))) (sp_call1 (φ1 := IsD (SA w S [b2_2, b1_2]) (V.d (x))) ent76 ((hlc rfl).dat (rdV_in (x := x) ht0 D_cn0 D_ci0 : Rd W2 (SA w S [b2_2, b1_2]) (V.d (x)) _) sub_all) (fun g u1 W hk hgk h1 => May_ok (x) (Nat.le_trans (cnt_wt x) hx) W _ _ h1)) ?_
    refine .i (sp_not (hlc rfl)) ?_
    refine .done ⟨by kernel_rfl, fun a5 g W5 y5 zz5 hk hg hV hR hP => ?_⟩
    obtain ⟨e9, -, -, -⟩ := hV
    replace e2 := (hR 2 rfl).trans e2
    replace e1 := (hR 1 rfl).trans e1
    replace D_cn0 := D_cn0.ext hk
    replace D_ci0 := D_ci0.ext hk
    have e9 : sl a5 9 = (.bool (!(mayB (x)))) := e9
    replace own_b2_2 := own_b2_2.ext hk
    replace own_b1_2 := own_b1_2.ext hk
    replace kw := kw.x hk
    clear hR hk hg hP
    refine tail_nil (hK4 _ _ ?_)
    refine wp_cond_split e9 (fun hc => ?_) (fun hc => ?_)
    ·
     obtain ⟨yy, hyy, hyx⟩ : ∃ yy, Cp x yy ∧ yy = x := ⟨x, .refl x, rfl⟩
     have hm : mayB x = false := by simpa using hc
     have hoe : ofAE2 x yy = 3 := by rw [ofAE2, if_pos hm]
     have hov : ofAV2 x yy = ⟨0, []⟩ := by rw [ofAV2, hoe]; rfl
     refine wp_seq_k fun K6 hK6 => ?_
     refine rg mixed y5 zz5 ?_
     refine .i (v := (.agg #[(.int .i64 (0)), (.slice none 0 0)])) (sp_build (vs := []) Try.underlying27 z27 (pl27 Try.underlying27) trivial rfl) ?_
     refine .done ⟨by kernel_rfl, fun a7 g W7 y7 zz7 hk hg hV hR hP => ?_⟩
     obtain ⟨e10, -⟩ := hV
     replace e2 := (hR 2 rfl).trans e2
     replace D_cn0 := D_cn0.ext hk
     replace D_ci0 := D_ci0.ext hk
     replace e10 := e10.q
     replace own_b2_2 := own_b2_2.ext hk
     replace own_b1_2 := own_b1_2.ext hk
     replace kw := kw.x hk
     clear hR hk hg hP
     refine tail_store (b := b2_2) (o := 0) (v := (.agg #[(.int .i64 (0)), (.slice none 0 0)])) e2 e10 sz27 rfl own_b2_2 (lbr rfl) (all_cons rfl (all_cons rfl all_nil)) (fun W8 hs own_b2_2 => ?_)
     have own_b2_2 : Own W8 b2_2 [(.int .i64 (0)), (.slice none 0 0)] 27 := own_b2_2
     replace own_b1_2 := own_store own_b1_2 hs ne_b2_2_b1_2.symm
     replace D_cn0 := sa_store D_cn0 hs (by simp)
     replace D_ci0 := sa_store D_ci0 hs (by simp)
     replace kw := keeps_store kw hs lo_b2_2
     clear hs
     refine tail_assign (v := (.int .i64 (3))) rfl (by rw [y7]; exact Nat.le_of_ble_eq_true rfl) (fun a9 y9 zz9 e3 hr => ?_)
     replace y9 := y9.trans y7; replace zz9 := zz9.trans zz7
     replace e2 := (hr 2 (by decide)).trans e2
     replace e10 := (hr 10 (by decide)).trans e10
     clear hr
     refine tail_nil (hK6 _ _ ?_)
     refine wp_ret ?_
     refine (show bodyPost Try.prog Try.f16 _ .ret _ _ from retCT (v := (.agg #[(.int .i64 (0)), (.slice none 0 0)])) rfl zz9 e2 own_b2_2 agg27 sz27 rfl (fun h => by cases h) rfl e3 ⟨_, rfl, kw, ?_⟩)
     refine ⟨yy, hyy, _, by rw [hoe], ?_⟩
     rw [hov]
     exact sf_fr (rdAu_mk (rd_nil _) : Rd W8 (SF w [b2_2, b1_2]) (Au.d (Au.mk (0) ([]))) _)
    ·
     have hm : ¬ mayB x = false := by simpa using hc
     refine wp_skip (hK3 _ _ ?_)
     refine wp_seq_k fun K10 hK10 => ?_
     refine rg mixed y5 zz5 ?_
     refine .i (v := (.agg #[(.int .u8 (x.k)), (.int .i64 (x.n)), (.string (x.t)), (.slice cn0a (x.ns.length) cn0c), (.slice ci0a (x.xs.length) ci0c)])) (loA (hbs rfl e1) own_b1_2 trivial agg33 sz33 rfl rfl) ?_
     refine .op (φ := IsPkD W5 74 (ofE x)) st_pkd (sp_call1 (φ1 := IsD (SA w S [b2_2, b1_2]) (V.d (x))) ent21 ((hlc rfl).dat (rdV_in (x := x) ht0 D_cn0 D_ci0 : Rd W5 (SA w S [b2_2, b1_2]) (V.d (x)) _) sub_all) (fun g u1 W hk hgk h1 => (OfD_ok (x) hof W _ _ h1).mono (fun _ _ ⟨v, h1, h2, h3⟩ => ⟨v, h1, h2, pkd_up hk h3⟩))) ?_
     refine .done ⟨by kernel_rfl, fun a11 g W11 y11 zz11 hk hg hV hR hP => ?_⟩
     obtain ⟨e12, -, -⟩ := hV
     replace e2 := (hR 2 rfl).trans e2
     obtain ⟨bo12_11, e12, lr_bo12_11, own_bo12_11⟩ := e12
     have e12 : sl a11 12 = (.pointer (some ⟨bo12_11, 0, none⟩)) := e12
     have lo_bo12_11 : w.heap.size ≤ bo12_11 := Nat.le_trans kw.size lr_bo12_11
     have ne_b2_2_bo12_11 : b2_2 ≠ bo12_11 := Nat.ne_of_lt (Nat.lt_of_lt_of_le own_b2_2.lt lr_bo12_11)
     have ne_b1_2_bo12_11 : b1_2 ≠ bo12_11 := Nat.ne_of_lt (Nat.lt_of_lt_of_le own_b1_2.lt lr_bo12_11)
     replace D_cn0 : Rd W11 (SA w S [bo12_11, b2_2, b1_2]) (strsD (x.ns)) (.slice cn0a (x.ns.length) cn0c) := sa_more D_cn0 hk [bo12_11] (in_cons lr_bo12_11 in_nil)
     replace D_ci0 : Rd W11 (SA w S [bo12_11, b2_2, b1_2]) (valsD (x.xs)) (.slice ci0a (x.xs.length) ci0c) := sa_more D_ci0 hk [bo12_11] (in_cons lr_bo12_11 in_nil)
     have own_bo12_11 : Own W11 bo12_11 [(.int .u8 (0)), (.int .i64 (0)), (.string (⟨#[]⟩)), (.slice none 0 0), (.slice none 0 0), (.map none), (.int .i64 (ofE x))] 74 := own_bo12_11
     replace own_b2_2 := own_b2_2.ext hk
     replace own_b1_2 := own_b1_2.ext hk
     replace kw := kw.x hk
     clear hR hk hg hP lr_bo12_11
     refine tail_assign (v := (.pointer (some ⟨bo12_11, 0, none⟩))) e12 (by rw [y11]; exact Nat.le_of_ble_eq_true rfl) (fun a12 y12 zz12 e4 hr => ?_)
     replace y12 := y12.trans y11; replace zz12 := zz12.trans zz11
     replace e2 := (hr 2 (by decide)).trans e2
     replace e12 := (hr 12 (by decide)).trans e12
     clear hr
     refine tail_nil (hK10 _ _ ?_)
     refine wp_seq_k fun K13 hK13 => ?_
     refine wp_reg (fun k => k ∉ [bo12_11]) (Ψ := fun W => Own W bo12_11 [(.int .u8 (0)), (.int .i64 (0)), (.string (⟨#[]⟩)), (.slice none 0 0), (.slice none 0 0), (.map none), (.int .i64 (ofE x))] 74) mixed y12 zz12 stE_own own_bo12_11 ?_
     refine .i (sp_move (hbs rfl e4)) ?_
     refine .callL1 (φ1 := Is (.pointer (some ⟨bo12_11, 0, none⟩))) (φ := Is (.agg #[(.int .i64 (0)), (.slice none 0 0)])) (Ψ' := fun W => Own W bo12_11 [(.int .u8 (0)), (.int .i64 (0)), (.string (⟨#[]⟩)), (.slice none 0 0), (.slice none 0 0), (.map none), (.int .i64 (ofE x))] 74) ent23 (hlc rfl) (st_is _) stE_own (fun g u1 W hk hg h1 hP => by have h1 : u1 = _ := h1; subst u1; exact (PartD_ok 0 _ _ _ _ _ (ofE x) hE W _ hP)) ?_
     refine .done ⟨by kernel_rfl, fun a14 g W14 y14 zz14 hk hg hV hR hP => ?_⟩
     obtain ⟨e14, -, -⟩ := hV
     replace e2 := (hR 2 rfl).trans e2
     replace e4 := (hR 4 rfl).trans e4
     replace e14 := e14.q
     replace own_b2_2 := own_keepL own_b2_2 hk (by simp [ne_b2_2_bo12_11])
     replace own_b1_2 := own_keepL own_b1_2 hk (by simp [ne_b1_2_bo12_11])
     have own_bo12_11 := hP
     replace own_bo12_11 : Own W14 bo12_11 [(.int .u8 (0)), (.int .i64 (0)), (.string (⟨#[]⟩)), (.slice none 0 0), (.slice none 0 0), (.map none), (.int .i64 (ofE x))] 74 := own_bo12_11
     replace kw := keeps_L kw hk (in_cons (.inl lo_bo12_11) in_nil)
     clear hR hk hg hP
     refine tail_reg 1 All y14 zz14 st_tr trivial rfl ?_
     refine .alloc z27 ?_
     refine .done ⟨by kernel_rfl, fun a15 g W15 y15 zz15 hk hg hV hR hP => ?_⟩
     refine tail_nil ?_
     show runTail _ _ _ _ _ _
     obtain ⟨⟨b5_15, e5, hb5, own_b5_15⟩, -⟩ := hV
     have lo_b5_15 : w.heap.size ≤ b5_15 := Nat.le_trans kw.size (hg.lo _ _ hb5)
     have ne_b2_2_b5_15 : b2_2 ≠ b5_15 := Nat.ne_of_lt (Nat.lt_of_lt_of_le own_b2_2.lt (hg.lo _ _ hb5))
     have ne_b1_2_b5_15 : b1_2 ≠ b5_15 := Nat.ne_of_lt (Nat.lt_of_lt_of_le own_b1_2.lt (hg.lo _ _ hb5))
     have ne_bo12_11_b5_15 : bo12_11 ≠ b5_15 := Nat.ne_of_lt (Nat.lt_of_lt_of_le own_bo12_11.lt (hg.lo _ _ hb5))
     have own_b5_15 : Own W15 b5_15 [(.int .i64 (0)), (.slice none 0 0)] 27 := own_b5_15
     replace e2 := (hR 2 rfl).trans e2
     replace e4 := (hR 4 rfl).trans e4
     replace e14 := (hR 14 rfl).trans e14
     replace own_b2_2 := own_b2_2.ext hk
     replace own_b1_2 := own_b1_2.ext hk
     replace own_bo12_11 := own_bo12_11.ext hk
     replace kw := kw.x hk
     clear hR hk hg hP hb5
     refine tail_store (b := b5_15) (o := 0) (v := (.agg #[(.int .i64 (0)), (.slice none 0 0)])) e5 e14 sz27 rfl own_b5_15 (lbr rfl) (all_cons rfl (all_cons rfl all_nil)) (fun W16 hs own_b5_15 => ?_)
     have own_b5_15 : Own W16 b5_15 [(.int .i64 (0)), (.slice none 0 0)] 27 := own_b5_15
     replace own_b2_2 := own_store own_b2_2 hs ne_b2_2_b5_15
     replace own_b1_2 := own_store own_b1_2 hs ne_b1_2_b5_15
     replace own_bo12_11 := own_store own_bo12_11 hs ne_bo12_11_b5_15
     replace kw := keeps_store kw hs lo_b5_15
     clear hs
     refine tail_nil (hK13 _ _ ?_)
     refine wp_seq_k fun K17 hK17 => ?_
     refine wp_seq_k fun K18 hK18 => ?_
     refine rg mixed y15 zz15 ?_
     refine .i (sp_move (hbs rfl e4)) ?_
     refine .i (v := (.int .i64 (errK 0 (ofE x)))) (sp_call1 (φ1 := Is (.pointer (some ⟨bo12_11, 0, none⟩))) ent32 (hlc rfl) (fun g u1 W hk hgk h1 => by have h1 : u1 = _ := h1; subst u1; exact DoneD_ok _ _ _ _ _ _ _ hE W _ (own_bo12_11.ext hk))) ?_
     refine .i (sp_assign (hlc rfl)) ?_
     refine .done ⟨by kernel_rfl, fun a19 g W19 y19 zz19 hk hg hV hR hP => ?_⟩
     obtain ⟨e6, -, -, -⟩ := hV
     replace e2 := (hR 2 rfl).trans e2
     replace e5 := (hR 5 rfl).trans e5
     have e6 : sl a19 6 = (.int .i64 (errK 0 (ofE x))) := e6
     replace own_b2_2 := own_b2_2.ext hk
     replace own_b1_2 := own_b1_2.ext hk
     replace own_bo12_11 := own_bo12_11.ext hk
     replace own_b5_15 := own_b5_15.ext hk
     replace kw := kw.x hk
     clear hR hk hg hP
     refine tail_nil (hK18 _ _ ?_)
     refine wp_seq_k fun K20 hK20 => ?_
     refine rg mixed y19 zz19 ?_
     refine .i (sp_move (hbs rfl e6)) ?_
     refine .i (sp_neq (hlc rfl) Has.cst) ?_
     refine .done ⟨by kernel_rfl, fun a21 g W21 y21 zz21 hk hg hV hR hP => ?_⟩
     obtain ⟨e18, -, -⟩ := hV
     replace e2 := (hR 2 rfl).trans e2
     replace e5 := (hR 5 rfl).trans e5
     replace e6 := (hR 6 rfl).trans e6
     replace e18 := e18.q
     replace own_b2_2 := own_b2_2.ext hk
     replace own_b1_2 := own_b1_2.ext hk
     replace own_bo12_11 := own_bo12_11.ext hk
     replace own_b5_15 := own_b5_15.ext hk
     replace kw := kw.x hk
     clear hR hk hg hP
     refine tail_nil (hK20 _ _ ?_)
     refine wp_cond_split e18 (fun hc => ?_) (fun hc => ?_)
     ·
      obtain ⟨yy, hyy⟩ : ∃ yy, Cp x yy := ⟨x, .refl x⟩
      have hoe : ofAE2 x yy = errK 0 (ofE x) := by rw [ofAE2, if_neg hm, if_pos hof, ofE_dead hof]
      have hov : ofAV2 x yy = ⟨0, []⟩ := by rw [ofAV2, if_neg (by rw [hoe]; exact hE)]
      refine wp_seq_k fun K22 hK22 => ?_
      refine rg mixed y21 zz21 ?_
      refine .i (v := (.agg #[(.int .i64 (0)), (.slice none 0 0)])) (sp_build (vs := []) Try.underlying27 z27 (pl27 Try.underlying27) trivial rfl) ?_
      refine .i (sp_move (hbs rfl e6)) ?_
      refine .done ⟨by kernel_rfl, fun a23 g W23 y23 zz23 hk hg hV hR hP => ?_⟩
      obtain ⟨e20, e19, -⟩ := hV
      replace e2 := (hR 2 rfl).trans e2
      replace e19 := e19.q
      have e20 : sl a23 20 = (.int .i64 (errK 0 (ofE x))) := e20
      replace own_b2_2 := own_b2_2.ext hk
      replace own_b1_2 := own_b1_2.ext hk
      replace own_bo12_11 := own_bo12_11.ext hk
      replace own_b5_15 := own_b5_15.ext hk
      replace kw := kw.x hk
      clear hR hk hg hP
      refine tail_store (b := b2_2) (o := 0) (v := (.agg #[(.int .i64 (0)), (.slice none 0 0)])) e2 e19 sz27 rfl own_b2_2 (lbr rfl) (all_cons rfl (all_cons rfl all_nil)) (fun W24 hs own_b2_2 => ?_)
      have own_b2_2 : Own W24 b2_2 [(.int .i64 (0)), (.slice none 0 0)] 27 := own_b2_2
      replace own_b1_2 := own_store own_b1_2 hs ne_b2_2_b1_2.symm
      replace own_bo12_11 := own_store own_bo12_11 hs ne_b2_2_bo12_11.symm
      replace own_b5_15 := own_store own_b5_15 hs ne_b2_2_b5_15.symm
      replace kw := keeps_store kw hs lo_b2_2
      clear hs
      refine tail_assign (v := (.int .i64 (errK 0 (ofE x)))) e20 (by rw [y23]; exact Nat.le_of_ble_eq_true rfl) (fun a25 y25 zz25 e3 hr => ?_)
      replace y25 := y25.trans y23; replace zz25 := zz25.trans zz23
      replace e2 := (hr 2 (by decide)).trans e2
      replace e19 := (hr 19 (by decide)).trans e19
      replace e20 := (hr 20 (by decide)).trans e20
      clear hr
      refine tail_nil (hK22 _ _ ?_)
      refine wp_ret ?_
      refine (show bodyPost Try.prog Try.f16 _ .ret _ _ from retCT (v := (.agg #[(.int .i64 (0)), (.slice none 0 0)])) rfl zz25 e2 own_b2_2 agg27 sz27 rfl (fun h => by cases h) rfl e3 ⟨_, rfl, kw, ?_⟩)
      refine ⟨yy, hyy, _, by rw [hoe], ?_⟩
      rw [hov]
      exact sf_fr (rdAu_mk (rd_nil _) : Rd W24 (SF w [b5_15, bo12_11, b2_2, b1_2]) (Au.d (Au.mk (0) ([]))) _)
     ·
      exact absurd (bne_eq_false_iff_eq.1 hc) hE
end Go.Proofs.Ytnobijngkpflcaa
