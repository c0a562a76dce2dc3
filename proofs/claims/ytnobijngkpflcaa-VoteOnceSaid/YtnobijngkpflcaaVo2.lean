/-
  The law VoteOnce of package legatelaw30 returns true for every input, and leaves its arguments as they were. No condition beyond the row's own.
-/
import Derived.Test.YtnobijngkpflcaaVo1
import Derived.Sort.Walk0
import Derived.MapKept
import Derived.Shelf.SlSortCmp.InsertionK
import Derived.Lib.Bytealg
namespace Go.Proofs.Ytnobijngkpflcaa
open Go.Eng
set_option maxRecDepth 100000 in
theorem equal_ok (ns ms : List ByteArray) (w : World) (S : BSet) (v u : Value) (hv : Rd w S (strsD ns) v) (hu : Rd w S (strsD ms) u) : Calls Try.prog 127 #[v, u] w (Ret w fun u _ => u = .bool (decide (ns = ms))) := by
  have hl1 := rd_lenS hv
  have hl2 := rd_lenS hu
  simp only [maxLen] at hl1 hl2
  obtain ⟨va, vc, ev, D_v⟩ := rdS_out (rd_arg hv)
  subst ev
  obtain ⟨ua, uc, ev, D_u⟩ := rdS_out (rd_arg hu)
  subst ev
  refine enter Try.func127 rfl Try.ntmps127 (lbr rfl) fun a0 y0 zz0 harg => ?_
  have e0 : sl a0 0 = (.slice va (ns.length) vc) := harg 0 (lbr rfl)
  have e1 : sl a0 1 = (.slice ua (ms.length) uc) := harg 1 (lbr rfl)
  have kw := Keeps.refl All w
  clear harg
  refine wp_seq_k fun K1 hK1 => ?_
  refine rg mixed y0 zz0 ?_
  refine .i (sp_assign Has.cst) ?_
  refine .done ⟨by kernel_rfl, fun a2 g W2 y2 zz2 hk hg hV hR hP => ?_⟩
  obtain ⟨-, -⟩ := hV
  replace e0 := (hR 0 rfl).trans e0
  replace e1 := (hR 1 rfl).trans e1
  replace D_v := D_v.ext hk
  replace D_u := D_u.ext hk
  replace kw := kw.x hk
  clear hR hk hg hP
  refine tail_nil (hK1 _ _ ?_)
  refine wp_seq_k fun K3 hK3 => ?_
  refine wp_seq_k fun K4 hK4 => ?_
  refine rg mixed y2 zz2 ?_
  refine .i (sp_move (hbs rfl e0)) ?_
  refine .i (sp_lenSs Try.underlying23 ((hlc rfl).dat D_v sub_all)) ?_
  refine .i (sp_move (hbs rfl e1)) ?_
  refine .i (sp_lenSs Try.underlying23 ((hlc rfl).dat D_u sub_all)) ?_
  refine .i (sp_neq (hlc rfl) (hlc rfl)) ?_
  refine .done ⟨by kernel_rfl, fun a5 g W5 y5 zz5 hk hg hV hR hP => ?_⟩
  obtain ⟨e10, -, -, -, -, -⟩ := hV
  replace e0 := (hR 0 rfl).trans e0
  replace e1 := (hR 1 rfl).trans e1
  replace D_v := D_v.ext hk
  replace D_u := D_u.ext hk
  replace e10 := e10.q
  replace kw := kw.x hk
  clear hR hk hg hP
  refine tail_nil (hK4 _ _ ?_)
  refine wp_cond_split e10 (fun hc => ?_) (fun hc => ?_)
  ·
   have hfin : decide (ns = ms) = false := decide_eq_false fun h => by subst h; simp at hc
   refine wp_seq_k fun K6 hK6 => ?_
   refine rg mixed y5 zz5 ?_
   refine .i (sp_assign Has.cst) ?_
   refine .done ⟨by kernel_rfl, fun a7 g W7 y7 zz7 hk hg hV hR hP => ?_⟩
   obtain ⟨e4, -⟩ := hV
   replace D_v := D_v.ext hk
   replace D_u := D_u.ext hk
   have e4 : sl a7 4 = (.bool (false)) := e4
   replace kw := kw.x hk
   clear hR hk hg hP
   refine tail_nil (hK6 _ _ ?_)
   refine wp_ret ?_
   refine (show bodyPost Try.prog Try.f127 _ .ret _ _ from ret1 rfl zz7 e4 ⟨_, rfl, kw, ?_⟩)
   rw [hfin]
  ·
   have hll : ns.length = ms.length := by simp at hc; omega
   refine wp_skip (hK3 _ _ ?_)
   refine wp_seq_k fun K8 hK8 => ?_
   refine wp_seq_k fun K9 hK9 => ?_
   refine rg mixed y5 zz5 ?_
   refine .i (sp_move (hbs rfl e0)) ?_
   refine .i (sp_lenSs Try.underlying23 ((hlc rfl).dat D_v sub_all)) ?_
   refine .i (sp_move Has.cst) ?_
   refine .done ⟨by kernel_rfl, fun a10 g W10 y10 zz10 hk hg hV hR hP => ?_⟩
   obtain ⟨e13, e12, -, -⟩ := hV
   replace e0 := (hR 0 rfl).trans e0
   replace e1 := (hR 1 rfl).trans e1
   replace D_v := D_v.ext hk
   replace D_u := D_u.ext hk
   have e12 : sl a10 12 = (.int .i64 (ns.length)) := e12
   have e13 : sl a10 13 = (.int .i64 (0)) := e13
   replace kw := kw.x hk
   clear hR hk hg hP
   refine tail_nil (hK9 _ _ ?_)
   refine wp_block ?_
   refine wp_for (ns.length) (fun k a W => a.tmps.size = 26 ∧ a.defers = [] ∧ Keeps All w W ∧ sl a 0 = (.slice va (ns.length) vc) ∧ sl a 1 = (.slice ua (ms.length) uc) ∧ sl a 12 = (.int .i64 (ns.length)) ∧ sl a 13 = (.int .i64 ((k : Nat))) ∧ Rd W (SA w S []) (strsD (ns)) (.slice va (ns.length) vc) ∧ Rd W (SA w S []) (strsD (ms)) (.slice ua (ms.length) uc) ∧ (∀ i (h1 : i < ns.length) (h2 : i < ms.length), i < k → ns[i] = ms[i])) ⟨y10, zz10, kw, e0, e1, e12, (e13.trans (congrArg (Value.int .i64) (rfl))), D_v, D_u, fun i h1 h2 hi => absurd hi (by omega)⟩ ?_
   clear kw e0 e1 e12 e13 D_v D_u
   rintro k a11 W11 hkk ⟨y11, zz11, kw, e0, e1, e12, e13, D_v, D_u, hinv⟩
   refine wp_seq_k fun K12 hK12 => ?_
   refine rg mixed y11 zz11 ?_
   refine .i (sp_lss (hbs rfl e13) (hbs rfl e12)) ?_
   refine .done ⟨by kernel_rfl, fun a13 g W13 y13 zz13 hk hg hV hR hP => ?_⟩
   obtain ⟨e14, -⟩ := hV
   replace e0 := (hR 0 rfl).trans e0
   replace e1 := (hR 1 rfl).trans e1
   replace e12 := (hR 12 rfl).trans e12
   replace e13 := (hR 13 rfl).trans e13
   replace D_v := D_v.ext hk
   replace D_u := D_u.ext hk
   replace e14 := e14.q
   replace kw := kw.x hk
   clear hR hk hg hP
   refine tail_nil (hK12 _ _ ?_)
   refine wp_seq_k fun K14 hK14 => ?_
   refine wp_cond_split e14 (fun hc => ?_) (fun hc => ?_)
   ·
    have hlt : k < ns.length := by simpa using hc
    refine wp_skip (hK14 _ _ ?_)
    refine wp_seq_k fun K15 hK15 => ?_
    refine wp_block ?_
    refine wp_seq_k fun K16 hK16 => ?_
    refine rg mixed y13 zz13 ?_
    refine .i (sp_move (hbs rfl e13)) ?_
    refine .i (sp_assign (hlc rfl)) ?_
    refine .done ⟨by kernel_rfl, fun a17 g W17 y17 zz17 hk hg hV hR hP => ?_⟩
    obtain ⟨e5, -, -⟩ := hV
    replace e0 := (hR 0 rfl).trans e0
    replace e1 := (hR 1 rfl).trans e1
    replace e12 := (hR 12 rfl).trans e12
    replace e13 := (hR 13 rfl).trans e13
    replace D_v := D_v.ext hk
    replace D_u := D_u.ext hk
    have e5 : sl a17 5 = (.int .i64 ((k : Nat))) := e5
    replace kw := kw.x hk
    clear hR hk hg hP
    refine tail_nil (hK16 _ _ ?_)
    refine wp_seq_k fun K18 hK18 => ?_
    refine rg mixed y17 zz17 ?_
    refine .i (sp_move (hbs rfl e0)) ?_
    refine .i (sp_move (hbs rfl e5)) ?_
    refine .rf (sp_indexS (i := k) ((hlc rfl).dat D_v sub_all) (hlc rfl) Try.underlying23 sz9 rfl hlt) ?_
    refine .i (sp_loadStr (hlc rfl) agg9 sz9) ?_
    refine .i (sp_move (hbs rfl e1)) ?_
    refine .i (sp_move (hbs rfl e5)) ?_
    refine .rf (sp_indexS (i := k) ((hlc rfl).dat D_u sub_all) (hlc rfl) Try.underlying23 sz9 rfl (by omega)) ?_
    refine .i (sp_loadStr (hlc rfl) agg9 sz9) ?_
    refine .i (sp_sNeq (hlc rfl) (hlc rfl)) ?_
    refine .done ⟨by kernel_rfl, fun a19 g W19 y19 zz19 hk hg hV hR hP => ?_⟩
    obtain ⟨e24, -, -, -, -, -, -, -, -, -⟩ := hV
    replace e0 := (hR 0 rfl).trans e0
    replace e1 := (hR 1 rfl).trans e1
    replace e12 := (hR 12 rfl).trans e12
    replace e13 := (hR 13 rfl).trans e13
    replace D_v := D_v.ext hk
    replace D_u := D_u.ext hk
    replace e24 := e24.q
    replace kw := kw.x hk
    clear hR hk hg hP
    refine tail_nil (hK18 _ _ ?_)
    refine wp_cond_split e24 (fun hc => ?_) (fun hc => ?_)
    ·
     have hfin : decide (ns = ms) = false := decide_eq_false fun h => by subst h; simp at hc
     refine wp_seq_k fun K20 hK20 => ?_
     refine rg mixed y19 zz19 ?_
     refine .i (sp_assign Has.cst) ?_
     refine .done ⟨by kernel_rfl, fun a21 g W21 y21 zz21 hk hg hV hR hP => ?_⟩
     obtain ⟨e4, -⟩ := hV
     replace D_v := D_v.ext hk
     replace D_u := D_u.ext hk
     have e4 : sl a21 4 = (.bool (false)) := e4
     replace kw := kw.x hk
     clear hR hk hg hP
     refine tail_nil (hK20 _ _ ?_)
     refine wp_ret ?_
     refine (show bodyPost Try.prog Try.f127 _ .ret _ _ from ret1 rfl zz21 e4 ⟨_, rfl, kw, ?_⟩)
     rw [hfin]
    ·
     have hk1 : ns[k] = ms[k] := by simpa using hc
     refine wp_skip (hK15 _ _ ?_)
     refine rg mixed y19 zz19 ?_
     refine .i (sp_add (hbs rfl e13) Has.cst (i64_in (by omega))) ?_
     refine .i (sp_move (hlc rfl)) ?_
     refine .done ⟨by kernel_rfl, fun a22 g W22 y22 zz22 hk hg hV hR hP => ?_⟩
     obtain ⟨e13, -, -⟩ := hV
     replace e0 := (hR 0 rfl).trans e0
     replace e1 := (hR 1 rfl).trans e1
     replace e12 := (hR 12 rfl).trans e12
     replace D_v := D_v.ext hk
     replace D_u := D_u.ext hk
     replace e13 := e13.q
     replace kw := kw.x hk
     clear hR hk hg hP
     exact tail_nil ⟨hlt, y22, zz22, kw, e0, e1, e12, (e13.trans (congrArg (Value.int .i64) (by simp))), D_v, D_u, fun i h1 h2 hi => by rcases Nat.lt_succ_iff_lt_or_eq.1 hi with h | h; exact hinv i h1 h2 h; subst h; exact hk1⟩
   ·
    have hge0 : ¬ k < ns.length := by simpa using hc
    have hge : k = ns.length := by omega
    have hfin : decide (ns = ms) = true := decide_eq_true (List.ext_getElem hll fun i h1 h2 => hinv i h1 h2 (by omega))
    refine wp_exit (hK8 _ _ ?_)
    refine wp_seq_k fun K23 hK23 => ?_
    refine rg mixed y13 zz13 ?_
    refine .i (sp_assign Has.cst) ?_
    refine .done ⟨by kernel_rfl, fun a24 g W24 y24 zz24 hk hg hV hR hP => ?_⟩
    obtain ⟨e4, -⟩ := hV
    replace D_v := D_v.ext hk
    replace D_u := D_u.ext hk
    have e4 : sl a24 4 = (.bool (true)) := e4
    replace kw := kw.x hk
    clear hR hk hg hP
    refine tail_nil (hK23 _ _ ?_)
    refine wp_ret ?_
    refine (show bodyPost Try.prog Try.f127 _ .ret _ _ from ret1 rfl zz24 e4 ⟨_, rfl, kw, ?_⟩)
    rw [hfin]
set_option maxRecDepth 100000 in
theorem endless_all : ∀ (n : Nat) (xs : List V), V.cnts xs < n → ∀ (level : Int), 0 ≤ level → level + n ≤ 4294967296 → ∀ (nested : Bool) (p : Value) (w : World) (S : BSet) (v : Value), (∀ b o, S b o → Cln o) → Rd w S (valsD xs) v → Above w S xs p →
    Calls Try.prog 137 #[v, .int .i64 level, p, .bool nested] w (Ret w fun u _ => u = .bool false) := by
  intro n
  induction n with
  | zero => intro xs hx; omega
  | succ n ih =>
  intro xs hx level hl0 hl nested p w S v hS hv hab
  have hmx : xs.length ≤ maxLen := rd_len hv
  simp only [maxLen] at hmx
  rcases hab with rfl | ⟨y, hy, hcy⟩
  · skip
    obtain ⟨va, vc, ev, D_v⟩ := rdVs_out (rd_arg hv)
    subst ev
    refine enter Try.func137 rfl Try.ntmps137 (lbr rfl) fun a0 y0 zz0 harg => ?_
    have e0 : sl a0 0 = (.slice va (xs.length) vc) := harg 0 (lbr rfl)
    have e1 : sl a0 1 = (.int .i64 (level)) := harg 1 (lbr rfl)
    have e2 : sl a0 2 = (.pointer none) := harg 2 (lbr rfl)
    have e3 : sl a0 3 = (.bool (nested)) := harg 3 (lbr rfl)
    have kw := Keeps.refl All w
    clear harg
    refine wp_seq_k fun K1 hK1 => ?_
    refine rg mixed y0 zz0 ?_
    refine .i (sp_assign Has.cst) ?_
    refine .done ⟨by kernel_rfl, fun a2 g W2 y2 zz2 hk hg hV hR hP => ?_⟩
    obtain ⟨-, -⟩ := hV
    replace e0 := (hR 0 rfl).trans e0
    replace e1 := (hR 1 rfl).trans e1
    replace e2 := (hR 2 rfl).trans e2
    replace e3 := (hR 3 rfl).trans e3
    replace D_v := D_v.ext hk
    replace kw := kw.x hk
    clear hR hk hg hP
    refine tail_nil (hK1 _ _ ?_)
    refine wp_seq_k fun K3 hK3 => ?_
    refine wp_seq_k fun K4 hK4 => ?_
    refine rg mixed y2 zz2 ?_
    refine .i (sp_move (hbs rfl e0)) ?_
    refine .i (sp_lenVs Try.underlying31 ((hlc rfl).dat D_v sub_all)) ?_
    refine .i (sp_move Has.cst) ?_
    refine .done ⟨by kernel_rfl, fun a5 g W5 y5 zz5 hk hg hV hR hP => ?_⟩
    obtain ⟨e14, e13, -, -⟩ := hV
    replace e0 := (hR 0 rfl).trans e0
    replace e1 := (hR 1 rfl).trans e1
    replace e2 := (hR 2 rfl).trans e2
    replace e3 := (hR 3 rfl).trans e3
    replace D_v := D_v.ext hk
    have e13 : sl a5 13 = (.int .i64 (xs.length)) := e13
    have e14 : sl a5 14 = (.int .i64 (0)) := e14
    replace kw := kw.x hk
    clear hR hk hg hP
    refine tail_nil (hK4 _ _ ?_)
    refine wp_block ?_
    refine wp_for (xs.length) (fun k a W => a.tmps.size = 55 ∧ a.defers = [] ∧ Keeps All w W ∧ sl a 0 = (.slice va (xs.length) vc) ∧ sl a 1 = (.int .i64 (level)) ∧ sl a 2 = (.pointer none) ∧ sl a 3 = (.bool (nested)) ∧ sl a 13 = (.int .i64 (xs.length)) ∧ sl a 14 = (.int .i64 ((k : Nat))) ∧ Rd W (SA w S []) (valsD (xs)) (.slice va (xs.length) vc)) ⟨y5, zz5, kw, e0, e1, e2, e3, e13, (e14.trans (congrArg (Value.int .i64) (rfl))), D_v⟩ ?_
    clear kw e0 e1 e2 e3 e13 e14 D_v
    rintro k a6 W6 hkk ⟨y6, zz6, kw, e0, e1, e2, e3, e13, e14, D_v⟩
    refine wp_seq_k fun K7 hK7 => ?_
    refine rg mixed y6 zz6 ?_
    refine .i (sp_lss (hbs rfl e14) (hbs rfl e13)) ?_
    refine .done ⟨by kernel_rfl, fun a8 g W8 y8 zz8 hk hg hV hR hP => ?_⟩
    obtain ⟨e15, -⟩ := hV
    replace e0 := (hR 0 rfl).trans e0
    replace e1 := (hR 1 rfl).trans e1
    replace e2 := (hR 2 rfl).trans e2
    replace e3 := (hR 3 rfl).trans e3
    replace e13 := (hR 13 rfl).trans e13
    replace e14 := (hR 14 rfl).trans e14
    replace D_v := D_v.ext hk
    replace e15 := e15.q
    replace kw := kw.x hk
    clear hR hk hg hP
    refine tail_nil (hK7 _ _ ?_)
    refine wp_seq_k fun K9 hK9 => ?_
    refine wp_cond_split e15 (fun hc => ?_) (fun hc => ?_)
    ·
     have hlt : k < xs.length := by simpa using hc
     have hce := cnt_elem hlt
     have hcq := cnt_eq xs[k]
     refine wp_skip (hK9 _ _ ?_)
     refine wp_seq_k fun K10 hK10 => ?_
     refine wp_block ?_
     refine wp_seq_k fun K11 hK11 => ?_
     refine rg mixed y8 zz8 ?_
     refine .i (sp_move (hbs rfl e14)) ?_
     refine .i (sp_assign (hlc rfl)) ?_
     refine .done ⟨by kernel_rfl, fun a12 g W12 y12 zz12 hk hg hV hR hP => ?_⟩
     obtain ⟨e9, -, -⟩ := hV
     replace e0 := (hR 0 rfl).trans e0
     replace e1 := (hR 1 rfl).trans e1
     replace e2 := (hR 2 rfl).trans e2
     replace e3 := (hR 3 rfl).trans e3
     replace e13 := (hR 13 rfl).trans e13
     replace e14 := (hR 14 rfl).trans e14
     replace D_v := D_v.ext hk
     have e9 : sl a12 9 = (.int .i64 ((k : Nat))) := e9
     replace kw := kw.x hk
     clear hR hk hg hP
     refine tail_nil (hK11 _ _ ?_)
     refine wp_seq_k fun K13 hK13 => ?_
     refine rg mixed y12 zz12 ?_
     refine .i (sp_move (hbs rfl e0)) ?_
     refine .i (sp_move (hbs rfl e9)) ?_
     refine .rf (sp_indexV (i := k) ((hlc rfl).dat D_v sub_all) (hlc rfl) Try.underlying31 sz33 rfl hlt) ?_
     refine .rf (X := SA w S []) (e := V.d (xs[k]'hlt)) (sp_assign (hlc rfl)) ?_
     refine .done ⟨by kernel_rfl, fun a14 g W14 y14 zz14 hk hg hV hR hP => ?_⟩
     obtain ⟨e10, -, -, -, -⟩ := hV
     replace e0 := (hR 0 rfl).trans e0
     replace e1 := (hR 1 rfl).trans e1
     replace e2 := (hR 2 rfl).trans e2
     replace e3 := (hR 3 rfl).trans e3
     replace e13 := (hR 13 rfl).trans e13
     replace e14 := (hR 14 rfl).trans e14
     replace D_v := D_v.ext hk
     obtain ⟨v10_14, ev⟩ : ∃ v, sl a14 10 = v := ⟨_, rfl⟩
     rw [ev] at e10
     have D_v10_14 : Ref W14 (SA w S []) (V.d (xs[k]'hlt)) v10_14 := rsa_end e10 hk [] in_nil
     replace e10 := ev; clear ev
     replace kw := kw.x hk
     clear hR hk hg hP
     refine tail_nil (hK13 _ _ ?_)
     refine wp_seq_k fun K15 hK15 => ?_
     refine wp_seq_k fun K16 hK16 => ?_
     refine rg mixed y14 zz14 ?_
     refine .i (sp_move (hbs rfl e3)) ?_
     refine .i (sp_move (hlc rfl)) ?_
     refine .e (t := 21) rfl (hlc rfl) (fun hg => sp_move (hbs rfl e10)) ?_
     refine .opE (t := 21) (φ := IsR (SA w S []) (V.d (xs[k]'hlt))) rfl (hlc rfl) (st_r sub_all) (fun hg => sp_nilR (((hlc rfl).undE hg).refd D_v10_14 sub_all)) ?_
     refine .opE (t := 21) (φ := IsR (SA w S []) (D.int .u8 ((xs[k]'hlt).k))) rfl (hlc rfl) (st_r sub_all) (fun hg => sp_fieldV ((hlc rfl).undE hg) Try.underlying33 rfl sz5 rfl rfl) ?_
     refine .e (t := 21) rfl (hlc rfl) (fun hg => sp_loadInt ((hlc rfl).undE hg) agg5 sz5) ?_
     refine .e (t := 21) rfl (hlc rfl) (fun hg => sp_neq ((hlc rfl).undE hg) Has.cst) ?_
     refine .i (sp_and (hlc rfl) ((hlc rfl).weak fun hq => hq)) ?_
     refine .i (sp_move (hlc rfl)) ?_
     refine .e (t := 28) rfl (hlc rfl) (fun hg => sp_move (hbs rfl e10)) ?_
     refine .opE (t := 28) (φ := IsR (SA w S []) (V.d (xs[k]'hlt))) rfl (hlc rfl) (st_r sub_all) (fun hg => sp_nilR (((hlc rfl).undE hg).refd D_v10_14 sub_all)) ?_
     refine .opE (t := 28) (φ := IsR (SA w S []) (D.int .u8 ((xs[k]'hlt).k))) rfl (hlc rfl) (st_r sub_all) (fun hg => sp_fieldV ((hlc rfl).undE hg) Try.underlying33 rfl sz5 rfl rfl) ?_
     refine .e (t := 28) rfl (hlc rfl) (fun hg => sp_loadInt ((hlc rfl).undE hg) agg5 sz5) ?_
     refine .e (t := 28) rfl (hlc rfl) (fun hg => sp_neq ((hlc rfl).undE hg) Has.cst) ?_
     refine .i (sp_and (hlc rfl) ((hlc rfl).weak fun hq => hq)) ?_
     refine .done ⟨by kernel_rfl, fun a17 g W17 y17 zz17 hk hg hV hR hP => ?_⟩
     obtain ⟨e34, -, -, -, -, -, -, -, -, -, -, -, -, -, -, -⟩ := hV
     replace e0 := (hR 0 rfl).trans e0
     replace e1 := (hR 1 rfl).trans e1
     replace e2 := (hR 2 rfl).trans e2
     replace e3 := (hR 3 rfl).trans e3
     replace e13 := (hR 13 rfl).trans e13
     replace e14 := (hR 14 rfl).trans e14
     replace e10 := (hR 10 rfl).trans e10
     replace D_v := D_v.ext hk
     replace D_v10_14 := D_v10_14.ext hk
     replace e34 := e34.q
     replace kw := kw.x hk
     clear hR hk hg hP
     refine tail_nil (hK16 _ _ ?_)
     refine wp_cond_split e34 (fun hc => ?_) (fun hc => ?_)
     ·
      refine wp_exit (hK10 _ _ ?_)
      refine rg mixed y17 zz17 ?_
      refine .i (sp_add (hbs rfl e14) Has.cst (i64_in (by omega))) ?_
      refine .i (sp_move (hlc rfl)) ?_
      refine .done ⟨by kernel_rfl, fun a18 g W18 y18 zz18 hk hg hV hR hP => ?_⟩
      obtain ⟨e14, -, -⟩ := hV
      replace e0 := (hR 0 rfl).trans e0
      replace e1 := (hR 1 rfl).trans e1
      replace e2 := (hR 2 rfl).trans e2
      replace e3 := (hR 3 rfl).trans e3
      replace e13 := (hR 13 rfl).trans e13
      replace D_v := D_v.ext hk
      replace D_v10_14 := D_v10_14.ext hk
      replace e14 := e14.q
      replace kw := kw.x hk
      clear hR hk hg hP
      exact tail_nil ⟨hlt, y18, zz18, kw, e0, e1, e2, e3, e13, (e14.trans (congrArg (Value.int .i64) (by simp))), D_v⟩
     ·
      refine wp_skip (hK15 _ _ ?_)
      refine wp_seq_k fun K19 hK19 => ?_
      refine wp_seq_k fun K20 hK20 => ?_
      refine rg mixed y17 zz17 ?_
      refine .i (sp_move (hbs rfl e10)) ?_
      refine .i (sp_move (hbs rfl e2)) ?_
      refine .i (v := (.bool (false))) (sp_refNil Try.underlying186 ((hlc rfl).refd D_v10_14 sub_all) (hlc rfl)) ?_
      refine .done ⟨by kernel_rfl, fun a21 g W21 y21 zz21 hk hg hV hR hP => ?_⟩
      obtain ⟨e37, -, -, -⟩ := hV
      replace e0 := (hR 0 rfl).trans e0
      replace e1 := (hR 1 rfl).trans e1
      replace e2 := (hR 2 rfl).trans e2
      replace e3 := (hR 3 rfl).trans e3
      replace e13 := (hR 13 rfl).trans e13
      replace e14 := (hR 14 rfl).trans e14
      replace e10 := (hR 10 rfl).trans e10
      replace D_v := D_v.ext hk
      replace D_v10_14 := D_v10_14.ext hk
      have e37 : sl a21 37 = (.bool (false)) := e37
      replace kw := kw.x hk
      clear hR hk hg hP
      refine tail_nil (hK20 _ _ ?_)
      refine wp_cond_false e37 ?_
      refine wp_skip (hK19 _ _ ?_)
      refine wp_seq_k fun K22 hK22 => ?_
      refine rg mixed y21 zz21 ?_
      refine .i (sp_move (hbs rfl e2)) ?_
      refine .i (sp_assign (hlc rfl)) ?_
      refine .done ⟨by kernel_rfl, fun a23 g W23 y23 zz23 hk hg hV hR hP => ?_⟩
      obtain ⟨e11, -, -⟩ := hV
      replace e0 := (hR 0 rfl).trans e0
      replace e1 := (hR 1 rfl).trans e1
      replace e2 := (hR 2 rfl).trans e2
      replace e3 := (hR 3 rfl).trans e3
      replace e13 := (hR 13 rfl).trans e13
      replace e14 := (hR 14 rfl).trans e14
      replace e10 := (hR 10 rfl).trans e10
      replace D_v := D_v.ext hk
      replace D_v10_14 := D_v10_14.ext hk
      have e11 : sl a23 11 = (.pointer none) := e11
      replace kw := kw.x hk
      clear hR hk hg hP
      refine tail_nil (hK22 _ _ ?_)
      refine wp_seq_k fun K24 hK24 => ?_
      refine wp_seq_k fun K25 hK25 => ?_
      refine rg mixed y23 zz23 ?_
      refine .i (sp_move (hbs rfl e1)) ?_
      refine .i (sp_move (hbs rfl e1)) ?_
      refine .i (sp_sub (hlc rfl) Has.cst (i64_in (by omega))) ?_
      refine .i (sp_band (hlc rfl) (hlc rfl)) ?_
      refine .i (sp_eql (hlc rfl) Has.cst) ?_
      refine .done ⟨by kernel_rfl, fun a26 g W26 y26 zz26 hk hg hV hR hP => ?_⟩
      obtain ⟨e43, -, -, -, -, -⟩ := hV
      replace e0 := (hR 0 rfl).trans e0
      replace e1 := (hR 1 rfl).trans e1
      replace e2 := (hR 2 rfl).trans e2
      replace e3 := (hR 3 rfl).trans e3
      replace e13 := (hR 13 rfl).trans e13
      replace e14 := (hR 14 rfl).trans e14
      replace e10 := (hR 10 rfl).trans e10
      replace e11 := (hR 11 rfl).trans e11
      replace D_v := D_v.ext hk
      replace D_v10_14 := D_v10_14.ext hk
      replace e43 := e43.q
      replace kw := kw.x hk
      clear hR hk hg hP
      refine tail_nil (hK25 _ _ ?_)
      refine wp_cond_split e43 (fun hc => ?_) (fun hc => ?_)
      ·
       refine rg mixed y26 zz26 ?_
       refine .i (sp_move (hbs rfl e10)) ?_
       refine .i (sp_assign (hlc rfl)) ?_
       refine .done ⟨by kernel_rfl, fun a27 g W27 y27 zz27 hk hg hV hR hP => ?_⟩
       obtain ⟨e11, -, -⟩ := hV
       replace e0 := (hR 0 rfl).trans e0
       replace e1 := (hR 1 rfl).trans e1
       replace e2 := (hR 2 rfl).trans e2
       replace e3 := (hR 3 rfl).trans e3
       replace e13 := (hR 13 rfl).trans e13
       replace e14 := (hR 14 rfl).trans e14
       replace e10 := (hR 10 rfl).trans e10
       replace D_v := D_v.ext hk
       replace D_v10_14 := D_v10_14.ext hk
       have e11 : sl a27 11 = v10_14 := e11
       replace kw := kw.x hk
       clear hR hk hg hP
       refine tail_nil (hK24 _ _ ?_)
       refine wp_seq_k fun K28 hK28 => ?_
       refine rg mixed y27 zz27 ?_
       refine .i (sp_move (hbs rfl e10)) ?_
       refine .rf (sp_nilR ((hlc rfl).refd D_v10_14 sub_all)) ?_
       refine .rf (X := SA w S []) (e := valsD ((xs[k]'hlt).xs)) (sp_fieldV (hlc rfl) Try.underlying33 rfl sz31 rfl rfl) ?_
       refine .da (X := SA w S []) (e := valsD ((xs[k]'hlt).xs)) (sp_loadR (hlc rfl) agg31 sz31 rfl) ?_
       refine .i (sp_move (hbs rfl e1)) ?_
       refine .i (sp_add (hlc rfl) Has.cst (i64_in (by omega))) ?_
       refine .i (sp_move (hbs rfl e11)) ?_
       refine .i (sp_move (hbs rfl e3)) ?_
       refine .i (v := (.bool (false))) (sp_call4 (φ1 := IsD (SA w S []) (valsD ((xs[k]'hlt).xs))) (φ2 := Is (.int .i64 ((level : Int) + (1 : Int)))) (φ3 := IsR (SA w S []) (V.d (xs[k]'hlt))) (φ4 := Is (.bool (nested))) ent137 (hlc rfl) (hlc rfl) ((hlc rfl).refd D_v10_14 sub_all) (hlc rfl) (fun g u1 u2 u3 u4 W hk hgk h1 h2 h3 h4 => by have h2 : u2 = _ := h2; subst u2; have h4 : u4 = _ := h4; subst u4; exact ih ((xs[k]'hlt).xs) (by omega) ((level : Int) + (1 : Int)) (by omega) (by omega) (nested) _ W _ _ (fun b o h => sa_cln hS b o h.1) h1 (Or.inr ⟨_, h3, by omega⟩))) ?_
       refine .done ⟨by kernel_rfl, fun a29 g W29 y29 zz29 hk hg hV hR hP => ?_⟩
       obtain ⟨e53, -, -, -, -, -, -, -, -, -⟩ := hV
       replace e0 := (hR 0 rfl).trans e0
       replace e1 := (hR 1 rfl).trans e1
       replace e2 := (hR 2 rfl).trans e2
       replace e3 := (hR 3 rfl).trans e3
       replace e13 := (hR 13 rfl).trans e13
       replace e14 := (hR 14 rfl).trans e14
       replace D_v := D_v.ext hk
       replace D_v10_14 := D_v10_14.ext hk
       have e53 : sl a29 53 = (.bool (false)) := e53
       replace kw := kw.x hk
       clear hR hk hg hP
       refine tail_nil (hK28 _ _ ?_)
       refine wp_cond_false e53 ?_
       refine wp_skip (hK10 _ _ ?_)
       refine rg mixed y29 zz29 ?_
       refine .i (sp_add (hbs rfl e14) Has.cst (i64_in (by omega))) ?_
       refine .i (sp_move (hlc rfl)) ?_
       refine .done ⟨by kernel_rfl, fun a30 g W30 y30 zz30 hk hg hV hR hP => ?_⟩
       obtain ⟨e14, -, -⟩ := hV
       replace e0 := (hR 0 rfl).trans e0
       replace e1 := (hR 1 rfl).trans e1
       replace e2 := (hR 2 rfl).trans e2
       replace e3 := (hR 3 rfl).trans e3
       replace e13 := (hR 13 rfl).trans e13
       replace D_v := D_v.ext hk
       replace e14 := e14.q
       replace kw := kw.x hk
       clear hR hk hg hP
       exact tail_nil ⟨hlt, y30, zz30, kw, e0, e1, e2, e3, e13, (e14.trans (congrArg (Value.int .i64) (by simp))), D_v⟩
      ·
       refine wp_skip (hK24 _ _ ?_)
       refine wp_seq_k fun K31 hK31 => ?_
       refine rg mixed y26 zz26 ?_
       refine .i (sp_move (hbs rfl e10)) ?_
       refine .rf (sp_nilR ((hlc rfl).refd D_v10_14 sub_all)) ?_
       refine .rf (X := SA w S []) (e := valsD ((xs[k]'hlt).xs)) (sp_fieldV (hlc rfl) Try.underlying33 rfl sz31 rfl rfl) ?_
       refine .da (X := SA w S []) (e := valsD ((xs[k]'hlt).xs)) (sp_loadR (hlc rfl) agg31 sz31 rfl) ?_
       refine .i (sp_move (hbs rfl e1)) ?_
       refine .i (sp_add (hlc rfl) Has.cst (i64_in (by omega))) ?_
       refine .i (sp_move (hbs rfl e11)) ?_
       refine .i (sp_move (hbs rfl e3)) ?_
       refine .i (v := (.bool (false))) (sp_call4 (φ1 := IsD (SA w S []) (valsD ((xs[k]'hlt).xs))) (φ2 := Is (.int .i64 ((level : Int) + (1 : Int)))) (φ3 := Is (.pointer none)) (φ4 := Is (.bool (nested))) ent137 (hlc rfl) (hlc rfl) (hlc rfl) (hlc rfl) (fun g u1 u2 u3 u4 W hk hgk h1 h2 h3 h4 => by have h2 : u2 = _ := h2; subst u2; have h3 : u3 = _ := h3; subst u3; have h4 : u4 = _ := h4; subst u4; exact ih ((xs[k]'hlt).xs) (by omega) ((level : Int) + (1 : Int)) (by omega) (by omega) (nested) _ W _ _ (fun b o h => sa_cln hS b o h.1) h1 (Or.inl rfl))) ?_
       refine .done ⟨by kernel_rfl, fun a32 g W32 y32 zz32 hk hg hV hR hP => ?_⟩
       obtain ⟨e53, -, -, -, -, -, -, -, -, -⟩ := hV
       replace e0 := (hR 0 rfl).trans e0
       replace e1 := (hR 1 rfl).trans e1
       replace e2 := (hR 2 rfl).trans e2
       replace e3 := (hR 3 rfl).trans e3
       replace e13 := (hR 13 rfl).trans e13
       replace e14 := (hR 14 rfl).trans e14
       replace D_v := D_v.ext hk
       replace D_v10_14 := D_v10_14.ext hk
       have e53 : sl a32 53 = (.bool (false)) := e53
       replace kw := kw.x hk
       clear hR hk hg hP
       refine tail_nil (hK31 _ _ ?_)
       refine wp_cond_false e53 ?_
       refine wp_skip (hK10 _ _ ?_)
       refine rg mixed y32 zz32 ?_
       refine .i (sp_add (hbs rfl e14) Has.cst (i64_in (by omega))) ?_
       refine .i (sp_move (hlc rfl)) ?_
       refine .done ⟨by kernel_rfl, fun a33 g W33 y33 zz33 hk hg hV hR hP => ?_⟩
       obtain ⟨e14, -, -⟩ := hV
       replace e0 := (hR 0 rfl).trans e0
       replace e1 := (hR 1 rfl).trans e1
       replace e2 := (hR 2 rfl).trans e2
       replace e3 := (hR 3 rfl).trans e3
       replace e13 := (hR 13 rfl).trans e13
       replace D_v := D_v.ext hk
       replace e14 := e14.q
       replace kw := kw.x hk
       clear hR hk hg hP
       exact tail_nil ⟨hlt, y33, zz33, kw, e0, e1, e2, e3, e13, (e14.trans (congrArg (Value.int .i64) (by simp))), D_v⟩
    ·
     have hge0 : ¬ k < xs.length := by simpa using hc
     have hge : k = xs.length := by omega
     refine wp_exit (hK3 _ _ ?_)
     refine wp_seq_k fun K34 hK34 => ?_
     refine rg mixed y8 zz8 ?_
     refine .i (sp_assign Has.cst) ?_
     refine .done ⟨by kernel_rfl, fun a35 g W35 y35 zz35 hk hg hV hR hP => ?_⟩
     obtain ⟨e8, -⟩ := hV
     replace D_v := D_v.ext hk
     have e8 : sl a35 8 = (.bool (false)) := e8
     replace kw := kw.x hk
     clear hR hk hg hP
     refine tail_nil (hK34 _ _ ?_)
     refine wp_ret ?_
     refine (show bodyPost Try.prog Try.f137 _ .ret _ _ from ret1 rfl zz35 e8 ⟨_, rfl, kw, ?_⟩)
     exact rfl
  · skip
    obtain ⟨va, vc, ev, D_v⟩ := rdVs_out (rd_arg hv)
    subst ev
    have D_p := ref_arg hy
    refine enter Try.func137 rfl Try.ntmps137 (lbr rfl) fun a0 y0 zz0 harg => ?_
    have e0 : sl a0 0 = (.slice va (xs.length) vc) := harg 0 (lbr rfl)
    have e1 : sl a0 1 = (.int .i64 (level)) := harg 1 (lbr rfl)
    have e2 : sl a0 2 = p := harg 2 (lbr rfl)
    have e3 : sl a0 3 = (.bool (nested)) := harg 3 (lbr rfl)
    have kw := Keeps.refl All w
    clear harg
    refine wp_seq_k fun K1 hK1 => ?_
    refine rg mixed y0 zz0 ?_
    refine .i (sp_assign Has.cst) ?_
    refine .done ⟨by kernel_rfl, fun a2 g W2 y2 zz2 hk hg hV hR hP => ?_⟩
    obtain ⟨-, -⟩ := hV
    replace e0 := (hR 0 rfl).trans e0
    replace e1 := (hR 1 rfl).trans e1
    replace e2 := (hR 2 rfl).trans e2
    replace e3 := (hR 3 rfl).trans e3
    replace D_v := D_v.ext hk
    replace D_p := D_p.ext hk
    replace kw := kw.x hk
    clear hR hk hg hP
    refine tail_nil (hK1 _ _ ?_)
    refine wp_seq_k fun K3 hK3 => ?_
    refine wp_seq_k fun K4 hK4 => ?_
    refine rg mixed y2 zz2 ?_
    refine .i (sp_move (hbs rfl e0)) ?_
    refine .i (sp_lenVs Try.underlying31 ((hlc rfl).dat D_v sub_all)) ?_
    refine .i (sp_move Has.cst) ?_
    refine .done ⟨by kernel_rfl, fun a5 g W5 y5 zz5 hk hg hV hR hP => ?_⟩
    obtain ⟨e14, e13, -, -⟩ := hV
    replace e0 := (hR 0 rfl).trans e0
    replace e1 := (hR 1 rfl).trans e1
    replace e2 := (hR 2 rfl).trans e2
    replace e3 := (hR 3 rfl).trans e3
    replace D_v := D_v.ext hk
    replace D_p := D_p.ext hk
    have e13 : sl a5 13 = (.int .i64 (xs.length)) := e13
    have e14 : sl a5 14 = (.int .i64 (0)) := e14
    replace kw := kw.x hk
    clear hR hk hg hP
    refine tail_nil (hK4 _ _ ?_)
    refine wp_block ?_
    refine wp_for (xs.length) (fun k a W => a.tmps.size = 55 ∧ a.defers = [] ∧ Keeps All w W ∧ sl a 0 = (.slice va (xs.length) vc) ∧ sl a 1 = (.int .i64 (level)) ∧ sl a 2 = p ∧ sl a 3 = (.bool (nested)) ∧ sl a 13 = (.int .i64 (xs.length)) ∧ sl a 14 = (.int .i64 ((k : Nat))) ∧ Rd W (SA w S []) (valsD (xs)) (.slice va (xs.length) vc) ∧ Ref W (SA w S []) (V.d (y)) p) ⟨y5, zz5, kw, e0, e1, e2, e3, e13, (e14.trans (congrArg (Value.int .i64) (rfl))), D_v, D_p⟩ ?_
    clear kw e0 e1 e2 e3 e13 e14 D_v D_p
    rintro k a6 W6 hkk ⟨y6, zz6, kw, e0, e1, e2, e3, e13, e14, D_v, D_p⟩
    refine wp_seq_k fun K7 hK7 => ?_
    refine rg mixed y6 zz6 ?_
    refine .i (sp_lss (hbs rfl e14) (hbs rfl e13)) ?_
    refine .done ⟨by kernel_rfl, fun a8 g W8 y8 zz8 hk hg hV hR hP => ?_⟩
    obtain ⟨e15, -⟩ := hV
    replace e0 := (hR 0 rfl).trans e0
    replace e1 := (hR 1 rfl).trans e1
    replace e2 := (hR 2 rfl).trans e2
    replace e3 := (hR 3 rfl).trans e3
    replace e13 := (hR 13 rfl).trans e13
    replace e14 := (hR 14 rfl).trans e14
    replace D_v := D_v.ext hk
    replace D_p := D_p.ext hk
    replace e15 := e15.q
    replace kw := kw.x hk
    clear hR hk hg hP
    refine tail_nil (hK7 _ _ ?_)
    refine wp_seq_k fun K9 hK9 => ?_
    refine wp_cond_split e15 (fun hc => ?_) (fun hc => ?_)
    ·
     have hlt : k < xs.length := by simpa using hc
     have hce := cnt_elem hlt
     have hcq := cnt_eq xs[k]
     refine wp_skip (hK9 _ _ ?_)
     refine wp_seq_k fun K10 hK10 => ?_
     refine wp_block ?_
     refine wp_seq_k fun K11 hK11 => ?_
     refine rg mixed y8 zz8 ?_
     refine .i (sp_move (hbs rfl e14)) ?_
     refine .i (sp_assign (hlc rfl)) ?_
     refine .done ⟨by kernel_rfl, fun a12 g W12 y12 zz12 hk hg hV hR hP => ?_⟩
     obtain ⟨e9, -, -⟩ := hV
     replace e0 := (hR 0 rfl).trans e0
     replace e1 := (hR 1 rfl).trans e1
     replace e2 := (hR 2 rfl).trans e2
     replace e3 := (hR 3 rfl).trans e3
     replace e13 := (hR 13 rfl).trans e13
     replace e14 := (hR 14 rfl).trans e14
     replace D_v := D_v.ext hk
     replace D_p := D_p.ext hk
     have e9 : sl a12 9 = (.int .i64 ((k : Nat))) := e9
     replace kw := kw.x hk
     clear hR hk hg hP
     refine tail_nil (hK11 _ _ ?_)
     refine wp_seq_k fun K13 hK13 => ?_
     refine rg mixed y12 zz12 ?_
     refine .i (sp_move (hbs rfl e0)) ?_
     refine .i (sp_move (hbs rfl e9)) ?_
     refine .rf (sp_indexV (i := k) ((hlc rfl).dat D_v sub_all) (hlc rfl) Try.underlying31 sz33 rfl hlt) ?_
     refine .rf (X := SA w S []) (e := V.d (xs[k]'hlt)) (sp_assign (hlc rfl)) ?_
     refine .done ⟨by kernel_rfl, fun a14 g W14 y14 zz14 hk hg hV hR hP => ?_⟩
     obtain ⟨e10, -, -, -, -⟩ := hV
     replace e0 := (hR 0 rfl).trans e0
     replace e1 := (hR 1 rfl).trans e1
     replace e2 := (hR 2 rfl).trans e2
     replace e3 := (hR 3 rfl).trans e3
     replace e13 := (hR 13 rfl).trans e13
     replace e14 := (hR 14 rfl).trans e14
     replace D_v := D_v.ext hk
     replace D_p := D_p.ext hk
     obtain ⟨v10_14, ev⟩ : ∃ v, sl a14 10 = v := ⟨_, rfl⟩
     rw [ev] at e10
     have D_v10_14 : Ref W14 (SA w S []) (V.d (xs[k]'hlt)) v10_14 := rsa_end e10 hk [] in_nil
     replace e10 := ev; clear ev
     replace kw := kw.x hk
     clear hR hk hg hP
     refine tail_nil (hK13 _ _ ?_)
     refine wp_seq_k fun K15 hK15 => ?_
     refine wp_seq_k fun K16 hK16 => ?_
     refine rg mixed y14 zz14 ?_
     refine .i (sp_move (hbs rfl e3)) ?_
     refine .i (sp_move (hlc rfl)) ?_
     refine .e (t := 21) rfl (hlc rfl) (fun hg => sp_move (hbs rfl e10)) ?_
     refine .opE (t := 21) (φ := IsR (SA w S []) (V.d (xs[k]'hlt))) rfl (hlc rfl) (st_r sub_all) (fun hg => sp_nilR (((hlc rfl).undE hg).refd D_v10_14 sub_all)) ?_
     refine .opE (t := 21) (φ := IsR (SA w S []) (D.int .u8 ((xs[k]'hlt).k))) rfl (hlc rfl) (st_r sub_all) (fun hg => sp_fieldV ((hlc rfl).undE hg) Try.underlying33 rfl sz5 rfl rfl) ?_
     refine .e (t := 21) rfl (hlc rfl) (fun hg => sp_loadInt ((hlc rfl).undE hg) agg5 sz5) ?_
     refine .e (t := 21) rfl (hlc rfl) (fun hg => sp_neq ((hlc rfl).undE hg) Has.cst) ?_
     refine .i (sp_and (hlc rfl) ((hlc rfl).weak fun hq => hq)) ?_
     refine .i (sp_move (hlc rfl)) ?_
     refine .e (t := 28) rfl (hlc rfl) (fun hg => sp_move (hbs rfl e10)) ?_
     refine .opE (t := 28) (φ := IsR (SA w S []) (V.d (xs[k]'hlt))) rfl (hlc rfl) (st_r sub_all) (fun hg => sp_nilR (((hlc rfl).undE hg).refd D_v10_14 sub_all)) ?_
     refine .opE (t := 28) (φ := IsR (SA w S []) (D.int .u8 ((xs[k]'hlt).k))) rfl (hlc rfl) (st_r sub_all) (fun hg => sp_fieldV ((hlc rfl).undE hg) Try.underlying33 rfl sz5 rfl rfl) ?_
     refine .e (t := 28) rfl (hlc rfl) (fun hg => sp_loadInt ((hlc rfl).undE hg) agg5 sz5) ?_
     refine .e (t := 28) rfl (hlc rfl) (fun hg => sp_neq ((hlc rfl).undE hg) Has.cst) ?_
     refine .i (sp_and (hlc rfl) ((hlc rfl).weak fun hq => hq)) ?_
     refine .done ⟨by kernel_rfl, fun a17 g W17 y17 zz17 hk hg hV hR hP => ?_⟩
     obtain ⟨e34, -, -, -, -, -, -, -, -, -, -, -, -, -, -, -⟩ := hV
     replace e0 := (hR 0 rfl).trans e0
     replace e1 := (hR 1 rfl).trans e1
     replace e2 := (hR 2 rfl).trans e2
     replace e3 := (hR 3 rfl).trans e3
     replace e13 := (hR 13 rfl).trans e13
     replace e14 := (hR 14 rfl).trans e14
     replace e10 := (hR 10 rfl).trans e10
     replace D_v := D_v.ext hk
     replace D_p := D_p.ext hk
     replace D_v10_14 := D_v10_14.ext hk
     replace e34 := e34.q
     replace kw := kw.x hk
     clear hR hk hg hP
     refine tail_nil (hK16 _ _ ?_)
     refine wp_cond_split e34 (fun hc => ?_) (fun hc => ?_)
     ·
      refine wp_exit (hK10 _ _ ?_)
      refine rg mixed y17 zz17 ?_
      refine .i (sp_add (hbs rfl e14) Has.cst (i64_in (by omega))) ?_
      refine .i (sp_move (hlc rfl)) ?_
      refine .done ⟨by kernel_rfl, fun a18 g W18 y18 zz18 hk hg hV hR hP => ?_⟩
      obtain ⟨e14, -, -⟩ := hV
      replace e0 := (hR 0 rfl).trans e0
      replace e1 := (hR 1 rfl).trans e1
      replace e2 := (hR 2 rfl).trans e2
      replace e3 := (hR 3 rfl).trans e3
      replace e13 := (hR 13 rfl).trans e13
      replace D_v := D_v.ext hk
      replace D_p := D_p.ext hk
      replace D_v10_14 := D_v10_14.ext hk
      replace e14 := e14.q
      replace kw := kw.x hk
      clear hR hk hg hP
      exact tail_nil ⟨hlt, y18, zz18, kw, e0, e1, e2, e3, e13, (e14.trans (congrArg (Value.int .i64) (by simp))), D_v, D_p⟩
     ·
      refine wp_skip (hK15 _ _ ?_)
      refine wp_seq_k fun K19 hK19 => ?_
      refine wp_seq_k fun K20 hK20 => ?_
      refine rg mixed y17 zz17 ?_
      refine .i (sp_move (hbs rfl e10)) ?_
      refine .i (sp_move (hbs rfl e2)) ?_
      refine .i (v := (.bool (false))) (sp_refEq Try.underlying186 sz33 ((hlc rfl).refd D_v10_14 sub_all) ((hlc rfl).refd D_p sub_all) (sa_cln hS) (sa_cln hS) (fun W X Y cs h1 h2 => by have := rdV_det _ _ cs h1 h2; have := congrArg V.cnt this; omega) (by rw [V.d_eq, V.d_eq]; rfl)) ?_
      refine .done ⟨by kernel_rfl, fun a21 g W21 y21 zz21 hk hg hV hR hP => ?_⟩
      obtain ⟨e37, -, -, -⟩ := hV
      replace e0 := (hR 0 rfl).trans e0
      replace e1 := (hR 1 rfl).trans e1
      replace e2 := (hR 2 rfl).trans e2
      replace e3 := (hR 3 rfl).trans e3
      replace e13 := (hR 13 rfl).trans e13
      replace e14 := (hR 14 rfl).trans e14
      replace e10 := (hR 10 rfl).trans e10
      replace D_v := D_v.ext hk
      replace D_p := D_p.ext hk
      replace D_v10_14 := D_v10_14.ext hk
      have e37 : sl a21 37 = (.bool (false)) := e37
      replace kw := kw.x hk
      clear hR hk hg hP
      refine tail_nil (hK20 _ _ ?_)
      refine wp_cond_false e37 ?_
      refine wp_skip (hK19 _ _ ?_)
      refine wp_seq_k fun K22 hK22 => ?_
      refine rg mixed y21 zz21 ?_
      refine .i (sp_move (hbs rfl e2)) ?_
      refine .i (sp_assign (hlc rfl)) ?_
      refine .done ⟨by kernel_rfl, fun a23 g W23 y23 zz23 hk hg hV hR hP => ?_⟩
      obtain ⟨e11, -, -⟩ := hV
      replace e0 := (hR 0 rfl).trans e0
      replace e1 := (hR 1 rfl).trans e1
      replace e2 := (hR 2 rfl).trans e2
      replace e3 := (hR 3 rfl).trans e3
      replace e13 := (hR 13 rfl).trans e13
      replace e14 := (hR 14 rfl).trans e14
      replace e10 := (hR 10 rfl).trans e10
      replace D_v := D_v.ext hk
      replace D_p := D_p.ext hk
      replace D_v10_14 := D_v10_14.ext hk
      have e11 : sl a23 11 = p := e11
      replace kw := kw.x hk
      clear hR hk hg hP
      refine tail_nil (hK22 _ _ ?_)
      refine wp_seq_k fun K24 hK24 => ?_
      refine wp_seq_k fun K25 hK25 => ?_
      refine rg mixed y23 zz23 ?_
      refine .i (sp_move (hbs rfl e1)) ?_
      refine .i (sp_move (hbs rfl e1)) ?_
      refine .i (sp_sub (hlc rfl) Has.cst (i64_in (by omega))) ?_
      refine .i (sp_band (hlc rfl) (hlc rfl)) ?_
      refine .i (sp_eql (hlc rfl) Has.cst) ?_
      refine .done ⟨by kernel_rfl, fun a26 g W26 y26 zz26 hk hg hV hR hP => ?_⟩
      obtain ⟨e43, -, -, -, -, -⟩ := hV
      replace e0 := (hR 0 rfl).trans e0
      replace e1 := (hR 1 rfl).trans e1
      replace e2 := (hR 2 rfl).trans e2
      replace e3 := (hR 3 rfl).trans e3
      replace e13 := (hR 13 rfl).trans e13
      replace e14 := (hR 14 rfl).trans e14
      replace e10 := (hR 10 rfl).trans e10
      replace e11 := (hR 11 rfl).trans e11
      replace D_v := D_v.ext hk
      replace D_p := D_p.ext hk
      replace D_v10_14 := D_v10_14.ext hk
      replace e43 := e43.q
      replace kw := kw.x hk
      clear hR hk hg hP
      refine tail_nil (hK25 _ _ ?_)
      refine wp_cond_split e43 (fun hc => ?_) (fun hc => ?_)
      ·
       refine rg mixed y26 zz26 ?_
       refine .i (sp_move (hbs rfl e10)) ?_
       refine .i (sp_assign (hlc rfl)) ?_
       refine .done ⟨by kernel_rfl, fun a27 g W27 y27 zz27 hk hg hV hR hP => ?_⟩
       obtain ⟨e11, -, -⟩ := hV
       replace e0 := (hR 0 rfl).trans e0
       replace e1 := (hR 1 rfl).trans e1
       replace e2 := (hR 2 rfl).trans e2
       replace e3 := (hR 3 rfl).trans e3
       replace e13 := (hR 13 rfl).trans e13
       replace e14 := (hR 14 rfl).trans e14
       replace e10 := (hR 10 rfl).trans e10
       replace D_v := D_v.ext hk
       replace D_p := D_p.ext hk
       replace D_v10_14 := D_v10_14.ext hk
       have e11 : sl a27 11 = v10_14 := e11
       replace kw := kw.x hk
       clear hR hk hg hP
       refine tail_nil (hK24 _ _ ?_)
       refine wp_seq_k fun K28 hK28 => ?_
       refine rg mixed y27 zz27 ?_
       refine .i (sp_move (hbs rfl e10)) ?_
       refine .rf (sp_nilR ((hlc rfl).refd D_v10_14 sub_all)) ?_
       refine .rf (X := SA w S []) (e := valsD ((xs[k]'hlt).xs)) (sp_fieldV (hlc rfl) Try.underlying33 rfl sz31 rfl rfl) ?_
       refine .da (X := SA w S []) (e := valsD ((xs[k]'hlt).xs)) (sp_loadR (hlc rfl) agg31 sz31 rfl) ?_
       refine .i (sp_move (hbs rfl e1)) ?_
       refine .i (sp_add (hlc rfl) Has.cst (i64_in (by omega))) ?_
       refine .i (sp_move (hbs rfl e11)) ?_
       refine .i (sp_move (hbs rfl e3)) ?_
       refine .i (v := (.bool (false))) (sp_call4 (φ1 := IsD (SA w S []) (valsD ((xs[k]'hlt).xs))) (φ2 := Is (.int .i64 ((level : Int) + (1 : Int)))) (φ3 := IsR (SA w S []) (V.d (xs[k]'hlt))) (φ4 := Is (.bool (nested))) ent137 (hlc rfl) (hlc rfl) ((hlc rfl).refd D_v10_14 sub_all) (hlc rfl) (fun g u1 u2 u3 u4 W hk hgk h1 h2 h3 h4 => by have h2 : u2 = _ := h2; subst u2; have h4 : u4 = _ := h4; subst u4; exact ih ((xs[k]'hlt).xs) (by omega) ((level : Int) + (1 : Int)) (by omega) (by omega) (nested) _ W _ _ (fun b o h => sa_cln hS b o h.1) h1 (Or.inr ⟨_, h3, by omega⟩))) ?_
       refine .done ⟨by kernel_rfl, fun a29 g W29 y29 zz29 hk hg hV hR hP => ?_⟩
       obtain ⟨e53, -, -, -, -, -, -, -, -, -⟩ := hV
       replace e0 := (hR 0 rfl).trans e0
       replace e1 := (hR 1 rfl).trans e1
       replace e2 := (hR 2 rfl).trans e2
       replace e3 := (hR 3 rfl).trans e3
       replace e13 := (hR 13 rfl).trans e13
       replace e14 := (hR 14 rfl).trans e14
       replace D_v := D_v.ext hk
       replace D_p := D_p.ext hk
       replace D_v10_14 := D_v10_14.ext hk
       have e53 : sl a29 53 = (.bool (false)) := e53
       replace kw := kw.x hk
       clear hR hk hg hP
       refine tail_nil (hK28 _ _ ?_)
       refine wp_cond_false e53 ?_
       refine wp_skip (hK10 _ _ ?_)
       refine rg mixed y29 zz29 ?_
       refine .i (sp_add (hbs rfl e14) Has.cst (i64_in (by omega))) ?_
       refine .i (sp_move (hlc rfl)) ?_
       refine .done ⟨by kernel_rfl, fun a30 g W30 y30 zz30 hk hg hV hR hP => ?_⟩
       obtain ⟨e14, -, -⟩ := hV
       replace e0 := (hR 0 rfl).trans e0
       replace e1 := (hR 1 rfl).trans e1
       replace e2 := (hR 2 rfl).trans e2
       replace e3 := (hR 3 rfl).trans e3
       replace e13 := (hR 13 rfl).trans e13
       replace D_v := D_v.ext hk
       replace D_p := D_p.ext hk
       replace e14 := e14.q
       replace kw := kw.x hk
       clear hR hk hg hP
       exact tail_nil ⟨hlt, y30, zz30, kw, e0, e1, e2, e3, e13, (e14.trans (congrArg (Value.int .i64) (by simp))), D_v, D_p⟩
      ·
       refine wp_skip (hK24 _ _ ?_)
       refine wp_seq_k fun K31 hK31 => ?_
       refine rg mixed y26 zz26 ?_
       refine .i (sp_move (hbs rfl e10)) ?_
       refine .rf (sp_nilR ((hlc rfl).refd D_v10_14 sub_all)) ?_
       refine .rf (X := SA w S []) (e := valsD ((xs[k]'hlt).xs)) (sp_fieldV (hlc rfl) Try.underlying33 rfl sz31 rfl rfl) ?_
       refine .da (X := SA w S []) (e := valsD ((xs[k]'hlt).xs)) (sp_loadR (hlc rfl) agg31 sz31 rfl) ?_
       refine .i (sp_move (hbs rfl e1)) ?_
       refine .i (sp_add (hlc rfl) Has.cst (i64_in (by omega))) ?_
       refine .i (sp_move (hbs rfl e11)) ?_
       refine .i (sp_move (hbs rfl e3)) ?_
       refine .i (v := (.bool (false))) (sp_call4 (φ1 := IsD (SA w S []) (valsD ((xs[k]'hlt).xs))) (φ2 := Is (.int .i64 ((level : Int) + (1 : Int)))) (φ3 := IsR (SA w S []) (V.d (y))) (φ4 := Is (.bool (nested))) ent137 (hlc rfl) (hlc rfl) ((hlc rfl).refd D_p sub_all) (hlc rfl) (fun g u1 u2 u3 u4 W hk hgk h1 h2 h3 h4 => by have h2 : u2 = _ := h2; subst u2; have h4 : u4 = _ := h4; subst u4; exact ih ((xs[k]'hlt).xs) (by omega) ((level : Int) + (1 : Int)) (by omega) (by omega) (nested) _ W _ _ (fun b o h => sa_cln hS b o h.1) h1 (Or.inr ⟨_, h3, by omega⟩))) ?_
       refine .done ⟨by kernel_rfl, fun a32 g W32 y32 zz32 hk hg hV hR hP => ?_⟩
       obtain ⟨e53, -, -, -, -, -, -, -, -, -⟩ := hV
       replace e0 := (hR 0 rfl).trans e0
       replace e1 := (hR 1 rfl).trans e1
       replace e2 := (hR 2 rfl).trans e2
       replace e3 := (hR 3 rfl).trans e3
       replace e13 := (hR 13 rfl).trans e13
       replace e14 := (hR 14 rfl).trans e14
       replace D_v := D_v.ext hk
       replace D_p := D_p.ext hk
       replace D_v10_14 := D_v10_14.ext hk
       have e53 : sl a32 53 = (.bool (false)) := e53
       replace kw := kw.x hk
       clear hR hk hg hP
       refine tail_nil (hK31 _ _ ?_)
       refine wp_cond_false e53 ?_
       refine wp_skip (hK10 _ _ ?_)
       refine rg mixed y32 zz32 ?_
       refine .i (sp_add (hbs rfl e14) Has.cst (i64_in (by omega))) ?_
       refine .i (sp_move (hlc rfl)) ?_
       refine .done ⟨by kernel_rfl, fun a33 g W33 y33 zz33 hk hg hV hR hP => ?_⟩
       obtain ⟨e14, -, -⟩ := hV
       replace e0 := (hR 0 rfl).trans e0
       replace e1 := (hR 1 rfl).trans e1
       replace e2 := (hR 2 rfl).trans e2
       replace e3 := (hR 3 rfl).trans e3
       replace e13 := (hR 13 rfl).trans e13
       replace D_v := D_v.ext hk
       replace D_p := D_p.ext hk
       replace e14 := e14.q
       replace kw := kw.x hk
       clear hR hk hg hP
       exact tail_nil ⟨hlt, y33, zz33, kw, e0, e1, e2, e3, e13, (e14.trans (congrArg (Value.int .i64) (by simp))), D_v, D_p⟩
    ·
     have hge0 : ¬ k < xs.length := by simpa using hc
     have hge : k = xs.length := by omega
     refine wp_exit (hK3 _ _ ?_)
     refine wp_seq_k fun K34 hK34 => ?_
     refine rg mixed y8 zz8 ?_
     refine .i (sp_assign Has.cst) ?_
     refine .done ⟨by kernel_rfl, fun a35 g W35 y35 zz35 hk hg hV hR hP => ?_⟩
     obtain ⟨e8, -⟩ := hV
     replace D_v := D_v.ext hk
     replace D_p := D_p.ext hk
     have e8 : sl a35 8 = (.bool (false)) := e8
     replace kw := kw.x hk
     clear hR hk hg hP
     refine tail_nil (hK34 _ _ ?_)
     refine wp_ret ?_
     refine (show bodyPost Try.prog Try.f137 _ .ret _ _ from ret1 rfl zz35 e8 ⟨_, rfl, kw, ?_⟩)
     exact rfl
end Go.Proofs.Ytnobijngkpflcaa
namespace Go.Proofs.Ytnobijngkpflcaa
open Go.Eng
set_option maxRecDepth 100000 in
theorem same_all : ∀ (n : Nat) (x y : V), x.cnt ≤ n → n ≤ 1073741824 → ∀ (w : World) (S : BSet) (p q : Value), Ref w S x.d p → Ref w S y.d q → Calls Try.prog 148 #[p, q, .pointer none] w (Ret w fun u _ => u = .bool (V.beq x y)) := by
  intro n
  induction n with
  | zero => intro x y hx; cases x; simp [V.cnt] at hx
  | succ n ih =>
  intro x y hx hn w S p q hp hq
  have hlx := len_cnts x.xs
  have hcx := cnt_eq x
  have D_p := ref_arg hp
  have D_q := ref_arg hq
  refine enter Try.func148 rfl Try.ntmps148 (lbr rfl) fun a0 y0 zz0 harg => ?_
  have e0 : sl a0 0 = p := harg 0 (lbr rfl)
  have e1 : sl a0 1 = q := harg 1 (lbr rfl)
  have e2 : sl a0 2 = (.pointer none) := harg 2 (lbr rfl)
  have kw := Keeps.refl All w
  clear harg
  refine wp_seq_k fun K1 hK1 => ?_
  refine rg mixed y0 zz0 ?_
  refine .i (sp_assign Has.cst) ?_
  refine .done ⟨by kernel_rfl, fun a2 g W2 y2 zz2 hk hg hV hR hP => ?_⟩
  obtain ⟨-, -⟩ := hV
  replace e0 := (hR 0 rfl).trans e0
  replace e1 := (hR 1 rfl).trans e1
  replace e2 := (hR 2 rfl).trans e2
  replace D_p := D_p.ext hk
  replace D_q := D_q.ext hk
  replace kw := kw.x hk
  clear hR hk hg hP
  refine tail_nil (hK1 _ _ ?_)
  refine wp_seq_k fun K3 hK3 => ?_
  refine wp_seq_k fun K4 hK4 => ?_
  refine rg mixed y2 zz2 ?_
  refine .i (sp_move (hbs rfl e0)) ?_
  refine .rf (sp_nilR ((hlc rfl).refd D_p sub_all)) ?_
  refine .rf (X := SA w S []) (e := D.int .u8 (x.k)) (sp_fieldV (hlc rfl) Try.underlying33 rfl sz5 rfl rfl) ?_
  refine .i (sp_loadInt (hlc rfl) agg5 sz5) ?_
  refine .i (sp_move (hbs rfl e1)) ?_
  refine .rf (sp_nilR ((hlc rfl).refd D_q sub_all)) ?_
  refine .rf (X := SA w S []) (e := D.int .u8 (y.k)) (sp_fieldV (hlc rfl) Try.underlying33 rfl sz5 rfl rfl) ?_
  refine .i (sp_loadInt (hlc rfl) agg5 sz5) ?_
  refine .i (sp_neq (hlc rfl) (hlc rfl)) ?_
  refine .i (sp_move (hlc rfl)) ?_
  refine .e (t := 17) rfl (hlc rfl) (fun hg => sp_move (hbs rfl e0)) ?_
  refine .opE (t := 17) (φ := IsR (SA w S []) (V.d (x))) rfl (hlc rfl) (st_r sub_all) (fun hg => sp_nilR (((hlc rfl).undE hg).refd D_p sub_all)) ?_
  refine .opE (t := 17) (φ := IsR (SA w S []) (D.int .i64 (x.n))) rfl (hlc rfl) (st_r sub_all) (fun hg => sp_fieldV ((hlc rfl).undE hg) Try.underlying33 rfl sz2 rfl rfl) ?_
  refine .e (t := 17) rfl (hlc rfl) (fun hg => sp_loadInt ((hlc rfl).undE hg) agg2 sz2) ?_
  refine .e (t := 17) rfl (hlc rfl) (fun hg => sp_move (hbs rfl e1)) ?_
  refine .opE (t := 17) (φ := IsR (SA w S []) (V.d (y))) rfl (hlc rfl) (st_r sub_all) (fun hg => sp_nilR (((hlc rfl).undE hg).refd D_q sub_all)) ?_
  refine .opE (t := 17) (φ := IsR (SA w S []) (D.int .i64 (y.n))) rfl (hlc rfl) (st_r sub_all) (fun hg => sp_fieldV ((hlc rfl).undE hg) Try.underlying33 rfl sz2 rfl rfl) ?_
  refine .e (t := 17) rfl (hlc rfl) (fun hg => sp_loadInt ((hlc rfl).undE hg) agg2 sz2) ?_
  refine .e (t := 17) rfl (hlc rfl) (fun hg => sp_neq ((hlc rfl).undE hg) ((hlc rfl).undE hg)) ?_
  refine .i (sp_or (hlc rfl) ((hlc rfl).weak fun hq => hq)) ?_
  refine .i (sp_move (hlc rfl)) ?_
  refine .e (t := 28) rfl (hlc rfl) (fun hg => sp_move (hbs rfl e0)) ?_
  refine .opE (t := 28) (φ := IsR (SA w S []) (V.d (x))) rfl (hlc rfl) (st_r sub_all) (fun hg => sp_nilR (((hlc rfl).undE hg).refd D_p sub_all)) ?_
  refine .opE (t := 28) (φ := IsR (SA w S []) (D.str (x.t))) rfl (hlc rfl) (st_r sub_all) (fun hg => sp_fieldV ((hlc rfl).undE hg) Try.underlying33 rfl sz9 rfl rfl) ?_
  refine .e (t := 28) rfl (hlc rfl) (fun hg => sp_loadStr ((hlc rfl).undE hg) agg9 sz9) ?_
  refine .e (t := 28) rfl (hlc rfl) (fun hg => sp_move (hbs rfl e1)) ?_
  refine .opE (t := 28) (φ := IsR (SA w S []) (V.d (y))) rfl (hlc rfl) (st_r sub_all) (fun hg => sp_nilR (((hlc rfl).undE hg).refd D_q sub_all)) ?_
  refine .opE (t := 28) (φ := IsR (SA w S []) (D.str (y.t))) rfl (hlc rfl) (st_r sub_all) (fun hg => sp_fieldV ((hlc rfl).undE hg) Try.underlying33 rfl sz9 rfl rfl) ?_
  refine .e (t := 28) rfl (hlc rfl) (fun hg => sp_loadStr ((hlc rfl).undE hg) agg9 sz9) ?_
  refine .e (t := 28) rfl (hlc rfl) (fun hg => sp_sNeq ((hlc rfl).undE hg) ((hlc rfl).undE hg)) ?_
  refine .i (sp_or (hlc rfl) ((hlc rfl).weak fun hq => hq)) ?_
  refine .i (sp_move (hlc rfl)) ?_
  refine .e (t := 39) rfl (hlc rfl) (fun hg => sp_move (hbs rfl e0)) ?_
  refine .opE (t := 39) (φ := IsR (SA w S []) (V.d (x))) rfl (hlc rfl) (st_r sub_all) (fun hg => sp_nilR (((hlc rfl).undE hg).refd D_p sub_all)) ?_
  refine .opE (t := 39) (φ := IsR (SA w S []) (strsD (x.ns))) rfl (hlc rfl) (st_r sub_all) (fun hg => sp_fieldV ((hlc rfl).undE hg) Try.underlying33 rfl sz23 rfl rfl) ?_
  refine .opE (t := 39) (φ := IsD (SA w S []) (strsD (x.ns))) rfl (hlc rfl) (st_d sub_all) (fun hg => sp_loadR ((hlc rfl).undE hg) agg23 sz23 rfl) ?_
  refine .e (t := 39) rfl (hlc rfl) (fun hg => sp_move (hbs rfl e1)) ?_
  refine .opE (t := 39) (φ := IsR (SA w S []) (V.d (y))) rfl (hlc rfl) (st_r sub_all) (fun hg => sp_nilR (((hlc rfl).undE hg).refd D_q sub_all)) ?_
  refine .opE (t := 39) (φ := IsR (SA w S []) (strsD (y.ns))) rfl (hlc rfl) (st_r sub_all) (fun hg => sp_fieldV ((hlc rfl).undE hg) Try.underlying33 rfl sz23 rfl rfl) ?_
  refine .opE (t := 39) (φ := IsD (SA w S []) (strsD (y.ns))) rfl (hlc rfl) (st_d sub_all) (fun hg => sp_loadR ((hlc rfl).undE hg) agg23 sz23 rfl) ?_
  refine .e (t := 39) (v := (.bool (decide (x.ns = y.ns)))) rfl (hlc rfl) (fun hg => sp_call2 (φ1 := IsD (SA w S []) (strsD (x.ns))) (φ2 := IsD (SA w S []) (strsD (y.ns))) ent127 ((hlc rfl).undE hg) ((hlc rfl).undE hg) (fun g u1 u2 W hk hgk h1 h2 => equal_ok (x.ns) (y.ns) W _ _ _ h1 h2)) ?_
  refine .e (t := 39) rfl (hlc rfl) (fun hg => sp_not ((hlc rfl).undE hg)) ?_
  refine .i (sp_or (hlc rfl) ((hlc rfl).weak fun hq => hq)) ?_
  refine .i (sp_move (hlc rfl)) ?_
  refine .e (t := 51) rfl (hlc rfl) (fun hg => sp_move (hbs rfl e0)) ?_
  refine .opE (t := 51) (φ := IsR (SA w S []) (V.d (x))) rfl (hlc rfl) (st_r sub_all) (fun hg => sp_nilR (((hlc rfl).undE hg).refd D_p sub_all)) ?_
  refine .opE (t := 51) (φ := IsR (SA w S []) (valsD (x.xs))) rfl (hlc rfl) (st_r sub_all) (fun hg => sp_fieldV ((hlc rfl).undE hg) Try.underlying33 rfl sz31 rfl rfl) ?_
  refine .opE (t := 51) (φ := IsD (SA w S []) (valsD (x.xs))) rfl (hlc rfl) (st_d sub_all) (fun hg => sp_loadR ((hlc rfl).undE hg) agg31 sz31 rfl) ?_
  refine .e (t := 51) rfl (hlc rfl) (fun hg => sp_lenVs Try.underlying31 ((hlc rfl).undE hg)) ?_
  refine .e (t := 51) rfl (hlc rfl) (fun hg => sp_move (hbs rfl e1)) ?_
  refine .opE (t := 51) (φ := IsR (SA w S []) (V.d (y))) rfl (hlc rfl) (st_r sub_all) (fun hg => sp_nilR (((hlc rfl).undE hg).refd D_q sub_all)) ?_
  refine .opE (t := 51) (φ := IsR (SA w S []) (valsD (y.xs))) rfl (hlc rfl) (st_r sub_all) (fun hg => sp_fieldV ((hlc rfl).undE hg) Try.underlying33 rfl sz31 rfl rfl) ?_
  refine .opE (t := 51) (φ := IsD (SA w S []) (valsD (y.xs))) rfl (hlc rfl) (st_d sub_all) (fun hg => sp_loadR ((hlc rfl).undE hg) agg31 sz31 rfl) ?_
  refine .e (t := 51) rfl (hlc rfl) (fun hg => sp_lenVs Try.underlying31 ((hlc rfl).undE hg)) ?_
  refine .e (t := 51) rfl (hlc rfl) (fun hg => sp_neq ((hlc rfl).undE hg) ((hlc rfl).undE hg)) ?_
  refine .i (sp_or (hlc rfl) ((hlc rfl).weak fun hq => hq)) ?_
  refine .done ⟨by kernel_rfl, fun a5 g W5 y5 zz5 hk hg hV hR hP => ?_⟩
  obtain ⟨e63, -, -, -, -, -, -, -, -, -, -, -, -, -, -, -, -, -, -, -, -, -, -, -, -, -, -, -, -, -, -, -, -, -, -, -, -, -, -, -, -, -, -, -, -, -, -, -, -, -, -, -, -, -, -, -, -⟩ := hV
  replace e0 := (hR 0 rfl).trans e0
  replace e1 := (hR 1 rfl).trans e1
  replace e2 := (hR 2 rfl).trans e2
  replace D_p := D_p.ext hk
  replace D_q := D_q.ext hk
  replace e63 := e63.q
  replace kw := kw.x hk
  clear hR hk hg hP
  refine tail_nil (hK4 _ _ ?_)
  refine wp_cond_split e63 (fun hc => ?_) (fun hc => ?_)
  ·
   have hfin : V.beq x y = false := beq_false fun h => by subst h; simp at hc
   refine wp_seq_k fun K6 hK6 => ?_
   refine rg mixed y5 zz5 ?_
   refine .i (sp_assign Has.cst) ?_
   refine .done ⟨by kernel_rfl, fun a7 g W7 y7 zz7 hk hg hV hR hP => ?_⟩
   obtain ⟨e6, -⟩ := hV
   replace D_p := D_p.ext hk
   replace D_q := D_q.ext hk
   have e6 : sl a7 6 = (.bool (false)) := e6
   replace kw := kw.x hk
   clear hR hk hg hP
   refine tail_nil (hK6 _ _ ?_)
   refine wp_ret ?_
   refine (show bodyPost Try.prog Try.f148 _ .ret _ _ from ret1 rfl zz7 e6 ⟨_, rfl, kw, ?_⟩)
   rw [hfin]
  ·
   simp at hc
   obtain ⟨⟨⟨⟨q1, q2⟩, q3⟩, q4⟩, q5⟩ := hc
   refine wp_skip (hK3 _ _ ?_)
   refine wp_seq_k fun K8 hK8 => ?_
   refine wp_seq_k fun K9 hK9 => ?_
   refine rg mixed y5 zz5 ?_
   refine .i (sp_move (hbs rfl e2)) ?_
   refine .i (v := (.bool (false))) (sp_nilNeq Try.underlying187 (hlc rfl) Has.cst (by simp) rfl) ?_
   refine .done ⟨by kernel_rfl, fun a10 g W10 y10 zz10 hk hg hV hR hP => ?_⟩
   obtain ⟨e65, -, -⟩ := hV
   replace e0 := (hR 0 rfl).trans e0
   replace e1 := (hR 1 rfl).trans e1
   replace e2 := (hR 2 rfl).trans e2
   replace D_p := D_p.ext hk
   replace D_q := D_q.ext hk
   have e65 : sl a10 65 = (.bool (false)) := e65
   replace kw := kw.x hk
   clear hR hk hg hP
   refine tail_nil (hK9 _ _ ?_)
   refine wp_cond_false e65 ?_
   refine wp_skip (hK8 _ _ ?_)
   refine wp_seq_k fun K11 hK11 => ?_
   refine wp_seq_k fun K12 hK12 => ?_
   refine rg mixed y10 zz10 ?_
   refine .i (sp_move (hbs rfl e0)) ?_
   refine .rf (sp_nilR ((hlc rfl).refd D_p sub_all)) ?_
   refine .rf (X := SA w S []) (e := valsD (x.xs)) (sp_fieldV (hlc rfl) Try.underlying33 rfl sz31 rfl rfl) ?_
   refine .da (X := SA w S []) (e := valsD (x.xs)) (sp_loadR (hlc rfl) agg31 sz31 rfl) ?_
   refine .i (sp_lenVs Try.underlying31 (hlc rfl)) ?_
   refine .i (sp_move Has.cst) ?_
   refine .done ⟨by kernel_rfl, fun a13 g W13 y13 zz13 hk hg hV hR hP => ?_⟩
   obtain ⟨e88, e87, -, -, -, -, -⟩ := hV
   replace e0 := (hR 0 rfl).trans e0
   replace e1 := (hR 1 rfl).trans e1
   replace e2 := (hR 2 rfl).trans e2
   replace D_p := D_p.ext hk
   replace D_q := D_q.ext hk
   have e87 : sl a13 87 = (.int .i64 (x.xs.length)) := e87
   have e88 : sl a13 88 = (.int .i64 (0)) := e88
   replace kw := kw.x hk
   clear hR hk hg hP
   refine tail_nil (hK12 _ _ ?_)
   refine wp_block ?_
   refine wp_for (x.xs.length) (fun k a W => a.tmps.size = 107 ∧ a.defers = [] ∧ Keeps All w W ∧ sl a 0 = p ∧ sl a 1 = q ∧ sl a 2 = (.pointer none) ∧ sl a 87 = (.int .i64 (x.xs.length)) ∧ sl a 88 = (.int .i64 ((k : Nat))) ∧ Ref W (SA w S []) (V.d (x)) p ∧ Ref W (SA w S []) (V.d (y)) q ∧ (∀ i (h1 : i < x.xs.length) (h2 : i < y.xs.length), i < k → x.xs[i] = y.xs[i])) ⟨y13, zz13, kw, e0, e1, e2, e87, (e88.trans (congrArg (Value.int .i64) (rfl))), D_p, D_q, fun i h1 h2 hi => absurd hi (by omega)⟩ ?_
   clear kw e0 e1 e2 e87 e88 D_p D_q
   rintro k a14 W14 hkk ⟨y14, zz14, kw, e0, e1, e2, e87, e88, D_p, D_q, hinv⟩
   refine wp_seq_k fun K15 hK15 => ?_
   refine rg mixed y14 zz14 ?_
   refine .i (sp_lss (hbs rfl e88) (hbs rfl e87)) ?_
   refine .done ⟨by kernel_rfl, fun a16 g W16 y16 zz16 hk hg hV hR hP => ?_⟩
   obtain ⟨e89, -⟩ := hV
   replace e0 := (hR 0 rfl).trans e0
   replace e1 := (hR 1 rfl).trans e1
   replace e2 := (hR 2 rfl).trans e2
   replace e87 := (hR 87 rfl).trans e87
   replace e88 := (hR 88 rfl).trans e88
   replace D_p := D_p.ext hk
   replace D_q := D_q.ext hk
   replace e89 := e89.q
   replace kw := kw.x hk
   clear hR hk hg hP
   refine tail_nil (hK15 _ _ ?_)
   refine wp_seq_k fun K17 hK17 => ?_
   refine wp_cond_split e89 (fun hc => ?_) (fun hc => ?_)
   ·
    have hlt : k < x.xs.length := by simpa using hc
    have hce := cnt_elem hlt
    have hcq := cnt_eq x
    refine wp_skip (hK17 _ _ ?_)
    refine wp_seq_k fun K18 hK18 => ?_
    refine wp_block ?_
    refine wp_seq_k fun K19 hK19 => ?_
    refine rg mixed y16 zz16 ?_
    refine .i (sp_move (hbs rfl e88)) ?_
    refine .i (sp_assign (hlc rfl)) ?_
    refine .done ⟨by kernel_rfl, fun a20 g W20 y20 zz20 hk hg hV hR hP => ?_⟩
    obtain ⟨e7, -, -⟩ := hV
    replace e0 := (hR 0 rfl).trans e0
    replace e1 := (hR 1 rfl).trans e1
    replace e2 := (hR 2 rfl).trans e2
    replace e87 := (hR 87 rfl).trans e87
    replace e88 := (hR 88 rfl).trans e88
    replace D_p := D_p.ext hk
    replace D_q := D_q.ext hk
    have e7 : sl a20 7 = (.int .i64 ((k : Nat))) := e7
    replace kw := kw.x hk
    clear hR hk hg hP
    refine tail_nil (hK19 _ _ ?_)
    refine wp_seq_k fun K21 hK21 => ?_
    refine rg mixed y20 zz20 ?_
    refine .i (sp_move (hbs rfl e0)) ?_
    refine .rf (sp_nilR ((hlc rfl).refd D_p sub_all)) ?_
    refine .rf (X := SA w S []) (e := valsD (x.xs)) (sp_fieldV (hlc rfl) Try.underlying33 rfl sz31 rfl rfl) ?_
    refine .da (X := SA w S []) (e := valsD (x.xs)) (sp_loadR (hlc rfl) agg31 sz31 rfl) ?_
    refine .i (sp_move (hbs rfl e7)) ?_
    refine .rf (sp_indexV (i := k) (hlc rfl) (hlc rfl) Try.underlying31 sz33 rfl hlt) ?_
    refine .i (sp_move (hbs rfl e1)) ?_
    refine .rf (sp_nilR ((hlc rfl).refd D_q sub_all)) ?_
    refine .rf (X := SA w S []) (e := valsD (y.xs)) (sp_fieldV (hlc rfl) Try.underlying33 rfl sz31 rfl rfl) ?_
    refine .da (X := SA w S []) (e := valsD (y.xs)) (sp_loadR (hlc rfl) agg31 sz31 rfl) ?_
    refine .i (sp_move (hbs rfl e7)) ?_
    refine .rf (sp_indexV (i := k) (hlc rfl) (hlc rfl) Try.underlying31 sz33 rfl (by omega)) ?_
    refine .i (sp_move (hbs rfl e2)) ?_
    refine .i (v := (.bool (V.beq (x.xs[k]'hlt) (y.xs[k]'(by omega))))) (sp_call3 (φ1 := IsR (SA w S []) (V.d (x.xs[k]'hlt))) (φ2 := IsR (SA w S []) (V.d (y.xs[k]'(by omega)))) (φ3 := Is (.pointer none)) ent148 (hlc rfl) (hlc rfl) (hlc rfl) (fun g u1 u2 u3 W hk hgk h1 h2 h3 => by have h3 : u3 = _ := h3; subst u3; exact ih (x.xs[k]'hlt) (y.xs[k]'(by omega)) (by omega) (by omega) W _ _ _ h1 h2)) ?_
    refine .i (sp_not (hlc rfl)) ?_
    refine .done ⟨by kernel_rfl, fun a22 g W22 y22 zz22 hk hg hV hR hP => ?_⟩
    obtain ⟨e105, -, -, -, -, -, -, -, -, -, -, -, -, -, -, -⟩ := hV
    replace e0 := (hR 0 rfl).trans e0
    replace e1 := (hR 1 rfl).trans e1
    replace e2 := (hR 2 rfl).trans e2
    replace e87 := (hR 87 rfl).trans e87
    replace e88 := (hR 88 rfl).trans e88
    replace D_p := D_p.ext hk
    replace D_q := D_q.ext hk
    replace e105 := e105.q
    replace kw := kw.x hk
    clear hR hk hg hP
    refine tail_nil (hK21 _ _ ?_)
    refine wp_cond_split e105 (fun hc => ?_) (fun hc => ?_)
    ·
     have hfin : V.beq x y = false := beq_false fun h => by subst h; simp [beq_refl] at hc
     refine wp_seq_k fun K23 hK23 => ?_
     refine rg mixed y22 zz22 ?_
     refine .i (sp_assign Has.cst) ?_
     refine .done ⟨by kernel_rfl, fun a24 g W24 y24 zz24 hk hg hV hR hP => ?_⟩
     obtain ⟨e6, -⟩ := hV
     replace D_p := D_p.ext hk
     replace D_q := D_q.ext hk
     have e6 : sl a24 6 = (.bool (false)) := e6
     replace kw := kw.x hk
     clear hR hk hg hP
     refine tail_nil (hK23 _ _ ?_)
     refine wp_ret ?_
     refine (show bodyPost Try.prog Try.f148 _ .ret _ _ from ret1 rfl zz24 e6 ⟨_, rfl, kw, ?_⟩)
     rw [hfin]
    ·
     have hk1 : x.xs[k] = y.xs[k] := (beq_iff _ _).1 (by simpa using hc)
     refine wp_skip (hK18 _ _ ?_)
     refine rg mixed y22 zz22 ?_
     refine .i (sp_add (hbs rfl e88) Has.cst (i64_in (by omega))) ?_
     refine .i (sp_move (hlc rfl)) ?_
     refine .done ⟨by kernel_rfl, fun a25 g W25 y25 zz25 hk hg hV hR hP => ?_⟩
     obtain ⟨e88, -, -⟩ := hV
     replace e0 := (hR 0 rfl).trans e0
     replace e1 := (hR 1 rfl).trans e1
     replace e2 := (hR 2 rfl).trans e2
     replace e87 := (hR 87 rfl).trans e87
     replace D_p := D_p.ext hk
     replace D_q := D_q.ext hk
     replace e88 := e88.q
     replace kw := kw.x hk
     clear hR hk hg hP
     exact tail_nil ⟨hlt, y25, zz25, kw, e0, e1, e2, e87, (e88.trans (congrArg (Value.int .i64) (by simp))), D_p, D_q, fun i h1 h2 hi => by rcases Nat.lt_succ_iff_lt_or_eq.1 hi with h | h; exact hinv i h1 h2 h; subst h; exact hk1⟩
   ·
    have hge0 : ¬ k < x.xs.length := by simpa using hc
    have hge : k = x.xs.length := by omega
    have hfin : V.beq x y = true := (beq_iff x y).2 (V.ext (by omega) q2 q3 q4 (List.ext_getElem (by omega) fun i h1 h2 => hinv i h1 h2 (by omega)))
    refine wp_exit (hK11 _ _ ?_)
    refine wp_seq_k fun K26 hK26 => ?_
    refine rg mixed y16 zz16 ?_
    refine .i (sp_assign Has.cst) ?_
    refine .done ⟨by kernel_rfl, fun a27 g W27 y27 zz27 hk hg hV hR hP => ?_⟩
    obtain ⟨e6, -⟩ := hV
    replace D_p := D_p.ext hk
    replace D_q := D_q.ext hk
    have e6 : sl a27 6 = (.bool (true)) := e6
    replace kw := kw.x hk
    clear hR hk hg hP
    refine tail_nil (hK26 _ _ ?_)
    refine wp_ret ?_
    refine (show bodyPost Try.prog Try.f148 _ .ret _ _ from ret1 rfl zz27 e6 ⟨_, rfl, kw, ?_⟩)
    rw [hfin]
set_option maxRecDepth 100000 in
theorem Same_ok (x y : V) (hx : x.cnt ≤ 1073741824) (hy : y.cnt ≤ 1073741824) (w : World) (S : BSet) (v u : Value) (hS : ∀ b o, S b o → Cln o) (hv : Rd w S x.d v) (hu : Rd w S y.d u) : Calls Try.prog 121 #[v, u] w (Ret w fun u _ => u = .bool (V.beq x y)) := by
  have hcx := cnt_eq x
  have hcy := cnt_eq y
  obtain ⟨cn0a, cn0c, ci0a, ci0c, ev, ht0, D_cn0, D_ci0⟩ := rdV_out (rd_arg hv)
  subst ev
  obtain ⟨cn1a, cn1c, ci1a, ci1c, ev, ht1, D_cn1, D_ci1⟩ := rdV_out (rd_arg hu)
  subst ev
  refine enter Try.func121 rfl Try.ntmps121 (lbr rfl) fun a0 y0 zz0 harg => ?_
  have e0 : sl a0 0 = (.agg #[(.int .u8 (x.k)), (.int .i64 (x.n)), (.string (x.t)), (.slice cn0a (x.ns.length) cn0c), (.slice ci0a (x.xs.length) ci0c)]) := harg 0 (lbr rfl)
  have e1 : sl a0 1 = (.agg #[(.int .u8 (y.k)), (.int .i64 (y.n)), (.string (y.t)), (.slice cn1a (y.ns.length) cn1c), (.slice ci1a (y.xs.length) ci1c)]) := harg 1 (lbr rfl)
  have kw := Keeps.refl All w
  clear harg
  refine wp_seq_k fun K1 hK1 => ?_
  refine rg mixed y0 zz0 ?_
  refine .boxOp (v := (.agg #[(.int .u8 (x.k)), (.int .i64 (x.n)), (.string (x.t)), (.slice cn0a (x.ns.length) cn0c), (.slice ci0a (x.xs.length) ci0c)])) (hbs rfl e0) ?_
  refine .boxOp (v := (.agg #[(.int .u8 (y.k)), (.int .i64 (y.n)), (.string (y.t)), (.slice cn1a (y.ns.length) cn1c), (.slice ci1a (y.xs.length) ci1c)])) (hbs rfl e1) ?_
  refine .i (sp_assign Has.cst) ?_
  refine .done ⟨by kernel_rfl, fun a2 g W2 y2 zz2 hk hg hV hR hP => ?_⟩
  obtain ⟨-, ⟨b3_2, e3, hb3, own_b3_2⟩, ⟨b2_2, e2, hb2, own_b2_2⟩, -⟩ := hV
  have lo_b3_2 : w.heap.size ≤ b3_2 := Nat.le_trans kw.size (hg.lo _ _ hb3)
  have own_b3_2 : Own W2 b3_2 [(.int .u8 (y.k)), (.int .i64 (y.n)), (.string (y.t)), (.slice cn1a (y.ns.length) cn1c), (.slice ci1a (y.xs.length) ci1c)] 33 := own_b3_2
  have lo_b2_2 : w.heap.size ≤ b2_2 := Nat.le_trans kw.size (hg.lo _ _ hb2)
  have own_b2_2 : Own W2 b2_2 [(.int .u8 (x.k)), (.int .i64 (x.n)), (.string (x.t)), (.slice cn0a (x.ns.length) cn0c), (.slice ci0a (x.xs.length) ci0c)] 33 := own_b2_2
  have ne_b3_2_b2_2 : b3_2 ≠ b2_2 := fun h => by have := hg.inj _ _ _ hb3 (h ▸ hb2); cases this
  replace D_cn0 := sa_more D_cn0 hk [b3_2, b2_2] (in_cons (hg.lo _ _ hb3) (in_cons (hg.lo _ _ hb2) in_nil))
  replace D_ci0 := sa_more D_ci0 hk [b3_2, b2_2] (in_cons (hg.lo _ _ hb3) (in_cons (hg.lo _ _ hb2) in_nil))
  replace D_cn1 := sa_more D_cn1 hk [b3_2, b2_2] (in_cons (hg.lo _ _ hb3) (in_cons (hg.lo _ _ hb2) in_nil))
  replace D_ci1 := sa_more D_ci1 hk [b3_2, b2_2] (in_cons (hg.lo _ _ hb3) (in_cons (hg.lo _ _ hb2) in_nil))
  replace kw := kw.x hk
  clear hR hk hg hP hb3 hb2
  refine tail_nil (hK1 _ _ ?_)
  refine wp_seq_k fun K3 hK3 => ?_
  refine rg mixed y2 zz2 ?_
  refine .i (fo 4 (hbs rfl e2) Try.underlying33 rfl sz31 rfl) ?_
  refine .i (lo1 (hlc rfl) own_b2_2 trivial agg31 sz31 rfl) ?_
  refine .i (v := (.bool (false))) (sp_call4 (φ1 := IsD (SA w S [b3_2, b2_2]) (valsD (x.xs))) (φ2 := Is (.int .i64 (1))) (φ3 := Is (.pointer none)) (φ4 := Is (.bool (false))) ent137 ((hlc rfl).dat D_ci0 sub_all) Has.cst Has.cst Has.cst (fun g u1 u2 u3 u4 W hk hgk h1 h2 h3 h4 => by have h2 : u2 = _ := h2; subst u2; have h3 : u3 = _ := h3; subst u3; have h4 : u4 = _ := h4; subst u4; exact endless_all _ (x.xs) (Nat.lt_succ_self _) (1) (by omega) (by omega) (false) _ W _ _ (fun b o h => sa_cln hS b o h.1) h1 (Or.inl rfl))) ?_
  refine .i (sp_assign (hlc rfl)) ?_
  refine .done ⟨by kernel_rfl, fun a4 g W4 y4 zz4 hk hg hV hR hP => ?_⟩
  obtain ⟨e5, -, -, -, -⟩ := hV
  replace e3 := (hR 3 rfl).trans e3
  replace e2 := (hR 2 rfl).trans e2
  replace D_cn0 := D_cn0.ext hk
  replace D_ci0 := D_ci0.ext hk
  replace D_cn1 := D_cn1.ext hk
  replace D_ci1 := D_ci1.ext hk
  have e5 : sl a4 5 = (.bool (false)) := e5
  replace own_b3_2 := own_b3_2.ext hk
  replace own_b2_2 := own_b2_2.ext hk
  replace kw := kw.x hk
  clear hR hk hg hP
  refine tail_nil (hK3 _ _ ?_)
  refine wp_seq_k fun K5 hK5 => ?_
  refine wp_seq_k fun K6 hK6 => ?_
  refine rg mixed y4 zz4 ?_
  refine .i (sp_move (hbs rfl e5)) ?_
  refine .i (fo 4 (hbs rfl e3) Try.underlying33 rfl sz31 rfl) ?_
  refine .i (lo1 (hlc rfl) own_b3_2 trivial agg31 sz31 rfl) ?_
  refine .i (v := (.bool (false))) (sp_call4 (φ1 := IsD (SA w S [b3_2, b2_2]) (valsD (y.xs))) (φ2 := Is (.int .i64 (1))) (φ3 := Is (.pointer none)) (φ4 := Is (.bool (false))) ent137 ((hlc rfl).dat D_ci1 sub_all) Has.cst Has.cst Has.cst (fun g u1 u2 u3 u4 W hk hgk h1 h2 h3 h4 => by have h2 : u2 = _ := h2; subst u2; have h3 : u3 = _ := h3; subst u3; have h4 : u4 = _ := h4; subst u4; exact endless_all _ (y.xs) (Nat.lt_succ_self _) (1) (by omega) (by omega) (false) _ W _ _ (fun b o h => sa_cln hS b o h.1) h1 (Or.inl rfl))) ?_
  refine .i (sp_bNeq Try.underlying4 (hlc rfl) (hlc rfl)) ?_
  refine .done ⟨by kernel_rfl, fun a7 g W7 y7 zz7 hk hg hV hR hP => ?_⟩
  obtain ⟨e14, -, -, -, -, -⟩ := hV
  replace e3 := (hR 3 rfl).trans e3
  replace e2 := (hR 2 rfl).trans e2
  replace e5 := (hR 5 rfl).trans e5
  replace D_cn0 := D_cn0.ext hk
  replace D_ci0 := D_ci0.ext hk
  replace D_cn1 := D_cn1.ext hk
  replace D_ci1 := D_ci1.ext hk
  have e14 : sl a7 14 = (.bool (!(false == false))) := e14
  replace own_b3_2 := own_b3_2.ext hk
  replace own_b2_2 := own_b2_2.ext hk
  replace kw := kw.x hk
  clear hR hk hg hP
  refine tail_nil (hK6 _ _ ?_)
  refine wp_cond_false (e14.trans (congrArg Value.bool (by decide))) ?_
  refine wp_skip (hK5 _ _ ?_)
  refine wp_seq_k fun K8 hK8 => ?_
  refine wp_seq_k fun K9 hK9 => ?_
  refine rg mixed y7 zz7 ?_
  refine .i (sp_move (hbs rfl e5)) ?_
  refine .done ⟨by kernel_rfl, fun a10 g W10 y10 zz10 hk hg hV hR hP => ?_⟩
  obtain ⟨e15, -⟩ := hV
  replace e3 := (hR 3 rfl).trans e3
  replace e2 := (hR 2 rfl).trans e2
  replace D_cn0 := D_cn0.ext hk
  replace D_ci0 := D_ci0.ext hk
  replace D_cn1 := D_cn1.ext hk
  replace D_ci1 := D_ci1.ext hk
  have e15 : sl a10 15 = (.bool (false)) := e15
  replace own_b3_2 := own_b3_2.ext hk
  replace own_b2_2 := own_b2_2.ext hk
  replace kw := kw.x hk
  clear hR hk hg hP
  refine tail_nil (hK9 _ _ ?_)
  refine wp_cond_false e15 ?_
  refine wp_skip (hK8 _ _ ?_)
  refine wp_seq_k fun K11 hK11 => ?_
  refine rg mixed y10 zz10 ?_
  refine .i (v := (.bool (V.beq (x) (y)))) (sp_call3 (φ1 := IsR (SA w S []) (V.d (x))) (φ2 := IsR (SA w S []) (V.d (y))) (φ3 := Is (.pointer none)) ent148 ((hbs rfl e2).refB own_b2_2 lo_b2_2 (rdV_in (x := x) ht0 D_cn0 D_ci0 : Rd W10 (SA w S [b3_2, b2_2]) (V.d (x)) _)) ((hbs rfl e3).refB own_b3_2 lo_b3_2 (rdV_in (x := y) ht1 D_cn1 D_ci1 : Rd W10 (SA w S [b3_2, b2_2]) (V.d (y)) _)) Has.cst (fun g u1 u2 u3 W hk hgk h1 h2 h3 => by have h3 : u3 = _ := h3; subst u3; exact same_all _ (x) (y) (Nat.le_refl _) (by omega) W _ _ _ h1 h2)) ?_
  refine .i (sp_assign (hlc rfl)) ?_
  refine .done ⟨by kernel_rfl, fun a12 g W12 y12 zz12 hk hg hV hR hP => ?_⟩
  obtain ⟨e4, -, -⟩ := hV
  replace D_cn0 := D_cn0.ext hk
  replace D_ci0 := D_ci0.ext hk
  replace D_cn1 := D_cn1.ext hk
  replace D_ci1 := D_ci1.ext hk
  have e4 : sl a12 4 = (.bool (V.beq (x) (y))) := e4
  replace own_b3_2 := own_b3_2.ext hk
  replace own_b2_2 := own_b2_2.ext hk
  replace kw := kw.x hk
  clear hR hk hg hP
  refine tail_nil (hK11 _ _ ?_)
  refine wp_ret ?_
  refine (show bodyPost Try.prog Try.f121 _ .ret _ _ from ret1 rfl zz12 e4 ⟨_, rfl, kw, ?_⟩)
  exact rfl
end Go.Proofs.Ytnobijngkpflcaa
namespace Go.Proofs.Ytnobijngkpflcaa
open Go.Eng
set_option maxRecDepth 100000 in
theorem hasPrefix_in (t p : ByteArray) (w : World) : Calls Try.prog 181 #[.string t, .string p] w (Ret w fun u _ => u = .bool (hasPre t p)) := by
  refine enter Try.func181 rfl Try.ntmps181 (lbr rfl) fun a0 y0 zz0 harg => ?_
  have e0 : sl a0 0 = (.string (t)) := harg 0 (lbr rfl)
  have e1 : sl a0 1 = (.string (p)) := harg 1 (lbr rfl)
  have kw := Keeps.refl All w
  clear harg
  refine wp_seq_k fun K1 hK1 => ?_
  refine rg mixed y0 zz0 ?_
  refine .i (sp_assign Has.cst) ?_
  refine .done ⟨by kernel_rfl, fun a2 g W2 y2 zz2 hk hg hV hR hP => ?_⟩
  obtain ⟨-, -⟩ := hV
  replace e0 := (hR 0 rfl).trans e0
  replace e1 := (hR 1 rfl).trans e1
  replace kw := kw.x hk
  clear hR hk hg hP
  refine tail_nil (hK1 _ _ ?_)
  refine wp_seq_k fun K3 hK3 => ?_
  refine rg mixed y2 zz2 ?_
  refine .i (sp_move (hbs rfl e0)) ?_
  refine .i (sp_lenS Try.underlying9 (hlc rfl)) ?_
  refine .i (sp_move (hbs rfl e1)) ?_
  refine .i (sp_lenS Try.underlying9 (hlc rfl)) ?_
  refine .i (sp_geq (hlc rfl) (hlc rfl)) ?_
  refine .i (sp_move (hlc rfl)) ?_
  refine .e (t := 10) rfl (hlc rfl) (fun hg => sp_move (hbs rfl e0)) ?_
  refine .e (t := 10) rfl (hlc rfl) (fun hg => sp_move (hbs rfl e1)) ?_
  refine .e (t := 10) rfl (hlc rfl) (fun hg => sp_lenS Try.underlying9 ((hlc rfl).undE hg)) ?_
  refine .e (t := 10) (v := (.string (t.extract 0 p.size))) rfl (hlc rfl) (fun hg => sp_sliceHi (i := p.size) Try.underlying9 ((hlc rfl).undE hg) ((hlc rfl).undE hg) rfl (by simp at hg; omega)) ?_
  refine .e (t := 10) rfl (hlc rfl) (fun hg => sp_move (hbs rfl e1)) ?_
  refine .e (t := 10) rfl (hlc rfl) (fun hg => sp_sEql ((hlc rfl).undE hg) ((hlc rfl).undE hg)) ?_
  refine .i (sp_and (hlc rfl) ((hlc rfl).weak fun hq => hq)) ?_
  refine .i (sp_assign (hlc rfl)) ?_
  refine .done ⟨by kernel_rfl, fun a4 g W4 y4 zz4 hk hg hV hR hP => ?_⟩
  obtain ⟨e4, -, -, -, -, -, -, -, -, -, -, -, -, -, -⟩ := hV
  replace e4 := e4.q
  replace kw := kw.x hk
  clear hR hk hg hP
  refine tail_nil (hK3 _ _ ?_)
  refine wp_ret ?_
  refine (show bodyPost Try.prog Try.f181 _ .ret _ _ from ret1 rfl zz4 e4 ⟨_, rfl, kw, ?_⟩)
  congr 1; simp [hasPre]
set_option maxRecDepth 100000 in
theorem hasPrefix_ok (t p : ByteArray) (w : World) : Calls Try.prog 180 #[.string t, .string p] w (Ret w fun u _ => u = .bool (hasPre t p)) := by
  refine enter Try.func180 rfl Try.ntmps180 (lbr rfl) fun a0 y0 zz0 harg => ?_
  have e0 : sl a0 0 = (.string (t)) := harg 0 (lbr rfl)
  have e1 : sl a0 1 = (.string (p)) := harg 1 (lbr rfl)
  have kw := Keeps.refl All w
  clear harg
  refine wp_seq_k fun K1 hK1 => ?_
  refine rg mixed y0 zz0 ?_
  refine .i (sp_assign Has.cst) ?_
  refine .done ⟨by kernel_rfl, fun a2 g W2 y2 zz2 hk hg hV hR hP => ?_⟩
  obtain ⟨-, -⟩ := hV
  replace e0 := (hR 0 rfl).trans e0
  replace e1 := (hR 1 rfl).trans e1
  replace kw := kw.x hk
  clear hR hk hg hP
  refine tail_nil (hK1 _ _ ?_)
  refine wp_seq_k fun K3 hK3 => ?_
  refine rg mixed y2 zz2 ?_
  refine .i (sp_move (hbs rfl e0)) ?_
  refine .i (sp_move (hbs rfl e1)) ?_
  refine .i (v := (.bool (hasPre t p))) (sp_call2 (φ1 := Is (.string (t))) (φ2 := Is (.string (p))) ent181 (hlc rfl) (hlc rfl) (fun g u1 u2 W hk hgk h1 h2 => by have h1 : u1 = _ := h1; subst u1; have h2 : u2 = _ := h2; subst u2; exact hasPrefix_in (t) (p) W)) ?_
  refine .i (sp_assign (hlc rfl)) ?_
  refine .done ⟨by kernel_rfl, fun a4 g W4 y4 zz4 hk hg hV hR hP => ?_⟩
  obtain ⟨e4, -, -, -, -⟩ := hV
  have e4 : sl a4 4 = (.bool (hasPre t p)) := e4
  replace kw := kw.x hk
  clear hR hk hg hP
  refine tail_nil (hK3 _ _ ?_)
  refine wp_ret ?_
  refine (show bodyPost Try.prog Try.f180 _ .ret _ _ from ret1 rfl zz4 e4 ⟨_, rfl, kw, ?_⟩)
  exact rfl
set_option maxRecDepth 100000 in
theorem utfLen_ok (t : ByteArray) (ht : t.size ≤ 1073741824) (w : World) : Calls Try.prog 179 #[.string t] w (Ret w fun u _ => ∃ n : Int, u = .tuple #[.int .i64 n, .bool (utfOk t)]) := by
  refine enter Try.func179 rfl Try.ntmps179 (lbr rfl) fun a0 y0 zz0 harg => ?_
  have e0 : sl a0 0 = (.string (t)) := harg 0 (lbr rfl)
  have kw := Keeps.refl All w
  clear harg
  refine wp_seq_k fun K1 hK1 => ?_
  refine rg mixed y0 zz0 ?_
  refine .i (sp_assign Has.cst) ?_
  refine .i (sp_assign Has.cst) ?_
  refine .done ⟨by kernel_rfl, fun a2 g W2 y2 zz2 hk hg hV hR hP => ?_⟩
  obtain ⟨-, -, -⟩ := hV
  replace e0 := (hR 0 rfl).trans e0
  replace kw := kw.x hk
  clear hR hk hg hP
  refine tail_nil (hK1 _ _ ?_)
  refine wp_seq_k fun K3 hK3 => ?_
  refine rg mixed y2 zz2 ?_
  refine .i (sp_assign Has.cst) ?_
  refine .done ⟨by kernel_rfl, fun a4 g W4 y4 zz4 hk hg hV hR hP => ?_⟩
  obtain ⟨e4, -⟩ := hV
  replace e0 := (hR 0 rfl).trans e0
  have e4 : sl a4 4 = (.int .i64 (0)) := e4
  replace kw := kw.x hk
  clear hR hk hg hP
  refine tail_nil (hK3 _ _ ?_)
  refine wp_seq_k fun K5 hK5 => ?_
  refine wp_seq_k fun K6 hK6 => ?_
  refine rg mixed y4 zz4 ?_
  refine .i (sp_move (hbs rfl e0)) ?_
  refine .rangeS Try.underlying9 (hlc rfl) ?_
  refine .done ⟨by kernel_rfl, fun a7 g W7 y7 zz7 hk hg hV hR hP => ?_⟩
  obtain ⟨⟨b8_7, e8, hb8, own_b8_7⟩, -, -⟩ := hV
  have lo_b8_7 : w.heap.size ≤ b8_7 := Nat.le_trans kw.size (hg.lo _ _ hb8)
  have own_b8_7 : OwnIt W7 b8_7 (t) (0) := own_b8_7
  replace e0 := (hR 0 rfl).trans e0
  replace e4 := (hR 4 rfl).trans e4
  replace kw := kw.x hk
  clear hR hk hg hP hb8
  refine tail_nil (hK6 _ _ ?_)
  refine wp_block ?_
  refine wp_for (t.size) (fun k a W => ∃ (p : Nat), ∃ (f : Nat), a.tmps.size = 25 ∧ a.defers = [] ∧ Keeps All w W ∧ sl a 0 = (.string (t)) ∧ sl a 4 = (.int .i64 ((k : Nat))) ∧ sl a 8 = (.pointer (some ⟨b8_7, 0, none⟩)) ∧ OwnIt W b8_7 (t) (p) ∧ (k ≤ p) ∧ (utfOk t = utfFrom t f p) ∧ (t.size ≤ p + f)) ⟨0, t.size, y7, zz7, kw, e0, (e4.trans (congrArg (Value.int .i64) (rfl))), e8, own_b8_7, Nat.le_refl _, rfl, by omega⟩ ?_
  clear kw e0 e4 e8 own_b8_7
  rintro k a8 W8 hkk ⟨p, f, y8, zz8, kw, e0, e4, e8, own_b8_7, hkp, hfu, hfp⟩
  refine wp_seq_k fun K9 hK9 => ?_
  refine wp_next (b := b8_7) (p := p) (s := t) mixed y8 zz8 e8 own_b8_7 (by decide) (by kernel_rfl) (fun a10 W10 y10 zz10 hk hlt own_b8_7 e9 e10 hr => ?_) (fun a10 W10 y10 zz10 hk hge own_b8_7 e9 e10 hr => ?_)
  ·
   replace e0 := (hr 0 (by decide) (by decide)).trans e0
   replace e4 := (hr 4 (by decide) (by decide)).trans e4
   replace e8 := (hr 8 (by decide) (by decide)).trans e8
   replace kw := keeps_store kw hk lo_b8_7
   clear hr hk
   have hwp := width_pos t p hlt
   obtain ⟨f, rfl⟩ : ∃ f', f = f' + 1 := ⟨f - 1, by omega⟩
   rw [utfFrom, if_pos hlt] at hfu
   refine id (hK9 _ _ ?_)
   refine wp_seq_k fun K11 hK11 => ?_
   refine wp_cond_true e10 ?_
   refine wp_skip (hK11 _ _ ?_)
   refine wp_block ?_
   refine wp_seq_k fun K12 hK12 => ?_
   refine rg mixed y10 zz10 ?_
   refine .i (v := (.int .i64 ((p : Nat)))) (sp_extT (hbs rfl e9) rfl) ?_
   refine .i (v := (.int .i32 (((Utf8.decode t p).1 : Nat)))) (sp_extT (hbs rfl e9) rfl) ?_
   refine .i (sp_assign (hlc rfl)) ?_
   refine .i (sp_assign (hlc rfl)) ?_
   refine .done ⟨by kernel_rfl, fun a13 g W13 y13 zz13 hk hg hV hR hP => ?_⟩
   obtain ⟨e6, e5, -, -, -⟩ := hV
   replace e0 := (hR 0 rfl).trans e0
   replace e4 := (hR 4 rfl).trans e4
   replace e8 := (hR 8 rfl).trans e8
   have e5 : sl a13 5 = (.int .i64 ((p : Nat))) := e5
   replace e6 := e6.q
   replace own_b8_7 := own_b8_7.ext hk
   replace kw := kw.x hk
   clear hR hk hg hP
   refine tail_nil (hK12 _ _ ?_)
   refine wp_seq_k fun K14 hK14 => ?_
   refine wp_seq_k fun K15 hK15 => ?_
   refine rg mixed y13 zz13 ?_
   refine .i (sp_move (hbs rfl e6)) ?_
   refine .i (sp_eql (hlc rfl) Has.cst) ?_
   refine .i (sp_move (hlc rfl)) ?_
   refine .e (t := 15) rfl (hlc rfl) (fun hg => sp_move (hbs rfl e0)) ?_
   refine .e (t := 15) rfl (hlc rfl) (fun hg => sp_move (hbs rfl e5)) ?_
   refine .e (t := 15) (v := (.string (t.extract p t.size))) rfl (hlc rfl) (fun hg => sp_sliceLo (i := p) Try.underlying9 ((hlc rfl).undE hg) ((hlc rfl).undE hg) rfl (by omega)) ?_
   refine .e (t := 15) (v := (.bool (hasPre (t.extract p t.size) ⟨#[239, 191, 189]⟩))) rfl (hlc rfl) (fun hg => sp_call2 (φ1 := Is (.string (t.extract p t.size))) (φ2 := Is (.string (⟨#[239, 191, 189]⟩))) ent180 ((hlc rfl).undE hg) Has.cst (fun g u1 u2 W hk hgk h1 h2 => by have h1 : u1 = _ := h1; subst u1; have h2 : u2 = _ := h2; subst u2; exact hasPrefix_ok (t.extract p t.size) (⟨#[239, 191, 189]⟩) W)) ?_
   refine .e (t := 15) rfl (hlc rfl) (fun hg => sp_not ((hlc rfl).undE hg)) ?_
   refine .i (sp_and (hlc rfl) ((hlc rfl).weak fun hq => hq)) ?_
   refine .done ⟨by kernel_rfl, fun a16 g W16 y16 zz16 hk hg hV hR hP => ?_⟩
   obtain ⟨e21, -, -, -, -, -, -, -, -, -⟩ := hV
   replace e0 := (hR 0 rfl).trans e0
   replace e4 := (hR 4 rfl).trans e4
   replace e8 := (hR 8 rfl).trans e8
   replace e21 := e21.q
   replace own_b8_7 := own_b8_7.ext hk
   replace kw := kw.x hk
   clear hR hk hg hP
   refine tail_nil (hK15 _ _ ?_)
   refine wp_cond_split e21 (fun hc => ?_) (fun hc => ?_)
   ·
    simp at hc
    have hfin : utfOk t = false := by rw [hfu, if_pos ⟨by omega, hc.2⟩]
    refine wp_seq_k fun K17 hK17 => ?_
    refine rg mixed y16 zz16 ?_
    refine .i (sp_assign Has.cst) ?_
    refine .i (sp_assign Has.cst) ?_
    refine .done ⟨by kernel_rfl, fun a18 g W18 y18 zz18 hk hg hV hR hP => ?_⟩
    obtain ⟨e3, e2, -⟩ := hV
    have e2 : sl a18 2 = (.int .i64 (0)) := e2
    have e3 : sl a18 3 = (.bool (false)) := e3
    replace own_b8_7 := own_b8_7.ext hk
    replace kw := kw.x hk
    clear hR hk hg hP
    refine tail_nil (hK17 _ _ ?_)
    refine wp_ret ?_
    refine (show bodyPost Try.prog Try.f179 _ .ret _ _ from ret2 rfl zz18 e2 e3 ⟨_, rfl, kw, ?_⟩)
    rw [hfin]
    exact ⟨_, rfl⟩
   ·
    simp at hc
    rw [if_neg (fun h => by have h2 := hc (by omega); have h3 := h.2; unfold badRune at h3; rw [h2] at h3; cases h3)] at hfu
    refine wp_skip (hK14 _ _ ?_)
    refine rg mixed y16 zz16 ?_
    refine .i (sp_move (hbs rfl e4)) ?_
    refine .i (sp_add (hlc rfl) Has.cst (i64_in (by omega))) ?_
    refine .i (sp_assign (hlc rfl)) ?_
    refine .done ⟨by kernel_rfl, fun a19 g W19 y19 zz19 hk hg hV hR hP => ?_⟩
    obtain ⟨e4, -, -, -⟩ := hV
    replace e0 := (hR 0 rfl).trans e0
    replace e8 := (hR 8 rfl).trans e8
    replace e4 := e4.q
    replace own_b8_7 := own_b8_7.ext hk
    replace kw := kw.x hk
    clear hR hk hg hP
    exact tail_nil ⟨by omega, _, f, y19, zz19, kw, e0, (e4.trans (congrArg (Value.int .i64) (by simp))), e8, own_b8_7, by omega, hfu, by omega⟩
  ·
   replace e0 := (hr 0 (by decide) (by decide)).trans e0
   replace e4 := (hr 4 (by decide) (by decide)).trans e4
   replace e8 := (hr 8 (by decide) (by decide)).trans e8
   replace kw := keeps_store kw hk lo_b8_7
   clear hr hk
   have hfin : utfOk t = true := hfu.trans (utfFrom_end hge)
   refine id (hK9 _ _ ?_)
   refine wp_seq_k fun K20 hK20 => ?_
   refine wp_cond_false e10 ?_
   refine wp_exit (hK5 _ _ ?_)
   refine wp_seq_k fun K21 hK21 => ?_
   refine rg mixed y10 zz10 ?_
   refine .i (sp_move (hbs rfl e4)) ?_
   refine .i (sp_assign (hlc rfl)) ?_
   refine .i (sp_assign Has.cst) ?_
   refine .done ⟨by kernel_rfl, fun a22 g W22 y22 zz22 hk hg hV hR hP => ?_⟩
   obtain ⟨e3, e2, -, -⟩ := hV
   have e2 : sl a22 2 = (.int .i64 ((k : Nat))) := e2
   have e3 : sl a22 3 = (.bool (true)) := e3
   replace own_b8_7 := own_b8_7.ext hk
   replace kw := kw.x hk
   clear hR hk hg hP
   refine tail_nil (hK21 _ _ ?_)
   refine wp_ret ?_
   refine (show bodyPost Try.prog Try.f179 _ .ret _ _ from ret2 rfl zz22 e2 e3 ⟨_, rfl, kw, ?_⟩)
   rw [hfin]
   exact ⟨_, rfl⟩
set_option maxRecDepth 100000 in
theorem valid_ok (t : ByteArray) (ht : t.size ≤ 1073741824) (w : World) : Calls Try.prog 177 #[.string t] w (Ret w fun u _ => u = .bool (utfOk t)) := by
  refine enter Try.func177 rfl Try.ntmps177 (lbr rfl) fun a0 y0 zz0 harg => ?_
  have e0 : sl a0 0 = (.string (t)) := harg 0 (lbr rfl)
  have kw := Keeps.refl All w
  clear harg
  refine wp_seq_k fun K1 hK1 => ?_
  refine rg mixed y0 zz0 ?_
  refine .i (sp_assign Has.cst) ?_
  refine .done ⟨by kernel_rfl, fun a2 g W2 y2 zz2 hk hg hV hR hP => ?_⟩
  obtain ⟨-, -⟩ := hV
  replace e0 := (hR 0 rfl).trans e0
  replace kw := kw.x hk
  clear hR hk hg hP
  refine tail_nil (hK1 _ _ ?_)
  refine wp_seq_k fun K3 hK3 => ?_
  refine rg mixed y2 zz2 ?_
  refine .i (sp_move (hbs rfl e0)) ?_
  refine .op (φ := IsT (Any) (Is (.bool (utfOk t)))) (st_t st_any (st_is _)) (sp_call1 (φ1 := Is (.string (t))) ent179 (hlc rfl) (fun g u1 W hk hgk h1 => by have h1 : u1 = _ := h1; subst u1; exact (utfLen_ok (t) (by omega) W).mono (fun _ _ ⟨v, h1, h2, n, h3⟩ => ⟨v, h1, h2, _, _, h3, trivial, rfl⟩))) ?_
  refine .op (φ := IsT (Any) (Is (.bool (utfOk t)))) (st_t st_any (st_is _)) (sp_move (hlc rfl)) ?_
  refine .op (φ := Any) st_any (sp_ext2 (hlc rfl) rfl) ?_
  refine .i (v := (.bool (utfOk t))) (sp_ext2' (hlc rfl) rfl) ?_
  refine .op (φ := Any) st_any (sp_assign (hlc rfl)) ?_
  refine .i (sp_assign (hlc rfl)) ?_
  refine .done ⟨by kernel_rfl, fun a4 g W4 y4 zz4 hk hg hV hR hP => ?_⟩
  obtain ⟨e4, -, -, -, -, -, -, -⟩ := hV
  have e4 : sl a4 4 = (.bool (utfOk t)) := e4
  replace kw := kw.x hk
  clear hR hk hg hP
  refine tail_nil (hK3 _ _ ?_)
  refine wp_seq_k fun K5 hK5 => ?_
  refine rg mixed y4 zz4 ?_
  refine .i (sp_move (hbs rfl e4)) ?_
  refine .i (sp_assign (hlc rfl)) ?_
  refine .done ⟨by kernel_rfl, fun a6 g W6 y6 zz6 hk hg hV hR hP => ?_⟩
  obtain ⟨e2, -, -⟩ := hV
  have e2 : sl a6 2 = (.bool (utfOk t)) := e2
  replace kw := kw.x hk
  clear hR hk hg hP
  refine tail_nil (hK5 _ _ ?_)
  refine wp_ret ?_
  refine (show bodyPost Try.prog Try.f177 _ .ret _ _ from ret1 rfl zz6 e2 ⟨_, rfl, kw, ?_⟩)
  exact rfl
set_option maxRecDepth 100000 in
theorem written_ok (t : ByteArray) (w : World) : Calls Try.prog 169 #[.string t] w (Ret w fun u _ => u = .bool (wr t)) := by
  refine enter Try.func169 rfl Try.ntmps169 (lbr rfl) fun a0 y0 zz0 harg => ?_
  have e0 : sl a0 0 = (.string (t)) := harg 0 (lbr rfl)
  have kw := Keeps.refl All w
  clear harg
  refine wp_seq_k fun K1 hK1 => ?_
  refine rg mixed y0 zz0 ?_
  refine .i (sp_assign Has.cst) ?_
  refine .done ⟨by kernel_rfl, fun a2 g W2 y2 zz2 hk hg hV hR hP => ?_⟩
  obtain ⟨-, -⟩ := hV
  replace e0 := (hR 0 rfl).trans e0
  replace kw := kw.x hk
  clear hR hk hg hP
  refine tail_nil (hK1 _ _ ?_)
  refine wp_seq_k fun K3 hK3 => ?_
  refine rg mixed y2 zz2 ?_
  refine .i (sp_move (hbs rfl e0)) ?_
  refine .i (sp_lenS Try.underlying9 (hlc rfl)) ?_
  refine .i (sp_leq (hlc rfl) Has.cst) ?_
  refine .i (sp_move (hlc rfl)) ?_
  refine .e (t := 6) rfl (hlc rfl) (fun hg => sp_move (hbs rfl e0)) ?_
  refine .e (t := 6) (v := (.bool (utfOk t))) rfl (hlc rfl) (fun hg => sp_call1 (φ1 := Is (.string (t))) ent177 ((hlc rfl).undE hg) (fun g u1 W hk hgk h1 => by have h1 : u1 = _ := h1; subst u1; exact valid_ok (t) (by first | omega | (simp at hg; omega)) W)) ?_
  refine .i (sp_and (hlc rfl) ((hlc rfl).weak fun hq => hq)) ?_
  refine .i (sp_assign (hlc rfl)) ?_
  refine .done ⟨by kernel_rfl, fun a4 g W4 y4 zz4 hk hg hV hR hP => ?_⟩
  obtain ⟨e2, -, -, -, -, -, -, -, -⟩ := hV
  replace e2 := e2.q
  replace kw := kw.x hk
  clear hR hk hg hP
  refine tail_nil (hK3 _ _ ?_)
  refine wp_ret ?_
  refine (show bodyPost Try.prog Try.f169 _ .ret _ _ from ret1 rfl zz4 e2 ⟨_, rfl, kw, ?_⟩)
  congr 1; unfold wr; congr 1; exact decide_eq_decide.2 (by omega)
set_option maxRecDepth 100000 in
theorem proper_ok (x : V) (w : World) (S : BSet) (v : Value) (hv : Rd w S x.d v) : Calls Try.prog 151 #[v] w (Ret w fun u _ => u = .bool (properB x)) := by
  have hp := properG_eq x
  have hmn : x.ns.length ≤ maxLen := by obtain ⟨_, _, _, _, _, _, h, _⟩ := rdV_out hv; exact rd_lenS h
  simp only [maxLen] at hmn
  obtain ⟨cn0a, cn0c, ci0a, ci0c, ev, ht0, D_cn0, D_ci0⟩ := rdV_out (rd_arg hv)
  subst ev
  refine enter Try.func151 rfl Try.ntmps151 (lbr rfl) fun a0 y0 zz0 harg => ?_
  have e0 : sl a0 0 = (.agg #[(.int .u8 (x.k)), (.int .i64 (x.n)), (.string (x.t)), (.slice cn0a (x.ns.length) cn0c), (.slice ci0a (x.xs.length) ci0c)]) := harg 0 (lbr rfl)
  have kw := Keeps.refl All w
  clear harg
  refine wp_seq_k fun K1 hK1 => ?_
  refine rg mixed y0 zz0 ?_
  refine .boxOp (v := (.agg #[(.int .u8 (x.k)), (.int .i64 (x.n)), (.string (x.t)), (.slice cn0a (x.ns.length) cn0c), (.slice ci0a (x.xs.length) ci0c)])) (hbs rfl e0) ?_
  refine .i (sp_assign Has.cst) ?_
  refine .done ⟨by kernel_rfl, fun a2 g W2 y2 zz2 hk hg hV hR hP => ?_⟩
  obtain ⟨-, ⟨b1_2, e1, hb1, own_b1_2⟩, -⟩ := hV
  have lo_b1_2 : w.heap.size ≤ b1_2 := Nat.le_trans kw.size (hg.lo _ _ hb1)
  have own_b1_2 : Own W2 b1_2 [(.int .u8 (x.k)), (.int .i64 (x.n)), (.string (x.t)), (.slice cn0a (x.ns.length) cn0c), (.slice ci0a (x.xs.length) ci0c)] 33 := own_b1_2
  replace D_cn0 := sa_more D_cn0 hk [b1_2] (in_cons (hg.lo _ _ hb1) in_nil)
  replace D_ci0 := sa_more D_ci0 hk [b1_2] (in_cons (hg.lo _ _ hb1) in_nil)
  replace kw := kw.x hk
  clear hR hk hg hP hb1
  refine tail_nil (hK1 _ _ ?_)
  refine wp_seq_k fun K3 hK3 => ?_
  refine wp_seq_k fun K4 hK4 => ?_
  refine rg mixed y2 zz2 ?_
  refine .i (fo 0 (hbs rfl e1) Try.underlying33 rfl sz5 rfl) ?_
  refine .i (lo1 (hlc rfl) own_b1_2 trivial agg5 sz5 rfl) ?_
  refine .i (sp_neq (hlc rfl) Has.cst) ?_
  refine .i (sp_move (hlc rfl)) ?_
  refine .e (t := 8) rfl (hlc rfl) (fun hg => fo 0 (hbs rfl e1) Try.underlying33 rfl sz5 rfl) ?_
  refine .e (t := 8) rfl (hlc rfl) (fun hg => lo1 ((hlc rfl).undE hg) own_b1_2 trivial agg5 sz5 rfl) ?_
  refine .e (t := 8) rfl (hlc rfl) (fun hg => sp_neq ((hlc rfl).undE hg) Has.cst) ?_
  refine .i (sp_and (hlc rfl) ((hlc rfl).weak fun hq => hq)) ?_
  refine .i (sp_move (hlc rfl)) ?_
  refine .e (t := 13) rfl (hlc rfl) (fun hg => fo 1 (hbs rfl e1) Try.underlying33 rfl sz2 rfl) ?_
  refine .e (t := 13) rfl (hlc rfl) (fun hg => lo1 ((hlc rfl).undE hg) own_b1_2 trivial agg2 sz2 rfl) ?_
  refine .e (t := 13) rfl (hlc rfl) (fun hg => sp_neq ((hlc rfl).undE hg) Has.cst) ?_
  refine .i (sp_and (hlc rfl) ((hlc rfl).weak fun hq => hq)) ?_
  refine .i (sp_move (hlc rfl)) ?_
  refine .e (t := 18) rfl (hlc rfl) (fun hg => fo 0 (hbs rfl e1) Try.underlying33 rfl sz5 rfl) ?_
  refine .e (t := 18) rfl (hlc rfl) (fun hg => lo1 ((hlc rfl).undE hg) own_b1_2 trivial agg5 sz5 rfl) ?_
  refine .e (t := 18) rfl (hlc rfl) (fun hg => sp_neq ((hlc rfl).undE hg) Has.cst) ?_
  refine .e (t := 18) rfl (hlc rfl) (fun hg => sp_move ((hlc rfl).undE hg)) ?_
  refine .opEE (t := 22) (x := (x.k : Int) != (3 : Int)) (p := ((((x.k : Int) != (1 : Int)) && ((x.k : Int) != (2 : Int))) && ((x.n : Int) != (0 : Int))) = false) (φ := Is (.pointer (some ⟨b1_2, 2, none⟩))) rfl (hlc rfl) (st_is _) (fun hg => sp_fieldO (hbs rfl e1) Try.underlying33 rfl sz9 rfl) ?_
  refine .opEE (t := 22) (x := (x.k : Int) != (3 : Int)) (p := ((((x.k : Int) != (1 : Int)) && ((x.k : Int) != (2 : Int))) && ((x.n : Int) != (0 : Int))) = false) (φ := Is (.string (x.t))) rfl (hlc rfl) (st_is _) (fun hg => sp_loadO (v := (.string (x.t))) ((hlc rfl).undE hg) own_b1_2 trivial agg9 sz9 (lbr rfl) (fun h => by first | rfl | cases h) rfl) ?_
  refine .opEE (t := 22) (x := (x.k : Int) != (3 : Int)) (p := ((((x.k : Int) != (1 : Int)) && ((x.k : Int) != (2 : Int))) && ((x.n : Int) != (0 : Int))) = false) (φ := Is (.bool (!decide (x.t = (⟨#[]⟩ : ByteArray))))) rfl (hlc rfl) (st_is _) (fun hg => sp_sNeq ((hlc rfl).undE hg) Has.cst) ?_
  refine .e (t := 18) rfl (hlc rfl) (fun hg => sp_and ((hlc rfl).undE hg) ((hlc rfl).weak fun hq => ⟨hg, hq⟩)) ?_
  refine .i (sp_or (hlc rfl) ((hlc rfl).weak fun hq => hq)) ?_
  refine .done ⟨by kernel_rfl, fun a5 g W5 y5 zz5 hk hg hV hR hP => ?_⟩
  obtain ⟨e27, -, -, -, -, -, -, -, -, -, -, -, -, -, -, -, -, -, -, -, -, -, -, -⟩ := hV
  replace e1 := (hR 1 rfl).trans e1
  replace D_cn0 := D_cn0.ext hk
  replace D_ci0 := D_ci0.ext hk
  replace e27 := e27.q
  replace own_b1_2 := own_b1_2.ext hk
  replace kw := kw.x hk
  clear hR hk hg hP
  refine tail_nil (hK4 _ _ ?_)
  refine wp_cond_split e27 (fun hc => ?_) (fun hc => ?_)
  ·
   rw [hc, cond_true] at hp
   refine wp_seq_k fun K6 hK6 => ?_
   refine rg mixed y5 zz5 ?_
   refine .i (sp_assign Has.cst) ?_
   refine .done ⟨by kernel_rfl, fun a7 g W7 y7 zz7 hk hg hV hR hP => ?_⟩
   obtain ⟨e2, -⟩ := hV
   replace D_cn0 := D_cn0.ext hk
   replace D_ci0 := D_ci0.ext hk
   have e2 : sl a7 2 = (.bool (false)) := e2
   replace own_b1_2 := own_b1_2.ext hk
   replace kw := kw.x hk
   clear hR hk hg hP
   refine tail_nil (hK6 _ _ ?_)
   refine wp_ret ?_
   refine (show bodyPost Try.prog Try.f151 _ .ret _ _ from ret1 rfl zz7 e2 ⟨_, rfl, kw, ?_⟩)
   rw [hp]
  ·
   rw [hc, cond_false] at hp
   refine wp_skip (hK3 _ _ ?_)
   refine wp_seq_k fun K8 hK8 => ?_
   refine wp_seq_k fun K9 hK9 => ?_
   refine rg mixed y5 zz5 ?_
   refine .i (fo 0 (hbs rfl e1) Try.underlying33 rfl sz5 rfl) ?_
   refine .i (lo1 (hlc rfl) own_b1_2 trivial agg5 sz5 rfl) ?_
   refine .i (sp_neq (hlc rfl) Has.cst) ?_
   refine .i (sp_move (hlc rfl)) ?_
   refine .e (t := 31) rfl (hlc rfl) (fun hg => fo 3 (hbs rfl e1) Try.underlying33 rfl sz23 rfl) ?_
   refine .e (t := 31) rfl (hlc rfl) (fun hg => lo1 ((hlc rfl).undE hg) own_b1_2 trivial agg23 sz23 rfl) ?_
   refine .e (t := 31) rfl (hlc rfl) (fun hg => sp_lenSs Try.underlying23 (((hlc rfl).undE hg).dat D_cn0 sub_all)) ?_
   refine .e (t := 31) rfl (hlc rfl) (fun hg => sp_gtr ((hlc rfl).undE hg) Has.cst) ?_
   refine .i (sp_and (hlc rfl) ((hlc rfl).weak fun hq => hq)) ?_
   refine .i (sp_move (hlc rfl)) ?_
   refine .e (t := 37) rfl (hlc rfl) (fun hg => fo 0 (hbs rfl e1) Try.underlying33 rfl sz5 rfl) ?_
   refine .e (t := 37) rfl (hlc rfl) (fun hg => lo1 ((hlc rfl).undE hg) own_b1_2 trivial agg5 sz5 rfl) ?_
   refine .e (t := 37) rfl (hlc rfl) (fun hg => sp_neq ((hlc rfl).undE hg) Has.cst) ?_
   refine .e (t := 37) rfl (hlc rfl) (fun hg => sp_move ((hlc rfl).undE hg)) ?_
   refine .opEE (t := 41) (x := (x.k : Int) != (5 : Int)) (p := (((x.k : Int) != (5 : Int)) && (decide ((0 : Int) < (x.ns.length : Int)))) = false) (φ := Is (.pointer (some ⟨b1_2, 0, none⟩))) rfl (hlc rfl) (st_is _) (fun hg => sp_fieldO (hbs rfl e1) Try.underlying33 rfl sz5 rfl) ?_
   refine .opEE (t := 41) (x := (x.k : Int) != (5 : Int)) (p := (((x.k : Int) != (5 : Int)) && (decide ((0 : Int) < (x.ns.length : Int)))) = false) (φ := Is (.int .u8 (x.k))) rfl (hlc rfl) (st_is _) (fun hg => sp_loadO (v := (.int .u8 (x.k))) ((hlc rfl).undE hg) own_b1_2 trivial agg5 sz5 (lbr rfl) (fun h => by first | rfl | cases h) rfl) ?_
   refine .opEE (t := 41) (x := (x.k : Int) != (5 : Int)) (p := (((x.k : Int) != (5 : Int)) && (decide ((0 : Int) < (x.ns.length : Int)))) = false) (φ := Is (.bool ((x.k : Int) != (4 : Int)))) rfl (hlc rfl) (st_is _) (fun hg => sp_neq ((hlc rfl).undE hg) Has.cst) ?_
   refine .e (t := 37) rfl (hlc rfl) (fun hg => sp_and ((hlc rfl).undE hg) ((hlc rfl).weak fun hq => ⟨hg, hq⟩)) ?_
   refine .e (t := 37) rfl (hlc rfl) (fun hg => sp_move ((hlc rfl).undE hg)) ?_
   refine .opEE (t := 46) (x := ((x.k : Int) != (5 : Int)) && ((x.k : Int) != (4 : Int))) (p := (((x.k : Int) != (5 : Int)) && (decide ((0 : Int) < (x.ns.length : Int)))) = false) (φ := Is (.pointer (some ⟨b1_2, 4, none⟩))) rfl (hlc rfl) (st_is _) (fun hg => sp_fieldO (hbs rfl e1) Try.underlying33 rfl sz31 rfl) ?_
   refine .opEE (t := 46) (x := ((x.k : Int) != (5 : Int)) && ((x.k : Int) != (4 : Int))) (p := (((x.k : Int) != (5 : Int)) && (decide ((0 : Int) < (x.ns.length : Int)))) = false) (φ := Is (.slice ci0a (x.xs.length) ci0c)) rfl (hlc rfl) (st_is _) (fun hg => sp_loadO (v := (.slice ci0a (x.xs.length) ci0c)) ((hlc rfl).undE hg) own_b1_2 trivial agg31 sz31 (lbr rfl) (fun h => by first | rfl | cases h) rfl) ?_
   refine .opEE (t := 46) (x := ((x.k : Int) != (5 : Int)) && ((x.k : Int) != (4 : Int))) (p := (((x.k : Int) != (5 : Int)) && (decide ((0 : Int) < (x.ns.length : Int)))) = false) (φ := Is (.int .i64 (x.xs.length))) rfl (hlc rfl) (st_is _) (fun hg => sp_lenVs Try.underlying31 (((hlc rfl).undE hg).dat D_ci0 sub_all)) ?_
   refine .opEE (t := 46) (x := ((x.k : Int) != (5 : Int)) && ((x.k : Int) != (4 : Int))) (p := (((x.k : Int) != (5 : Int)) && (decide ((0 : Int) < (x.ns.length : Int)))) = false) (φ := Is (.bool (decide ((0 : Int) < (x.xs.length : Int))))) rfl (hlc rfl) (st_is _) (fun hg => sp_gtr ((hlc rfl).undE hg) Has.cst) ?_
   refine .e (t := 37) rfl (hlc rfl) (fun hg => sp_and ((hlc rfl).undE hg) ((hlc rfl).weak fun hq => ⟨hg, hq⟩)) ?_
   refine .i (sp_or (hlc rfl) ((hlc rfl).weak fun hq => hq)) ?_
   refine .done ⟨by kernel_rfl, fun a10 g W10 y10 zz10 hk hg hV hR hP => ?_⟩
   obtain ⟨e52, -, -, -, -, -, -, -, -, -, -, -, -, -, -, -, -, -, -, -, -, -, -, -, -, -⟩ := hV
   replace e1 := (hR 1 rfl).trans e1
   replace D_cn0 := D_cn0.ext hk
   replace D_ci0 := D_ci0.ext hk
   replace e52 := e52.q
   replace own_b1_2 := own_b1_2.ext hk
   replace kw := kw.x hk
   clear hR hk hg hP
   refine tail_nil (hK9 _ _ ?_)
   refine wp_cond_split e52 (fun hc => ?_) (fun hc => ?_)
   ·
    rw [hc, cond_true] at hp
    refine wp_seq_k fun K11 hK11 => ?_
    refine rg mixed y10 zz10 ?_
    refine .i (sp_assign Has.cst) ?_
    refine .done ⟨by kernel_rfl, fun a12 g W12 y12 zz12 hk hg hV hR hP => ?_⟩
    obtain ⟨e2, -⟩ := hV
    replace D_cn0 := D_cn0.ext hk
    replace D_ci0 := D_ci0.ext hk
    have e2 : sl a12 2 = (.bool (false)) := e2
    replace own_b1_2 := own_b1_2.ext hk
    replace kw := kw.x hk
    clear hR hk hg hP
    refine tail_nil (hK11 _ _ ?_)
    refine wp_ret ?_
    refine (show bodyPost Try.prog Try.f151 _ .ret _ _ from ret1 rfl zz12 e2 ⟨_, rfl, kw, ?_⟩)
    rw [hp]
   ·
    rw [hc, cond_false] at hp
    refine wp_skip (hK8 _ _ ?_)
    refine wp_seq_k fun K13 hK13 => ?_
    refine wp_seq_k fun K14 hK14 => ?_
    refine rg mixed y10 zz10 ?_
    refine .i (fo 0 (hbs rfl e1) Try.underlying33 rfl sz5 rfl) ?_
    refine .i (lo1 (hlc rfl) own_b1_2 trivial agg5 sz5 rfl) ?_
    refine .done ⟨by kernel_rfl, fun a15 g W15 y15 zz15 hk hg hV hR hP => ?_⟩
    obtain ⟨e54, -, -⟩ := hV
    replace e1 := (hR 1 rfl).trans e1
    replace D_cn0 := D_cn0.ext hk
    replace D_ci0 := D_ci0.ext hk
    have e54 : sl a15 54 = (.int .u8 (x.k)) := e54
    replace own_b1_2 := own_b1_2.ext hk
    replace kw := kw.x hk
    clear hR hk hg hP
    refine tail_nil (hK14 _ _ ?_)
    refine wp_block ?_
    refine wp_seq_k fun K16 hK16 => ?_
    refine rg mixed y15 zz15 ?_
    refine .i (sp_eql (hbs rfl e54) Has.cst) ?_
    refine .i (sp_assign (hlc rfl)) ?_
    refine .done ⟨by kernel_rfl, fun a17 g W17 y17 zz17 hk hg hV hR hP => ?_⟩
    obtain ⟨e55, -, -⟩ := hV
    replace e1 := (hR 1 rfl).trans e1
    replace e54 := (hR 54 rfl).trans e54
    replace D_cn0 := D_cn0.ext hk
    replace D_ci0 := D_ci0.ext hk
    have e55 : sl a17 55 = (.bool ((x.k : Int) == (1 : Int))) := e55
    replace own_b1_2 := own_b1_2.ext hk
    replace kw := kw.x hk
    clear hR hk hg hP
    refine tail_nil (hK16 _ _ ?_)
    refine wp_cond_split e55 (fun hc => ?_) (fun hc => ?_)
    ·
     rw [hc, cond_true] at hp
     refine wp_seq_k fun K18 hK18 => ?_
     refine rg mixed y17 zz17 ?_
     refine .i (fo 1 (hbs rfl e1) Try.underlying33 rfl sz2 rfl) ?_
     refine .i (lo1 (hlc rfl) own_b1_2 trivial agg2 sz2 rfl) ?_
     refine .i (sp_eql (hlc rfl) Has.cst) ?_
     refine .i (sp_move (hlc rfl)) ?_
     refine .e (t := 60) rfl (hlc rfl) (fun hg => fo 1 (hbs rfl e1) Try.underlying33 rfl sz2 rfl) ?_
     refine .e (t := 60) rfl (hlc rfl) (fun hg => lo1 ((hlc rfl).undE hg) own_b1_2 trivial agg2 sz2 rfl) ?_
     refine .e (t := 60) rfl (hlc rfl) (fun hg => sp_eql ((hlc rfl).undE hg) Has.cst) ?_
     refine .i (sp_or (hlc rfl) ((hlc rfl).weak fun hq => hq)) ?_
     refine .i (sp_assign (hlc rfl)) ?_
     refine .done ⟨by kernel_rfl, fun a19 g W19 y19 zz19 hk hg hV hR hP => ?_⟩
     obtain ⟨e2, -, -, -, -, -, -, -, -, -⟩ := hV
     replace D_cn0 := D_cn0.ext hk
     replace D_ci0 := D_ci0.ext hk
     replace e2 := e2.q
     replace own_b1_2 := own_b1_2.ext hk
     replace kw := kw.x hk
     clear hR hk hg hP
     refine tail_nil (hK18 _ _ ?_)
     refine wp_ret ?_
     refine (show bodyPost Try.prog Try.f151 _ .ret _ _ from ret1 rfl zz19 e2 ⟨_, rfl, kw, ?_⟩)
     rw [hp]
    ·
     rw [hc, cond_false] at hp
     refine wp_seq_k fun K20 hK20 => ?_
     refine wp_seq_k fun K21 hK21 => ?_
     refine rg mixed y17 zz17 ?_
     refine .i (sp_eql (hbs rfl e54) Has.cst) ?_
     refine .i (sp_assign (hlc rfl)) ?_
     refine .done ⟨by kernel_rfl, fun a22 g W22 y22 zz22 hk hg hV hR hP => ?_⟩
     obtain ⟨e65, -, -⟩ := hV
     replace e1 := (hR 1 rfl).trans e1
     replace e54 := (hR 54 rfl).trans e54
     replace D_cn0 := D_cn0.ext hk
     replace D_ci0 := D_ci0.ext hk
     have e65 : sl a22 65 = (.bool ((x.k : Int) == (2 : Int))) := e65
     replace own_b1_2 := own_b1_2.ext hk
     replace kw := kw.x hk
     clear hR hk hg hP
     refine tail_nil (hK21 _ _ ?_)
     refine wp_cond_split e65 (fun hc => ?_) (fun hc => ?_)
     ·
      rw [hc, cond_true] at hp
      have hc3 := hc
      refine wp_skip (hK20 _ _ ?_)
      refine wp_cond_split e65 (fun hc => ?_) (fun hc => ?_)
      ·
       refine wp_seq_k fun K23 hK23 => ?_
       refine rg mixed y22 zz22 ?_
       refine .i (sp_assign Has.cst) ?_
       refine .done ⟨by kernel_rfl, fun a24 g W24 y24 zz24 hk hg hV hR hP => ?_⟩
       obtain ⟨e2, -⟩ := hV
       replace D_cn0 := D_cn0.ext hk
       replace D_ci0 := D_ci0.ext hk
       have e2 : sl a24 2 = (.bool (true)) := e2
       replace own_b1_2 := own_b1_2.ext hk
       replace kw := kw.x hk
       clear hR hk hg hP
       refine tail_nil (hK23 _ _ ?_)
       refine wp_ret ?_
       refine (show bodyPost Try.prog Try.f151 _ .ret _ _ from ret1 rfl zz24 e2 ⟨_, rfl, kw, ?_⟩)
       rw [hp]
      ·
       rw [hc3] at hc; cases hc
     ·
      rw [hc, cond_false] at hp
      refine rg mixed y22 zz22 ?_
      refine .i (sp_eql (hbs rfl e54) Has.cst) ?_
      refine .i (sp_assign (hlc rfl)) ?_
      refine .done ⟨by kernel_rfl, fun a25 g W25 y25 zz25 hk hg hV hR hP => ?_⟩
      obtain ⟨e65, -, -⟩ := hV
      replace e1 := (hR 1 rfl).trans e1
      replace e54 := (hR 54 rfl).trans e54
      replace D_cn0 := D_cn0.ext hk
      replace D_ci0 := D_ci0.ext hk
      have e65 : sl a25 65 = (.bool ((x.k : Int) == (4 : Int))) := e65
      replace own_b1_2 := own_b1_2.ext hk
      replace kw := kw.x hk
      clear hR hk hg hP
      refine tail_nil (hK20 _ _ ?_)
      refine wp_cond_split e65 (fun hc => ?_) (fun hc => ?_)
      ·
       rw [hc, cond_true] at hp
       refine wp_seq_k fun K26 hK26 => ?_
       refine rg mixed y25 zz25 ?_
       refine .i (sp_assign Has.cst) ?_
       refine .done ⟨by kernel_rfl, fun a27 g W27 y27 zz27 hk hg hV hR hP => ?_⟩
       obtain ⟨e2, -⟩ := hV
       replace D_cn0 := D_cn0.ext hk
       replace D_ci0 := D_ci0.ext hk
       have e2 : sl a27 2 = (.bool (true)) := e2
       replace own_b1_2 := own_b1_2.ext hk
       replace kw := kw.x hk
       clear hR hk hg hP
       refine tail_nil (hK26 _ _ ?_)
       refine wp_ret ?_
       refine (show bodyPost Try.prog Try.f151 _ .ret _ _ from ret1 rfl zz27 e2 ⟨_, rfl, kw, ?_⟩)
       rw [hp]
      ·
       rw [hc, cond_false] at hp
       refine wp_seq_k fun K28 hK28 => ?_
       refine rg mixed y25 zz25 ?_
       refine .i (sp_eql (hbs rfl e54) Has.cst) ?_
       refine .i (sp_assign (hlc rfl)) ?_
       refine .done ⟨by kernel_rfl, fun a29 g W29 y29 zz29 hk hg hV hR hP => ?_⟩
       obtain ⟨e68, -, -⟩ := hV
       replace e1 := (hR 1 rfl).trans e1
       replace e54 := (hR 54 rfl).trans e54
       replace D_cn0 := D_cn0.ext hk
       replace D_ci0 := D_ci0.ext hk
       have e68 : sl a29 68 = (.bool ((x.k : Int) == (3 : Int))) := e68
       replace own_b1_2 := own_b1_2.ext hk
       replace kw := kw.x hk
       clear hR hk hg hP
       refine tail_nil (hK28 _ _ ?_)
       refine wp_cond_split e68 (fun hc => ?_) (fun hc => ?_)
       ·
        rw [hc, cond_true] at hp
        refine wp_seq_k fun K30 hK30 => ?_
        refine rg mixed y29 zz29 ?_
        refine .i (fo 2 (hbs rfl e1) Try.underlying33 rfl sz9 rfl) ?_
        refine .i (lo1 (hlc rfl) own_b1_2 trivial agg9 sz9 rfl) ?_
        refine .i (v := (.bool (wr x.t))) (sp_call1 (φ1 := Is (.string (x.t))) ent169 (hlc rfl) (fun g u1 W hk hgk h1 => by have h1 : u1 = _ := h1; subst u1; exact written_ok (x.t) W)) ?_
        refine .i (sp_assign (hlc rfl)) ?_
        refine .done ⟨by kernel_rfl, fun a31 g W31 y31 zz31 hk hg hV hR hP => ?_⟩
        obtain ⟨e2, -, -, -, -⟩ := hV
        replace D_cn0 := D_cn0.ext hk
        replace D_ci0 := D_ci0.ext hk
        have e2 : sl a31 2 = (.bool (wr x.t)) := e2
        replace own_b1_2 := own_b1_2.ext hk
        replace kw := kw.x hk
        clear hR hk hg hP
        refine tail_nil (hK30 _ _ ?_)
        refine wp_ret ?_
        refine (show bodyPost Try.prog Try.f151 _ .ret _ _ from ret1 rfl zz31 e2 ⟨_, rfl, kw, ?_⟩)
        rw [hp]
       ·
        rw [hc, cond_false] at hp
        refine wp_seq_k fun K32 hK32 => ?_
        refine rg mixed y29 zz29 ?_
        refine .i (sp_eql (hbs rfl e54) Has.cst) ?_
        refine .i (sp_assign (hlc rfl)) ?_
        refine .done ⟨by kernel_rfl, fun a33 g W33 y33 zz33 hk hg hV hR hP => ?_⟩
        obtain ⟨e73, -, -⟩ := hV
        replace e1 := (hR 1 rfl).trans e1
        replace D_cn0 := D_cn0.ext hk
        replace D_ci0 := D_ci0.ext hk
        have e73 : sl a33 73 = (.bool ((x.k : Int) == (5 : Int))) := e73
        replace own_b1_2 := own_b1_2.ext hk
        replace kw := kw.x hk
        clear hR hk hg hP
        refine tail_nil (hK32 _ _ ?_)
        refine wp_cond_split e73 (fun hc => ?_) (fun hc => ?_)
        ·
         rw [hc, cond_true] at hp
         refine wp_seq_k fun K34 hK34 => ?_
         refine wp_seq_k fun K35 hK35 => ?_
         refine rg mixed y33 zz33 ?_
         refine .i (fo 3 (hbs rfl e1) Try.underlying33 rfl sz23 rfl) ?_
         refine .i (lo1 (hlc rfl) own_b1_2 trivial agg23 sz23 rfl) ?_
         refine .i (sp_lenSs Try.underlying23 ((hlc rfl).dat D_cn0 sub_all)) ?_
         refine .i (fo 4 (hbs rfl e1) Try.underlying33 rfl sz31 rfl) ?_
         refine .i (lo1 (hlc rfl) own_b1_2 trivial agg31 sz31 rfl) ?_
         refine .i (sp_lenVs Try.underlying31 ((hlc rfl).dat D_ci0 sub_all)) ?_
         refine .i (sp_neq (hlc rfl) (hlc rfl)) ?_
         refine .i (sp_move (hlc rfl)) ?_
         refine .e (t := 82) rfl (hlc rfl) (fun hg => fo 3 (hbs rfl e1) Try.underlying33 rfl sz23 rfl) ?_
         refine .e (t := 82) rfl (hlc rfl) (fun hg => lo1 ((hlc rfl).undE hg) own_b1_2 trivial agg23 sz23 rfl) ?_
         refine .e (t := 82) (v := (.bool (asc x.ns))) rfl (hlc rfl) (fun hg => sp_call1 (φ1 := IsD (SA w S [b1_2]) (strsD (x.ns))) ent164 (((hlc rfl).undE hg).dat D_cn0 sub_all) (fun g u1 W hk hgk h1 => ascending_ok (x.ns) W _ _ h1)) ?_
         refine .e (t := 82) rfl (hlc rfl) (fun hg => sp_not ((hlc rfl).undE hg)) ?_
         refine .i (sp_or (hlc rfl) ((hlc rfl).weak fun hq => hq)) ?_
         refine .done ⟨by kernel_rfl, fun a36 g W36 y36 zz36 hk hg hV hR hP => ?_⟩
         obtain ⟨e87, -, -, -, -, -, -, -, -, -, -, -, -, -⟩ := hV
         replace e1 := (hR 1 rfl).trans e1
         replace D_cn0 := D_cn0.ext hk
         replace D_ci0 := D_ci0.ext hk
         replace e87 := e87.q
         replace own_b1_2 := own_b1_2.ext hk
         replace kw := kw.x hk
         clear hR hk hg hP
         refine tail_nil (hK35 _ _ ?_)
         refine wp_cond_split e87 (fun hc => ?_) (fun hc => ?_)
         ·
          rw [hc, cond_true] at hp
          refine wp_seq_k fun K37 hK37 => ?_
          refine rg mixed y36 zz36 ?_
          refine .i (sp_assign Has.cst) ?_
          refine .done ⟨by kernel_rfl, fun a38 g W38 y38 zz38 hk hg hV hR hP => ?_⟩
          obtain ⟨e2, -⟩ := hV
          replace D_cn0 := D_cn0.ext hk
          replace D_ci0 := D_ci0.ext hk
          have e2 : sl a38 2 = (.bool (false)) := e2
          replace own_b1_2 := own_b1_2.ext hk
          replace kw := kw.x hk
          clear hR hk hg hP
          refine tail_nil (hK37 _ _ ?_)
          refine wp_ret ?_
          refine (show bodyPost Try.prog Try.f151 _ .ret _ _ from ret1 rfl zz38 e2 ⟨_, rfl, kw, ?_⟩)
          rw [hp]
         ·
          rw [hc, cond_false] at hp
          refine wp_skip (hK34 _ _ ?_)
          refine wp_seq_k fun K39 hK39 => ?_
          refine wp_seq_k fun K40 hK40 => ?_
          refine rg mixed y36 zz36 ?_
          refine .i (fo 3 (hbs rfl e1) Try.underlying33 rfl sz23 rfl) ?_
          refine .i (lo1 (hlc rfl) own_b1_2 trivial agg23 sz23 rfl) ?_
          refine .i (sp_lenSs Try.underlying23 ((hlc rfl).dat D_cn0 sub_all)) ?_
          refine .i (sp_move Has.cst) ?_
          refine .done ⟨by kernel_rfl, fun a41 g W41 y41 zz41 hk hg hV hR hP => ?_⟩
          obtain ⟨e91, e90, e89, -, -⟩ := hV
          replace D_cn0 := D_cn0.ext hk
          replace D_ci0 := D_ci0.ext hk
          have e89 : sl a41 89 = (.slice cn0a (x.ns.length) cn0c) := e89
          have e90 : sl a41 90 = (.int .i64 (x.ns.length)) := e90
          have e91 : sl a41 91 = (.int .i64 (0)) := e91
          replace own_b1_2 := own_b1_2.ext hk
          replace kw := kw.x hk
          clear hR hk hg hP
          refine tail_nil (hK40 _ _ ?_)
          refine wp_block ?_
          replace D_cn0 := sa_less (M' := []) D_cn0 ls_nil
          refine wp_for (x.ns.length) (fun k a W => a.tmps.size = 99 ∧ a.defers = [] ∧ Keeps All w W ∧ sl a 89 = (.slice cn0a (x.ns.length) cn0c) ∧ sl a 90 = (.int .i64 (x.ns.length)) ∧ sl a 91 = (.int .i64 ((k : Nat))) ∧ Rd W (SA w S []) (strsD (x.ns)) (.slice cn0a (x.ns.length) cn0c) ∧ (∀ i (h1 : i < x.ns.length), i < k → wr x.ns[i] = true)) ⟨y41, zz41, kw, e89, e90, (e91.trans (congrArg (Value.int .i64) (rfl))), D_cn0, fun i h1 hi => absurd hi (by omega)⟩ ?_
          clear kw e89 e90 e91 D_cn0
          rintro k a42 W42 hkk ⟨y42, zz42, kw, e89, e90, e91, D_cn0, hinv⟩
          refine wp_seq_k fun K43 hK43 => ?_
          refine rg mixed y42 zz42 ?_
          refine .i (sp_lss (hbs rfl e91) (hbs rfl e90)) ?_
          refine .done ⟨by kernel_rfl, fun a44 g W44 y44 zz44 hk hg hV hR hP => ?_⟩
          obtain ⟨e92, -⟩ := hV
          replace e89 := (hR 89 rfl).trans e89
          replace e90 := (hR 90 rfl).trans e90
          replace e91 := (hR 91 rfl).trans e91
          replace D_cn0 := D_cn0.ext hk
          replace e92 := e92.q
          replace kw := kw.x hk
          clear hR hk hg hP
          refine tail_nil (hK43 _ _ ?_)
          refine wp_seq_k fun K45 hK45 => ?_
          refine wp_cond_split e92 (fun hc => ?_) (fun hc => ?_)
          ·
           have hlt : k < x.ns.length := by simpa using hc
           refine wp_skip (hK45 _ _ ?_)
           refine wp_seq_k fun K46 hK46 => ?_
           refine wp_block ?_
           refine wp_seq_k fun K47 hK47 => ?_
           refine rg mixed y44 zz44 ?_
           refine .rf (sp_indexS (i := k) ((hbs rfl e89).dat D_cn0 sub_all) (hbs rfl e91) Try.underlying23 sz9 rfl hlt) ?_
           refine .i (sp_loadStr (hlc rfl) agg9 sz9) ?_
           refine .i (sp_assign (hlc rfl)) ?_
           refine .done ⟨by kernel_rfl, fun a48 g W48 y48 zz48 hk hg hV hR hP => ?_⟩
           obtain ⟨e4, -, -, -⟩ := hV
           replace e89 := (hR 89 rfl).trans e89
           replace e90 := (hR 90 rfl).trans e90
           replace e91 := (hR 91 rfl).trans e91
           replace D_cn0 := D_cn0.ext hk
           have e4 : sl a48 4 = (.string (x.ns[k]'hlt)) := e4
           replace kw := kw.x hk
           clear hR hk hg hP
           refine tail_nil (hK47 _ _ ?_)
           refine wp_seq_k fun K49 hK49 => ?_
           refine rg mixed y48 zz48 ?_
           refine .i (sp_move (hbs rfl e4)) ?_
           refine .i (v := (.bool (wr (x.ns[k]'hlt)))) (sp_call1 (φ1 := Is (.string (x.ns[k]'hlt))) ent169 (hlc rfl) (fun g u1 W hk hgk h1 => by have h1 : u1 = _ := h1; subst u1; exact written_ok (x.ns[k]'hlt) W)) ?_
           refine .i (sp_not (hlc rfl)) ?_
           refine .done ⟨by kernel_rfl, fun a50 g W50 y50 zz50 hk hg hV hR hP => ?_⟩
           obtain ⟨e97, -, -, -⟩ := hV
           replace e89 := (hR 89 rfl).trans e89
           replace e90 := (hR 90 rfl).trans e90
           replace e91 := (hR 91 rfl).trans e91
           replace D_cn0 := D_cn0.ext hk
           have e97 : sl a50 97 = (.bool (!(wr (x.ns[k]'hlt)))) := e97
           replace kw := kw.x hk
           clear hR hk hg hP
           refine tail_nil (hK49 _ _ ?_)
           refine wp_cond_split e97 (fun hc => ?_) (fun hc => ?_)
           ·
            rw [List.all_eq_false.2 ⟨_, List.getElem_mem hlt, by simpa using hc⟩] at hp
            refine wp_seq_k fun K51 hK51 => ?_
            refine rg mixed y50 zz50 ?_
            refine .i (sp_assign Has.cst) ?_
            refine .done ⟨by kernel_rfl, fun a52 g W52 y52 zz52 hk hg hV hR hP => ?_⟩
            obtain ⟨e2, -⟩ := hV
            replace D_cn0 := D_cn0.ext hk
            have e2 : sl a52 2 = (.bool (false)) := e2
            replace kw := kw.x hk
            clear hR hk hg hP
            refine tail_nil (hK51 _ _ ?_)
            refine wp_ret ?_
            refine (show bodyPost Try.prog Try.f151 _ .ret _ _ from ret1 rfl zz52 e2 ⟨_, rfl, kw, ?_⟩)
            rw [hp]
           ·
            have hk1 : wr x.ns[k] = true := by simpa using hc
            refine wp_skip (hK46 _ _ ?_)
            refine rg mixed y50 zz50 ?_
            refine .i (sp_add (hbs rfl e91) Has.cst (i64_in (by omega))) ?_
            refine .i (sp_move (hlc rfl)) ?_
            refine .done ⟨by kernel_rfl, fun a53 g W53 y53 zz53 hk hg hV hR hP => ?_⟩
            obtain ⟨e91, -, -⟩ := hV
            replace e89 := (hR 89 rfl).trans e89
            replace e90 := (hR 90 rfl).trans e90
            replace D_cn0 := D_cn0.ext hk
            replace e91 := e91.q
            replace kw := kw.x hk
            clear hR hk hg hP
            exact tail_nil ⟨hlt, y53, zz53, kw, e89, e90, (e91.trans (congrArg (Value.int .i64) (by simp))), D_cn0, fun i h1 hi => by rcases Nat.lt_succ_iff_lt_or_eq.1 hi with h | h; exact hinv i h1 h; subst h; exact hk1⟩
          ·
           have hge0 : ¬ k < x.ns.length := by simpa using hc
           have hge : k = x.ns.length := by omega
           rw [List.all_eq_true.2 (fun q hq => by obtain ⟨i, h1, rfl⟩ := List.getElem_of_mem hq; exact hinv i h1 (by omega))] at hp
           refine wp_exit (hK39 _ _ ?_)
           refine wp_seq_k fun K54 hK54 => ?_
           refine rg mixed y44 zz44 ?_
           refine .i (sp_assign Has.cst) ?_
           refine .done ⟨by kernel_rfl, fun a55 g W55 y55 zz55 hk hg hV hR hP => ?_⟩
           obtain ⟨e2, -⟩ := hV
           replace D_cn0 := D_cn0.ext hk
           have e2 : sl a55 2 = (.bool (true)) := e2
           replace kw := kw.x hk
           clear hR hk hg hP
           refine tail_nil (hK54 _ _ ?_)
           refine wp_ret ?_
           refine (show bodyPost Try.prog Try.f151 _ .ret _ _ from ret1 rfl zz55 e2 ⟨_, rfl, kw, ?_⟩)
           rw [hp]
        ·
         rw [hc, cond_false] at hp
         refine wp_skip (hK13 _ _ ?_)
         refine wp_seq_k fun K56 hK56 => ?_
         refine rg mixed y33 zz33 ?_
         refine .i (sp_assign Has.cst) ?_
         refine .done ⟨by kernel_rfl, fun a57 g W57 y57 zz57 hk hg hV hR hP => ?_⟩
         obtain ⟨e2, -⟩ := hV
         replace D_cn0 := D_cn0.ext hk
         replace D_ci0 := D_ci0.ext hk
         have e2 : sl a57 2 = (.bool (false)) := e2
         replace own_b1_2 := own_b1_2.ext hk
         replace kw := kw.x hk
         clear hR hk hg hP
         refine tail_nil (hK56 _ _ ?_)
         refine wp_ret ?_
         refine (show bodyPost Try.prog Try.f151 _ .ret _ _ from ret1 rfl zz57 e2 ⟨_, rfl, kw, ?_⟩)
         rw [hp]
end Go.Proofs.Ytnobijngkpflcaa
namespace Go.Proofs.Ytnobijngkpflcaa
open Go.Eng
set_option maxRecDepth 100000 in
theorem may_all : ∀ (n : Nat) (x : V), x.cnt ≤ n → n ≤ 1073741824 → ∀ (nested : Nat) (left : Int), nested ≤ 12 → 0 ≤ left → left ≤ 8192 → ∀ (w : World) (S : BSet) (v : Value) (bL : Nat), (∀ o, ¬ S bL o) → Own w bL [.int .i64 left] 3 → Rd w S x.d v →
    Calls Try.prog 134 #[v, .int .i64 nested, .pointer (some ⟨bL, 0, none⟩)] w (RetB w bL fun u w' => u = .bool (mayV x nested left).1 ∧ Own w' bL [.int .i64 (mayV x nested left).2] 3) := by
  intro n
  induction n with
  | zero => intro x hx; cases x; simp [V.cnt] at hx
  | succ n ih =>
  intro x hx hn nested left hnst hl0 hl w S v bL hbL own_bL hv
  have hM : ∀ b ∈ [bL], ∀ o, ¬ S b o := by simpa using hbL
  have hcx := cnt_eq x
  have hlx := len_cnts x.xs
  have hme := mayV_eq x nested left
  obtain ⟨cn0a, cn0c, ci0a, ci0c, ev, ht0, D_cn0, D_ci0⟩ := rdV_out (rd_argM (M := [bL]) hv hM)
  subst ev
  refine enter Try.func134 rfl Try.ntmps134 (lbr rfl) fun a0 y0 zz0 harg => ?_
  have e0 : sl a0 0 = (.agg #[(.int .u8 (x.k)), (.int .i64 (x.n)), (.string (x.t)), (.slice cn0a (x.ns.length) cn0c), (.slice ci0a (x.xs.length) ci0c)]) := harg 0 (lbr rfl)
  have e1 : sl a0 1 = (.int .i64 ((nested : Nat))) := harg 1 (lbr rfl)
  have e2 : sl a0 2 = (.pointer (some ⟨bL, 0, none⟩)) := harg 2 (lbr rfl)
  have kw := Keeps.refl (fun k => k ≠ bL) w
  clear harg
  refine wp_seq_k fun K1 hK1 => ?_
  refine rg mixed y0 zz0 ?_
  refine .boxOp (v := (.agg #[(.int .u8 (x.k)), (.int .i64 (x.n)), (.string (x.t)), (.slice cn0a (x.ns.length) cn0c), (.slice ci0a (x.xs.length) ci0c)])) (hbs rfl e0) ?_
  refine .i (sp_assign Has.cst) ?_
  refine .done ⟨by kernel_rfl, fun a2 g W2 y2 zz2 hk hg hV hR hP => ?_⟩
  obtain ⟨-, ⟨b3_2, e3, hb3, own_b3_2⟩, -⟩ := hV
  have lo_b3_2 : w.heap.size ≤ b3_2 := Nat.le_trans kw.size (hg.lo _ _ hb3)
  have ne_bL_b3_2 : bL ≠ b3_2 := Nat.ne_of_lt (Nat.lt_of_lt_of_le own_bL.lt (hg.lo _ _ hb3))
  have own_b3_2 : Own W2 b3_2 [(.int .u8 (x.k)), (.int .i64 (x.n)), (.string (x.t)), (.slice cn0a (x.ns.length) cn0c), (.slice ci0a (x.xs.length) ci0c)] 33 := own_b3_2
  replace e1 := (hR 1 rfl).trans e1
  replace e2 := (hR 2 rfl).trans e2
  replace D_cn0 := sa_more D_cn0 hk [b3_2] (in_cons (hg.lo _ _ hb3) in_nil)
  replace D_ci0 := sa_more D_ci0 hk [b3_2] (in_cons (hg.lo _ _ hb3) in_nil)
  replace own_bL := own_bL.ext hk
  replace kw := kw.x hk
  clear hR hk hg hP hb3
  refine tail_nil (hK1 _ _ ?_)
  refine wp_seq_k fun K3 hK3 => ?_
  refine rg mixed y2 zz2 ?_
  refine .i (sp_move (hbs rfl e2)) ?_
  refine .i (sp_nilP (hlc rfl)) ?_
  refine .i (lo1 (hlc rfl) own_bL trivial agg3 sz3 rfl) ?_
  refine .i (sp_sub (hlc rfl) Has.cst (i64_in (by omega))) ?_
  refine .i (sp_nilP (hlc rfl)) ?_
  refine .done ⟨by kernel_rfl, fun a4 g W4 y4 zz4 hk hg hV hR hP => ?_⟩
  obtain ⟨e13, e12, -, -, -, -⟩ := hV
  replace e1 := (hR 1 rfl).trans e1
  replace e2 := (hR 2 rfl).trans e2
  replace e3 := (hR 3 rfl).trans e3
  replace D_cn0 := D_cn0.ext hk
  replace D_ci0 := D_ci0.ext hk
  have e12 : sl a4 12 = (.int .i64 ((left : Int) - (1 : Int))) := e12
  have e13 : sl a4 13 = (.pointer (some ⟨bL, 0, none⟩)) := e13
  replace own_bL := own_bL.ext hk
  replace own_b3_2 := own_b3_2.ext hk
  replace kw := kw.x hk
  clear hR hk hg hP
  refine tail_store (b := bL) (o := 0) (v := (.int .i64 ((left : Int) - (1 : Int)))) e13 e12 sz3 rfl own_bL (lbr rfl) (all_cons rfl all_nil) (fun W5 hs own_bL => ?_)
  have own_bL : Own W5 bL [(.int .i64 ((left : Int) - (1 : Int)))] 3 := own_bL
  replace own_b3_2 := own_store own_b3_2 hs ne_bL_b3_2.symm
  replace D_cn0 := sa_store D_cn0 hs (by simp)
  replace D_ci0 := sa_store D_ci0 hs (by simp)
  replace kw := kw.trans hs
  clear hs
  refine tail_nil (hK3 _ _ ?_)
  refine wp_seq_k fun K6 hK6 => ?_
  refine wp_seq_k fun K7 hK7 => ?_
  refine rg mixed y4 zz4 ?_
  refine .i (sp_move (hbs rfl e2)) ?_
  refine .i (sp_nilP (hlc rfl)) ?_
  refine .i (lo1 (hlc rfl) own_bL trivial agg3 sz3 rfl) ?_
  refine .i (sp_lss (hlc rfl) Has.cst) ?_
  refine .i (sp_move (hlc rfl)) ?_
  refine .e (t := 18) (v := (.agg #[(.int .u8 (x.k)), (.int .i64 (x.n)), (.string (x.t)), (.slice cn0a (x.ns.length) cn0c), (.slice ci0a (x.xs.length) ci0c)])) rfl (hlc rfl) (fun hg => loA (hbs rfl e3) own_b3_2 trivial agg33 sz33 rfl rfl) ?_
  refine .e (t := 18) (v := (.bool (properB (x)))) rfl (hlc rfl) (fun hg => sp_call1 (φ1 := IsD (SA w S [b3_2, bL]) (V.d (x))) ent151 (((hlc rfl).undE hg).dat (rdV_in (x := x) ht0 D_cn0 D_ci0 : Rd W5 (SA w S [b3_2, bL]) (V.d (x)) _) sub_all) (fun g u1 W hk hgk h1 => proper_ok (x) W _ _ h1)) ?_
  refine .e (t := 18) rfl (hlc rfl) (fun hg => sp_not ((hlc rfl).undE hg)) ?_
  refine .i (sp_or (hlc rfl) ((hlc rfl).weak fun hq => hq)) ?_
  refine .done ⟨by kernel_rfl, fun a8 g W8 y8 zz8 hk hg hV hR hP => ?_⟩
  obtain ⟨e22, -, -, -, -, -, -, -, -, -⟩ := hV
  replace e1 := (hR 1 rfl).trans e1
  replace e2 := (hR 2 rfl).trans e2
  replace e3 := (hR 3 rfl).trans e3
  replace D_cn0 := D_cn0.ext hk
  replace D_ci0 := D_ci0.ext hk
  replace e22 := e22.q
  replace own_bL := own_bL.ext hk
  replace own_b3_2 := own_b3_2.ext hk
  replace kw := kw.x hk
  clear hR hk hg hP
  refine tail_nil (hK7 _ _ ?_)
  refine wp_cond_split e22 (fun hc => ?_) (fun hc => ?_)
  ·
   rw [if_pos (by rcases (Bool.or_eq_true _ _).mp hc with h | h; exact .inl (of_decide_eq_true h); exact .inr (by simpa using h))] at hme
   have hfin := hme
   refine wp_seq_k fun K9 hK9 => ?_
   refine rg mixed y8 zz8 ?_
   refine .i (sp_assign Has.cst) ?_
   refine .done ⟨by kernel_rfl, fun a10 g W10 y10 zz10 hk hg hV hR hP => ?_⟩
   obtain ⟨e6, -⟩ := hV
   replace D_cn0 := D_cn0.ext hk
   replace D_ci0 := D_ci0.ext hk
   have e6 : sl a10 6 = (.bool (false)) := e6
   replace own_bL := own_bL.ext hk
   replace own_b3_2 := own_b3_2.ext hk
   replace kw := kw.x hk
   clear hR hk hg hP
   refine tail_nil (hK9 _ _ ?_)
   refine wp_ret ?_
   refine (show bodyPost Try.prog Try.f134 _ .ret _ _ from ret1 rfl zz10 e6 ⟨_, rfl, kw, ?_⟩)
   rw [hfin]
   exact ⟨rfl, own_bL⟩
  ·
   have hd := of_decide_eq_false (Bool.or_eq_false_iff.1 hc).1
   have hpp : properB x = true := by simpa using (Bool.or_eq_false_iff.1 hc).2
   rw [if_neg (by rintro (h | h); exact hd h; rw [hpp] at h; cases h)] at hme
   refine wp_skip (hK6 _ _ ?_)
   refine wp_seq_k fun K11 hK11 => ?_
   refine wp_seq_k fun K12 hK12 => ?_
   refine rg mixed y8 zz8 ?_
   refine .i (fo 0 (hbs rfl e3) Try.underlying33 rfl sz5 rfl) ?_
   refine .i (lo1 (hlc rfl) own_b3_2 trivial agg5 sz5 rfl) ?_
   refine .i (sp_neq (hlc rfl) Has.cst) ?_
   refine .i (sp_move (hlc rfl)) ?_
   refine .e (t := 26) rfl (hlc rfl) (fun hg => fo 0 (hbs rfl e3) Try.underlying33 rfl sz5 rfl) ?_
   refine .e (t := 26) rfl (hlc rfl) (fun hg => lo1 ((hlc rfl).undE hg) own_b3_2 trivial agg5 sz5 rfl) ?_
   refine .e (t := 26) rfl (hlc rfl) (fun hg => sp_neq ((hlc rfl).undE hg) Has.cst) ?_
   refine .i (sp_and (hlc rfl) ((hlc rfl).weak fun hq => hq)) ?_
   refine .done ⟨by kernel_rfl, fun a13 g W13 y13 zz13 hk hg hV hR hP => ?_⟩
   obtain ⟨e30, -, -, -, -, -, -, -, -⟩ := hV
   replace e1 := (hR 1 rfl).trans e1
   replace e2 := (hR 2 rfl).trans e2
   replace e3 := (hR 3 rfl).trans e3
   replace D_cn0 := D_cn0.ext hk
   replace D_ci0 := D_ci0.ext hk
   replace e30 := e30.q
   replace own_bL := own_bL.ext hk
   replace own_b3_2 := own_b3_2.ext hk
   replace kw := kw.x hk
   clear hR hk hg hP
   refine tail_nil (hK12 _ _ ?_)
   refine wp_cond_split e30 (fun hc => ?_) (fun hc => ?_)
   ·
    rw [if_pos (by simp at hc; omega)] at hme
    have hfin := hme
    refine wp_seq_k fun K14 hK14 => ?_
    refine rg mixed y13 zz13 ?_
    refine .i (sp_assign Has.cst) ?_
    refine .done ⟨by kernel_rfl, fun a15 g W15 y15 zz15 hk hg hV hR hP => ?_⟩
    obtain ⟨e6, -⟩ := hV
    replace D_cn0 := D_cn0.ext hk
    replace D_ci0 := D_ci0.ext hk
    have e6 : sl a15 6 = (.bool (true)) := e6
    replace own_bL := own_bL.ext hk
    replace own_b3_2 := own_b3_2.ext hk
    replace kw := kw.x hk
    clear hR hk hg hP
    refine tail_nil (hK14 _ _ ?_)
    refine wp_ret ?_
    refine (show bodyPost Try.prog Try.f134 _ .ret _ _ from ret1 rfl zz15 e6 ⟨_, rfl, kw, ?_⟩)
    rw [hfin]
    exact ⟨rfl, own_bL⟩
   ·
    rw [if_neg (by simp at hc; omega)] at hme
    refine wp_skip (hK11 _ _ ?_)
    refine wp_seq_k fun K16 hK16 => ?_
    refine wp_seq_k fun K17 hK17 => ?_
    refine rg mixed y13 zz13 ?_
    refine .i (sp_move (hbs rfl e1)) ?_
    refine .i (sp_eql (hlc rfl) Has.cst) ?_
    refine .done ⟨by kernel_rfl, fun a18 g W18 y18 zz18 hk hg hV hR hP => ?_⟩
    obtain ⟨e32, -, -⟩ := hV
    replace e1 := (hR 1 rfl).trans e1
    replace e2 := (hR 2 rfl).trans e2
    replace e3 := (hR 3 rfl).trans e3
    replace D_cn0 := D_cn0.ext hk
    replace D_ci0 := D_ci0.ext hk
    replace e32 := e32.q
    replace own_bL := own_bL.ext hk
    replace own_b3_2 := own_b3_2.ext hk
    replace kw := kw.x hk
    clear hR hk hg hP
    refine tail_nil (hK17 _ _ ?_)
    refine wp_cond_split e32 (fun hc => ?_) (fun hc => ?_)
    ·
     rw [if_pos (by simp at hc; omega)] at hme
     have hfin := hme
     refine wp_seq_k fun K19 hK19 => ?_
     refine rg mixed y18 zz18 ?_
     refine .i (sp_assign Has.cst) ?_
     refine .done ⟨by kernel_rfl, fun a20 g W20 y20 zz20 hk hg hV hR hP => ?_⟩
     obtain ⟨e6, -⟩ := hV
     replace D_cn0 := D_cn0.ext hk
     replace D_ci0 := D_ci0.ext hk
     have e6 : sl a20 6 = (.bool (false)) := e6
     replace own_bL := own_bL.ext hk
     replace own_b3_2 := own_b3_2.ext hk
     replace kw := kw.x hk
     clear hR hk hg hP
     refine tail_nil (hK19 _ _ ?_)
     refine wp_ret ?_
     refine (show bodyPost Try.prog Try.f134 _ .ret _ _ from ret1 rfl zz20 e6 ⟨_, rfl, kw, ?_⟩)
     rw [hfin]
     exact ⟨rfl, own_bL⟩
    ·
     have hnz : ¬ nested = 0 := by simp at hc; omega
     rw [if_neg hnz] at hme
     refine wp_skip (hK16 _ _ ?_)
     refine wp_seq_k fun K21 hK21 => ?_
     refine wp_seq_k fun K22 hK22 => ?_
     refine rg mixed y18 zz18 ?_
     refine .i (fo 4 (hbs rfl e3) Try.underlying33 rfl sz31 rfl) ?_
     refine .i (lo1 (hlc rfl) own_b3_2 trivial agg31 sz31 rfl) ?_
     refine .i (sp_lenVs Try.underlying31 ((hlc rfl).dat D_ci0 sub_all)) ?_
     refine .i (sp_move Has.cst) ?_
     refine .done ⟨by kernel_rfl, fun a23 g W23 y23 zz23 hk hg hV hR hP => ?_⟩
     obtain ⟨e36, e35, e34, -, -⟩ := hV
     replace e1 := (hR 1 rfl).trans e1
     replace e2 := (hR 2 rfl).trans e2
     replace D_cn0 := D_cn0.ext hk
     replace D_ci0 := D_ci0.ext hk
     have e34 : sl a23 34 = (.slice ci0a (x.xs.length) ci0c) := e34
     have e35 : sl a23 35 = (.int .i64 (x.xs.length)) := e35
     have e36 : sl a23 36 = (.int .i64 (0)) := e36
     replace own_bL := own_bL.ext hk
     replace own_b3_2 := own_b3_2.ext hk
     replace kw := kw.x hk
     clear hR hk hg hP
     refine tail_nil (hK22 _ _ ?_)
     refine wp_block ?_
     replace D_ci0 := sa_less (M' := [bL]) D_ci0 (ls_skip (ls_keep ls_nil))
     refine wp_for (x.xs.length) (fun k a W => ∃ (l2 : Int), a.tmps.size = 47 ∧ a.defers = [] ∧ Keeps (fun k => k ≠ bL) w W ∧ sl a 1 = (.int .i64 ((nested : Nat))) ∧ sl a 2 = (.pointer (some ⟨bL, 0, none⟩)) ∧ sl a 34 = (.slice ci0a (x.xs.length) ci0c) ∧ sl a 35 = (.int .i64 (x.xs.length)) ∧ sl a 36 = (.int .i64 ((k : Nat))) ∧ Own W bL [(.int .i64 (l2))] 3 ∧ Rd W (SA w S [bL]) (valsD (x.xs)) (.slice ci0a (x.xs.length) ci0c) ∧ (mayL x.xs (nested - 1) (left - 1) = mayL (x.xs.drop k) (nested - 1) l2) ∧ (0 ≤ l2) ∧ (l2 ≤ left)) ⟨(left - 1), y23, zz23, kw, e1, e2, e34, e35, (e36.trans (congrArg (Value.int .i64) (rfl))), own_bL, D_ci0, rfl, by omega, by omega⟩ ?_
     clear kw e1 e2 e34 e35 e36 own_bL D_ci0
     rintro k a24 W24 hkk ⟨l2, y24, zz24, kw, e1, e2, e34, e35, e36, own_bL, D_ci0, hin, hl2, hl3⟩
     refine wp_seq_k fun K25 hK25 => ?_
     refine rg mixed y24 zz24 ?_
     refine .i (sp_lss (hbs rfl e36) (hbs rfl e35)) ?_
     refine .done ⟨by kernel_rfl, fun a26 g W26 y26 zz26 hk hg hV hR hP => ?_⟩
     obtain ⟨e37, -⟩ := hV
     replace e1 := (hR 1 rfl).trans e1
     replace e2 := (hR 2 rfl).trans e2
     replace e34 := (hR 34 rfl).trans e34
     replace e35 := (hR 35 rfl).trans e35
     replace e36 := (hR 36 rfl).trans e36
     replace D_ci0 := D_ci0.ext hk
     replace e37 := e37.q
     replace own_bL := own_bL.ext hk
     replace kw := kw.x hk
     clear hR hk hg hP
     refine tail_nil (hK25 _ _ ?_)
     refine wp_seq_k fun K27 hK27 => ?_
     refine wp_cond_split e37 (fun hc => ?_) (fun hc => ?_)
     ·
      have hlt : k < x.xs.length := by simpa using hc
      have hdr := List.drop_eq_getElem_cons hlt
      rw [hdr, mayL] at hin
      have hce := cnt_elem hlt
      have hvl := mayV_le x.xs[k] (nested - 1) l2 hl2
      refine wp_skip (hK27 _ _ ?_)
      refine wp_seq_k fun K28 hK28 => ?_
      refine wp_block ?_
      refine wp_seq_k fun K29 hK29 => ?_
      refine rg mixed y26 zz26 ?_
      refine .rf (sp_indexV (i := k) ((hbs rfl e34).dat D_ci0 sub_all) (hbs rfl e36) Try.underlying31 sz33 rfl hlt) ?_
      refine .da (sp_loadV (hlc rfl) agg33 sz33) ?_
      refine .alloc z33 ?_
      refine .done ⟨by kernel_rfl, fun a30 g W30 y30 zz30 hk hg hV hR hP => ?_⟩
      obtain ⟨⟨b8_30, e8, hb8, own_b8_30⟩, e39, -, -⟩ := hV
      have lo_b8_30 : w.heap.size ≤ b8_30 := Nat.le_trans kw.size (hg.lo _ _ hb8)
      have ne_bL_b8_30 : bL ≠ b8_30 := Nat.ne_of_lt (Nat.lt_of_lt_of_le own_bL.lt (hg.lo _ _ hb8))
      have own_b8_30 : Own W30 b8_30 [(.int .u8 (0)), (.int .i64 (0)), (.string (⟨#[]⟩)), (.slice none 0 0), (.slice none 0 0)] 33 := own_b8_30
      replace e1 := (hR 1 rfl).trans e1
      replace e2 := (hR 2 rfl).trans e2
      replace e34 := (hR 34 rfl).trans e34
      replace e35 := (hR 35 rfl).trans e35
      replace e36 := (hR 36 rfl).trans e36
      replace D_ci0 := sa_more D_ci0 hk [b8_30] (in_cons (hg.lo _ _ hb8) in_nil)
      obtain ⟨v39_30, ev⟩ : ∃ v, sl a30 39 = v := ⟨_, rfl⟩
      rw [ev] at e39
      have D_v39_30 : Rd W30 (SA w S [b8_30, bL]) (V.d (x.xs[k]'hlt)) v39_30 := sa_end e39 hk [b8_30] (in_cons ⟨_, hb8⟩ in_nil)
      replace e39 := ev; clear ev
      obtain ⟨cn39_30a, cn39_30c, ci39_30a, ci39_30c, ev, ht_v39_30, D_cn39_30, D_ci39_30⟩ := rdV_out D_v39_30
      subst ev; clear D_v39_30
      replace own_bL := own_bL.ext hk
      replace kw := kw.x hk
      clear hR hk hg hP hb8
      refine tail_store (b := b8_30) (o := 0) (v := (.agg #[(.int .u8 ((x.xs[k]'hlt).k)), (.int .i64 ((x.xs[k]'hlt).n)), (.string ((x.xs[k]'hlt).t)), (.slice cn39_30a (((x.xs[k]'hlt).ns).length) cn39_30c), (.slice ci39_30a (((x.xs[k]'hlt).xs).length) ci39_30c)])) e8 e39 sz33 rfl own_b8_30 (lbr rfl) (all_cons rfl (all_cons rfl (all_cons rfl (all_cons rfl (all_cons rfl all_nil))))) (fun W31 hs own_b8_30 => ?_)
      have own_b8_30 : Own W31 b8_30 [(.int .u8 ((x.xs[k]'hlt).k)), (.int .i64 ((x.xs[k]'hlt).n)), (.string ((x.xs[k]'hlt).t)), (.slice cn39_30a (((x.xs[k]'hlt).ns).length) cn39_30c), (.slice ci39_30a (((x.xs[k]'hlt).xs).length) ci39_30c)] 33 := own_b8_30
      replace own_bL := own_store own_bL hs ne_bL_b8_30
      replace D_ci0 := sa_store D_ci0 hs (by simp)
      replace D_cn39_30 := sa_store D_cn39_30 hs (by simp)
      replace D_ci39_30 := sa_store D_ci39_30 hs (by simp)
      replace kw := keeps_store kw hs lo_b8_30
      clear hs
      refine tail_nil (hK29 _ _ ?_)
      refine wp_seq_k fun K32 hK32 => ?_
      refine wp_reg (fun k => k ≠ bL) (Ψ := fun W => Own W bL [(.int .i64 (l2))] 3) mixed y30 zz30 (fun W W' k h => h.ext k) own_bL ?_
      refine .i (v := (.agg #[(.int .u8 ((x.xs[k]'hlt).k)), (.int .i64 ((x.xs[k]'hlt).n)), (.string ((x.xs[k]'hlt).t)), (.slice cn39_30a (((x.xs[k]'hlt).ns).length) cn39_30c), (.slice ci39_30a (((x.xs[k]'hlt).xs).length) ci39_30c)])) (loA (hbs rfl e8) own_b8_30 ne_bL_b8_30.symm agg33 sz33 rfl rfl) ?_
      refine .i (sp_move (hbs rfl e1)) ?_
      refine .i (sp_sub (hlc rfl) Has.cst (i64_in (by omega))) ?_
      refine .i (sp_move (hbs rfl e2)) ?_
      refine .callW3 (φ1 := IsD (SA w S [b8_30, bL]) (V.d ((x.xs[k]'hlt)))) (φ2 := Is (.int .i64 (((nested : Nat) : Int) - (1 : Int)))) (φ3 := Is (.pointer (some ⟨bL, 0, none⟩))) (φ := Is (.bool ((mayV ((x.xs[k]'hlt)) (nested - 1) (l2)).1))) (Ψ' := fun W => Own W bL [(.int .i64 ((mayV ((x.xs[k]'hlt)) (nested - 1) (l2)).2))] 3) ent134 ((hlc rfl).dat (rdV_in (x := (x.xs[k]'hlt)) ht_v39_30 D_cn39_30 D_ci39_30 : Rd W31 (SA w S [b8_30, bL]) (V.d ((x.xs[k]'hlt))) _) (sub_ne (by simp))) (hlc rfl) (hlc rfl) (st_is _) (fun W W' k h => h.ext k) (fun g u1 u2 u3 W hk hg h1 h2 h3 hP => by have h2 : u2 = _ := h2; subst u2; have h3 : u3 = _ := h3; subst u3; rw [show ((nested : Nat) : Int) - (1 : Int) = ((nested - 1 : Nat) : Int) by omega]; exact ih ((x.xs[k]'hlt)) (by omega) (by omega) (nested - 1) (l2) (by omega) (by omega) (by omega) W _ _ bL (fun o h => h.1.2.2 (by simp)) hP h1) ?_
      refine .i (sp_not (hlc rfl)) ?_
      refine .done ⟨by kernel_rfl, fun a33 g W33 y33 zz33 hk hg hV hR hP => ?_⟩
      obtain ⟨e45, -, -, -, -, -, -⟩ := hV
      replace e1 := (hR 1 rfl).trans e1
      replace e2 := (hR 2 rfl).trans e2
      replace e34 := (hR 34 rfl).trans e34
      replace e35 := (hR 35 rfl).trans e35
      replace e36 := (hR 36 rfl).trans e36
      replace D_ci0 := sa_store D_ci0 hk (by simp)
      replace D_cn39_30 := sa_store D_cn39_30 hk (by simp)
      replace D_ci39_30 := sa_store D_ci39_30 hk (by simp)
      replace e45 := e45.q
      replace own_b8_30 := own_store own_b8_30 hk ne_bL_b8_30.symm
      replace own_bL : Own W33 bL [(.int .i64 ((mayV ((x.xs[k]'hlt)) (nested - 1) (l2)).2))] 3 := hP
      replace kw := kw.trans hk
      clear hR hk hg hP
      refine tail_nil (hK32 _ _ ?_)
      refine wp_cond_split e45 (fun hc => ?_) (fun hc => ?_)
      ·
       have hok : (mayV x.xs[k] (nested - 1) l2).1 = false := by simpa using hc
       have hfin : mayV x nested left = (false, (mayV x.xs[k] (nested - 1) l2).2) := by rw [hme, hin, if_pos hok]
       refine wp_seq_k fun K34 hK34 => ?_
       refine rg mixed y33 zz33 ?_
       refine .i (sp_assign Has.cst) ?_
       refine .done ⟨by kernel_rfl, fun a35 g W35 y35 zz35 hk hg hV hR hP => ?_⟩
       obtain ⟨e6, -⟩ := hV
       replace D_ci0 := D_ci0.ext hk
       have e6 : sl a35 6 = (.bool (false)) := e6
       replace own_bL := own_bL.ext hk
       replace own_b8_30 := own_b8_30.ext hk
       replace kw := kw.x hk
       clear hR hk hg hP
       refine tail_nil (hK34 _ _ ?_)
       refine wp_ret ?_
       refine (show bodyPost Try.prog Try.f134 _ .ret _ _ from ret1 rfl zz35 e6 ⟨_, rfl, kw, ?_⟩)
       rw [hfin]
       exact ⟨rfl, own_bL⟩
      ·
       have hok : (mayV x.xs[k] (nested - 1) l2).1 = true := by simpa using hc
       rw [if_neg (by simp [hok])] at hin
       have hvp := hvl.2.2 hok
       refine wp_skip (hK28 _ _ ?_)
       refine rg mixed y33 zz33 ?_
       refine .i (sp_add (hbs rfl e36) Has.cst (i64_in (by omega))) ?_
       refine .i (sp_move (hlc rfl)) ?_
       refine .done ⟨by kernel_rfl, fun a36 g W36 y36 zz36 hk hg hV hR hP => ?_⟩
       obtain ⟨e36, -, -⟩ := hV
       replace e1 := (hR 1 rfl).trans e1
       replace e2 := (hR 2 rfl).trans e2
       replace e34 := (hR 34 rfl).trans e34
       replace e35 := (hR 35 rfl).trans e35
       replace D_ci0 := D_ci0.ext hk
       replace e36 := e36.q
       replace own_bL := own_bL.ext hk
       replace own_b8_30 := own_b8_30.ext hk
       replace kw := kw.x hk
       clear hR hk hg hP
       exact tail_nil ⟨hlt, _, y36, zz36, kw, e1, e2, e34, e35, (e36.trans (congrArg (Value.int .i64) (by simp))), own_bL, (sa_less D_ci0 (ls_skip (ls_keep ls_nil))), hin, hvp, by omega⟩
     ·
      have hge0 : ¬ k < x.xs.length := by simpa using hc
      have hge : k = x.xs.length := by omega
      have hfin : mayV x nested left = (true, l2) := by rw [hme, hin, hge, List.drop_length]; rfl
      refine wp_exit (hK21 _ _ ?_)
      refine wp_seq_k fun K37 hK37 => ?_
      refine rg mixed y26 zz26 ?_
      refine .i (sp_assign Has.cst) ?_
      refine .done ⟨by kernel_rfl, fun a38 g W38 y38 zz38 hk hg hV hR hP => ?_⟩
      obtain ⟨e6, -⟩ := hV
      replace D_ci0 := D_ci0.ext hk
      have e6 : sl a38 6 = (.bool (true)) := e6
      replace own_bL := own_bL.ext hk
      replace kw := kw.x hk
      clear hR hk hg hP
      refine tail_nil (hK37 _ _ ?_)
      refine wp_ret ?_
      refine (show bodyPost Try.prog Try.f134 _ .ret _ _ from ret1 rfl zz38 e6 ⟨_, rfl, kw, ?_⟩)
      rw [hfin]
      exact ⟨rfl, own_bL⟩
set_option maxRecDepth 100000 in
theorem May_ok (x : V) (hx : x.cnt ≤ 1073741824) (w : World) (S : BSet) (v : Value) (hv : Rd w S x.d v) : Calls Try.prog 76 #[v] w (Ret w fun u _ => u = .bool (mayB x)) := by
  obtain ⟨cn0a, cn0c, ci0a, ci0c, ev, ht0, D_cn0, D_ci0⟩ := rdV_out (rd_arg hv)
  subst ev
  refine enter Try.func76 rfl Try.ntmps76 (lbr rfl) fun a0 y0 zz0 harg => ?_
  have e0 : sl a0 0 = (.agg #[(.int .u8 (x.k)), (.int .i64 (x.n)), (.string (x.t)), (.slice cn0a (x.ns.length) cn0c), (.slice ci0a (x.xs.length) ci0c)]) := harg 0 (lbr rfl)
  have kw := Keeps.refl All w
  clear harg
  refine wp_seq_k fun K1 hK1 => ?_
  refine rg mixed y0 zz0 ?_
  refine .boxOp (v := (.agg #[(.int .u8 (x.k)), (.int .i64 (x.n)), (.string (x.t)), (.slice cn0a (x.ns.length) cn0c), (.slice ci0a (x.xs.length) ci0c)])) (hbs rfl e0) ?_
  refine .i (sp_assign Has.cst) ?_
  refine .done ⟨by kernel_rfl, fun a2 g W2 y2 zz2 hk hg hV hR hP => ?_⟩
  obtain ⟨-, ⟨b1_2, e1, hb1, own_b1_2⟩, -⟩ := hV
  have lo_b1_2 : w.heap.size ≤ b1_2 := Nat.le_trans kw.size (hg.lo _ _ hb1)
  have own_b1_2 : Own W2 b1_2 [(.int .u8 (x.k)), (.int .i64 (x.n)), (.string (x.t)), (.slice cn0a (x.ns.length) cn0c), (.slice ci0a (x.xs.length) ci0c)] 33 := own_b1_2
  replace D_cn0 := sa_more D_cn0 hk [b1_2] (in_cons (hg.lo _ _ hb1) in_nil)
  replace D_ci0 := sa_more D_ci0 hk [b1_2] (in_cons (hg.lo _ _ hb1) in_nil)
  replace kw := kw.x hk
  clear hR hk hg hP hb1
  refine tail_nil (hK1 _ _ ?_)
  refine wp_seq_k fun K3 hK3 => ?_
  refine rg mixed y2 zz2 ?_
  refine .alloc z3 ?_
  refine .done ⟨by kernel_rfl, fun a4 g W4 y4 zz4 hk hg hV hR hP => ?_⟩
  obtain ⟨⟨b3_4, e3, hb3, own_b3_4⟩, -⟩ := hV
  have lo_b3_4 : w.heap.size ≤ b3_4 := Nat.le_trans kw.size (hg.lo _ _ hb3)
  have ne_b1_2_b3_4 : b1_2 ≠ b3_4 := Nat.ne_of_lt (Nat.lt_of_lt_of_le own_b1_2.lt (hg.lo _ _ hb3))
  have own_b3_4 : Own W4 b3_4 [(.int .i64 (0))] 3 := own_b3_4
  replace e1 := (hR 1 rfl).trans e1
  replace D_cn0 := sa_more D_cn0 hk [b3_4] (in_cons (hg.lo _ _ hb3) in_nil)
  replace D_ci0 := sa_more D_ci0 hk [b3_4] (in_cons (hg.lo _ _ hb3) in_nil)
  replace own_b1_2 := own_b1_2.ext hk
  replace kw := kw.x hk
  clear hR hk hg hP hb3
  refine tail_store (b := b3_4) (o := 0) (v := (.int .i64 (8192))) e3 rfl sz3 rfl own_b3_4 (lbr rfl) (all_cons rfl all_nil) (fun W5 hs own_b3_4 => ?_)
  have own_b3_4 : Own W5 b3_4 [(.int .i64 (8192))] 3 := own_b3_4
  replace own_b1_2 := own_store own_b1_2 hs ne_b1_2_b3_4
  replace D_cn0 := sa_store D_cn0 hs (by simp)
  replace D_ci0 := sa_store D_ci0 hs (by simp)
  replace kw := keeps_store kw hs lo_b3_4
  clear hs
  refine tail_nil (hK3 _ _ ?_)
  refine wp_seq_k fun K6 hK6 => ?_
  refine wp_reg (fun k => k ≠ b3_4) (Ψ := fun W => Own W b3_4 [(.int .i64 (8192))] 3) mixed y4 zz4 (fun W W' k h => h.ext k) own_b3_4 ?_
  refine .i (v := (.agg #[(.int .u8 (x.k)), (.int .i64 (x.n)), (.string (x.t)), (.slice cn0a (x.ns.length) cn0c), (.slice ci0a (x.xs.length) ci0c)])) (loA (hbs rfl e1) own_b1_2 ne_b1_2_b3_4 agg33 sz33 rfl rfl) ?_
  refine .callW3 (φ1 := IsD (SA w S [b3_4, b1_2]) (V.d (x))) (φ2 := Is (.int .i64 (12))) (φ3 := Is (.pointer (some ⟨b3_4, 0, none⟩))) (φ := Is (.bool ((mayV (x) (12) (8192)).1))) (Ψ' := fun W => Own W b3_4 [(.int .i64 ((mayV (x) (12) (8192)).2))] 3) ent134 ((hlc rfl).dat (rdV_in (x := x) ht0 D_cn0 D_ci0 : Rd W5 (SA w S [b3_4, b1_2]) (V.d (x)) _) (sub_ne (by simp))) Has.cst (hbs rfl e3) (st_is _) (fun W W' k h => h.ext k) (fun g u1 u2 u3 W hk hg h1 h2 h3 hP => by have h2 : u2 = _ := h2; subst u2; have h3 : u3 = _ := h3; subst u3; exact may_all _ (x) (Nat.le_refl _) (by omega) (12) (8192) (by omega) (by omega) (by omega) W _ _ b3_4 (fun o h => h.1.2.2 (by simp)) hP h1) ?_
  refine .i (sp_assign (hlc rfl)) ?_
  refine .done ⟨by kernel_rfl, fun a7 g W7 y7 zz7 hk hg hV hR hP => ?_⟩
  obtain ⟨e2, -, -, -⟩ := hV
  replace D_cn0 := sa_store D_cn0 hk (by simp)
  replace D_ci0 := sa_store D_ci0 hk (by simp)
  have e2 : sl a7 2 = (.bool ((mayV (x) (12) (8192)).1)) := e2
  replace own_b1_2 := own_store own_b1_2 hk ne_b1_2_b3_4
  replace own_b3_4 : Own W7 b3_4 [(.int .i64 ((mayV (x) (12) (8192)).2))] 3 := hP
  replace kw := keeps_store kw hk lo_b3_4
  clear hR hk hg hP
  refine tail_nil (hK6 _ _ ?_)
  refine wp_ret ?_
  refine (show bodyPost Try.prog Try.f76 _ .ret _ _ from ret1 rfl zz7 e2 ⟨_, rfl, kw, ?_⟩)
  exact rfl
end Go.Proofs.Ytnobijngkpflcaa
namespace Go.Proofs.Ytnobijngkpflcaa
open Go.Eng
set_option maxRecDepth 100000 in
theorem clone_ok (ns : List ByteArray) (hn : ns.length ≤ 1073741824) (w : World) (S : BSet) (v : Value) (hv : Rd w S (strsD ns) v) : Calls Try.prog 136 #[v] w (Ret w fun u W => Rd W (Fr w) (strsD ns) u) := by
  obtain ⟨va, vc, ev, D_v⟩ := rdS_out (rd_arg hv)
  subst ev
  refine enter Try.func136 rfl Try.ntmps136 (lbr rfl) fun a0 y0 zz0 harg => ?_
  have e0 : sl a0 0 = (.slice va (ns.length) vc) := harg 0 (lbr rfl)
  have kw := Keeps.refl All w
  clear harg
  refine wp_seq_k fun K1 hK1 => ?_
  refine rg mixed y0 zz0 ?_
  refine .i (sp_assign Has.cst) ?_
  refine .done ⟨by kernel_rfl, fun a2 g W2 y2 zz2 hk hg hV hR hP => ?_⟩
  obtain ⟨-, -⟩ := hV
  replace e0 := (hR 0 rfl).trans e0
  replace D_v := D_v.ext hk
  replace kw := kw.x hk
  clear hR hk hg hP
  refine tail_nil (hK1 _ _ ?_)
  refine wp_seq_k fun K3 hK3 => ?_
  refine wp_seq_k fun K4 hK4 => ?_
  refine rg mixed y2 zz2 ?_
  refine .i (sp_move (hbs rfl e0)) ?_
  refine .i (v := (.bool (va.isNone))) (sp_slNil Try.underlying23 (hlc rfl) Has.cst) ?_
  refine .done ⟨by kernel_rfl, fun a5 g W5 y5 zz5 hk hg hV hR hP => ?_⟩
  obtain ⟨e4, -, -⟩ := hV
  replace e0 := (hR 0 rfl).trans e0
  replace D_v := D_v.ext hk
  have e4 : sl a5 4 = (.bool (va.isNone)) := e4
  replace kw := kw.x hk
  clear hR hk hg hP
  refine tail_nil (hK4 _ _ ?_)
  refine wp_cond_split e4 (fun hc => ?_) (fun hc => ?_)
  ·
   have hns : ns = [] := by simpa using rd_none (ds := ns.map D.str) D_v hc
   subst hns
   refine wp_seq_k fun K6 hK6 => ?_
   refine rg mixed y5 zz5 ?_
   refine .i (sp_assign Has.cst) ?_
   refine .done ⟨by kernel_rfl, fun a7 g W7 y7 zz7 hk hg hV hR hP => ?_⟩
   obtain ⟨e2, -⟩ := hV
   replace D_v := D_v.ext hk
   have e2 : sl a7 2 = (.slice none 0 0) := e2
   replace kw := kw.x hk
   clear hR hk hg hP
   refine tail_nil (hK6 _ _ ?_)
   refine wp_ret ?_
   refine (show bodyPost Try.prog Try.f136 _ .ret _ _ from ret1 rfl zz7 e2 ⟨_, rfl, kw, ?_⟩)
   exact rd_nil _
  ·
   refine wp_skip (hK3 _ _ ?_)
   refine wp_seq_k fun K8 hK8 => ?_
   refine rg mixed y5 zz5 ?_
   refine .op (φ := IsE 9) st_e (sp_bslE Try.underlying23 sz9) ?_
   refine .i (sp_move (hbs rfl e0)) ?_
   refine .da (X := SF w []) (e := strsD (ns)) (sp_appS Try.underlying23 inf9 (hlc rfl) ((hlc rfl).dat D_v sub_all) (by omega) (by omega) (fr_sf kw in_nil)) ?_
   refine .da (X := SF w []) (e := strsD (ns)) (sp_assign (hlc rfl)) ?_
   refine .done ⟨by kernel_rfl, fun a9 g W9 y9 zz9 hk hg hV hR hP => ?_⟩
   obtain ⟨e2, -, -, -, -⟩ := hV
   replace D_v := D_v.ext hk
   obtain ⟨v2_9, ev⟩ : ∃ v, sl a9 2 = v := ⟨_, rfl⟩
   rw [ev] at e2
   have D_v2_9 : Rd W9 (SF w []) (strsD (ns)) v2_9 := sf_end e2 hk [] in_nil
   replace e2 := ev; clear ev
   obtain ⟨v2_9a, v2_9c, ev, D2⟩ := rdS_out D_v2_9
   subst ev; replace D_v2_9 := D2; clear D2
   replace kw := kw.x hk
   clear hR hk hg hP
   refine tail_nil (hK8 _ _ ?_)
   refine wp_ret ?_
   refine (show bodyPost Try.prog Try.f136 _ .ret _ _ from ret1 rfl zz9 e2 ⟨_, rfl, kw, ?_⟩)
   exact sf_fr D_v2_9
set_option maxRecDepth 100000 in
theorem duplicate_all : ∀ (n : Nat) (x : V), x.wt ≤ n → n ≤ 1073741824 → ∀ (w : World) (S : BSet) (v : Value), Rd w S x.d v → Calls Try.prog 138 #[v] w (Ret w fun u W => Rd W (Fr w) x.d u) := by
  intro n
  induction n with
  | zero => intro x hx; have := wt_pos x; omega
  | succ n ih =>
  intro x hx hn w S v hv
  have hwx := wt_eq x
  have hwl := wts_len x.xs
  have hwn := wtN_len x.ns
  obtain ⟨cn0a, cn0c, ci0a, ci0c, ev, ht0, D_cn0, D_ci0⟩ := rdV_out (rd_arg hv)
  subst ev
  refine enter Try.func138 rfl Try.ntmps138 (lbr rfl) fun a0 y0 zz0 harg => ?_
  have e0 : sl a0 0 = (.agg #[(.int .u8 (x.k)), (.int .i64 (x.n)), (.string (x.t)), (.slice cn0a (x.ns.length) cn0c), (.slice ci0a (x.xs.length) ci0c)]) := harg 0 (lbr rfl)
  have kw := Keeps.refl All w
  clear harg
  refine wp_seq_k fun K1 hK1 => ?_
  refine rg mixed y0 zz0 ?_
  refine .boxOp (v := (.agg #[(.int .u8 (x.k)), (.int .i64 (x.n)), (.string (x.t)), (.slice cn0a (x.ns.length) cn0c), (.slice ci0a (x.xs.length) ci0c)])) (hbs rfl e0) ?_
  refine .alloc z33 ?_
  refine .done ⟨by kernel_rfl, fun a2 g W2 y2 zz2 hk hg hV hR hP => ?_⟩
  obtain ⟨⟨b2_2, e2, hb2, own_b2_2⟩, ⟨b1_2, e1, hb1, own_b1_2⟩, -⟩ := hV
  have lo_b2_2 : w.heap.size ≤ b2_2 := Nat.le_trans kw.size (hg.lo _ _ hb2)
  have own_b2_2 : Own W2 b2_2 [(.int .u8 (0)), (.int .i64 (0)), (.string (⟨#[]⟩)), (.slice none 0 0), (.slice none 0 0)] 33 := own_b2_2
  have lo_b1_2 : w.heap.size ≤ b1_2 := Nat.le_trans kw.size (hg.lo _ _ hb1)
  have own_b1_2 : Own W2 b1_2 [(.int .u8 (x.k)), (.int .i64 (x.n)), (.string (x.t)), (.slice cn0a (x.ns.length) cn0c), (.slice ci0a (x.xs.length) ci0c)] 33 := own_b1_2
  have ne_b2_2_b1_2 : b2_2 ≠ b1_2 := fun h => by have := hg.inj _ _ _ hb2 (h ▸ hb1); cases this
  replace D_cn0 := sa_more D_cn0 hk [b2_2, b1_2] (in_cons (hg.lo _ _ hb2) (in_cons (hg.lo _ _ hb1) in_nil))
  replace D_ci0 := sa_more D_ci0 hk [b2_2, b1_2] (in_cons (hg.lo _ _ hb2) (in_cons (hg.lo _ _ hb1) in_nil))
  replace kw := kw.x hk
  clear hR hk hg hP hb2 hb1
  refine tail_nil (hK1 _ _ ?_)
  refine wp_seq_k fun K3 hK3 => ?_
  refine rg mixed y2 zz2 ?_
  refine .i (fo 0 (hbs rfl e1) Try.underlying33 rfl sz5 rfl) ?_
  refine .i (lo1 (hlc rfl) own_b1_2 trivial agg5 sz5 rfl) ?_
  refine .i (fo 1 (hbs rfl e1) Try.underlying33 rfl sz2 rfl) ?_
  refine .i (lo1 (hlc rfl) own_b1_2 trivial agg2 sz2 rfl) ?_
  refine .i (fo 2 (hbs rfl e1) Try.underlying33 rfl sz9 rfl) ?_
  refine .i (lo1 (hlc rfl) own_b1_2 trivial agg9 sz9 rfl) ?_
  refine .i (fo 3 (hbs rfl e1) Try.underlying33 rfl sz23 rfl) ?_
  refine .i (lo1 (hlc rfl) own_b1_2 trivial agg23 sz23 rfl) ?_
  refine .da (X := Fr W2) (e := strsD (x.ns)) (sp_call1 (φ1 := IsD (SA w S [b2_2, b1_2]) (strsD (x.ns))) ent136 ((hlc rfl).dat D_cn0 sub_all) (fun g u1 W hk hgk h1 => (clone_ok (x.ns) (by omega) W _ _ h1).mono (ret_fr hk hgk))) ?_
  refine .op (φ := IsHole (fun v => .agg #[(.int .u8 (x.k)), (.int .i64 (x.n)), (.string (x.t)), v, (.slice none 0 0)]) (IsD (Fr W2) (strsD (x.ns)))) (st_hole (st_d sub_all)) (sp_build1 (vs := [(0, some (.int .u8 (x.k))), (1, some (.int .i64 (x.n))), (2, some (.string (x.t))), (3, none)]) (cells := fun v => #[(.int .u8 (x.k)), (.int .i64 (x.n)), (.string (x.t)), v, (.slice none 0 0)]) Try.underlying33 z33 (pl33 Try.underlying33) (hlc rfl) (fun _ => by simp [Op.operands]) sl_strs ⟨rfl, (hlc rfl), ⟨rfl, (hlc rfl), ⟨rfl, (hlc rfl), ⟨rfl, rfl, trivial⟩⟩⟩⟩ (fun _ _ _ => rfl)) ?_
  refine .alloc z33 ?_
  refine .done ⟨by kernel_rfl, fun a4 g W4 y4 zz4 hk hg hV hR hP => ?_⟩
  obtain ⟨⟨b3_4, e3, hb3, own_b3_4⟩, e15, -, -, -, -, -, -, -, -, -, -⟩ := hV
  have lo_b3_4 : w.heap.size ≤ b3_4 := Nat.le_trans kw.size (hg.lo _ _ hb3)
  have ne_b2_2_b3_4 : b2_2 ≠ b3_4 := Nat.ne_of_lt (Nat.lt_of_lt_of_le own_b2_2.lt (hg.lo _ _ hb3))
  have ne_b1_2_b3_4 : b1_2 ≠ b3_4 := Nat.ne_of_lt (Nat.lt_of_lt_of_le own_b1_2.lt (hg.lo _ _ hb3))
  have own_b3_4 : Own W4 b3_4 [(.int .u8 (0)), (.int .i64 (0)), (.string (⟨#[]⟩)), (.slice none 0 0), (.slice none 0 0)] 33 := own_b3_4
  replace e2 := (hR 2 rfl).trans e2
  replace e1 := (hR 1 rfl).trans e1
  replace D_cn0 := sa_more D_cn0 hk [b3_4] (in_cons (hg.lo _ _ hb3) in_nil)
  replace D_ci0 := sa_more D_ci0 hk [b3_4] (in_cons (hg.lo _ _ hb3) in_nil)
  obtain ⟨v15_4a, v15_4n, v15_4c, ev, D_v15_4⟩ := e15
  replace D_v15_4 : Rd W4 (SF w [b3_4, b2_2, b1_2]) (strsD (x.ns)) _ := fr_end (M := [b2_2, b1_2]) D_v15_4 kw [b3_4] (in_cons ⟨_, hb3⟩ in_nil) (in_cons own_b2_2.lt (in_cons own_b1_2.lt in_nil))
  obtain ⟨xa, xc, ev2, D2⟩ := rdS_out D_v15_4
  injection ev2 with h1 h2 h3; subst h1 h2 h3; clear D2
  have e15 : sl a4 15 = (.agg #[(.int .u8 (x.k)), (.int .i64 (x.n)), (.string (x.t)), (.slice v15_4a (x.ns.length) v15_4c), (.slice none 0 0)]) := ev; clear ev
  replace own_b2_2 := own_b2_2.ext hk
  replace own_b1_2 := own_b1_2.ext hk
  replace kw := kw.x hk
  clear hR hk hg hP hb3
  refine tail_store (b := b3_4) (o := 0) (v := (.agg #[(.int .u8 (x.k)), (.int .i64 (x.n)), (.string (x.t)), (.slice v15_4a (x.ns.length) v15_4c), (.slice none 0 0)])) e3 e15 sz33 rfl own_b3_4 (lbr rfl) (all_cons rfl (all_cons rfl (all_cons rfl (all_cons rfl (all_cons rfl all_nil))))) (fun W5 hs own_b3_4 => ?_)
  have own_b3_4 : Own W5 b3_4 [(.int .u8 (x.k)), (.int .i64 (x.n)), (.string (x.t)), (.slice v15_4a (x.ns.length) v15_4c), (.slice none 0 0)] 33 := own_b3_4
  replace own_b2_2 := own_store own_b2_2 hs ne_b2_2_b3_4
  replace own_b1_2 := own_store own_b1_2 hs ne_b1_2_b3_4
  replace D_cn0 := sa_store D_cn0 hs (by simp)
  replace D_ci0 := sa_store D_ci0 hs (by simp)
  replace D_v15_4 := sf_store D_v15_4 hs (by simp)
  replace kw := keeps_store kw hs lo_b3_4
  clear hs
  refine tail_nil (hK3 _ _ ?_)
  refine wp_seq_k fun K6 hK6 => ?_
  refine wp_seq_k fun K7 hK7 => ?_
  refine rg mixed y4 zz4 ?_
  refine .i (fo 4 (hbs rfl e1) Try.underlying33 rfl sz31 rfl) ?_
  refine .i (lo1 (hlc rfl) own_b1_2 trivial agg31 sz31 rfl) ?_
  refine .i (sp_lenVs Try.underlying31 ((hlc rfl).dat D_ci0 sub_all)) ?_
  refine .i (sp_move Has.cst) ?_
  refine .done ⟨by kernel_rfl, fun a8 g W8 y8 zz8 hk hg hV hR hP => ?_⟩
  obtain ⟨e19, e18, e17, -, -⟩ := hV
  replace e2 := (hR 2 rfl).trans e2
  replace e3 := (hR 3 rfl).trans e3
  replace D_cn0 := D_cn0.ext hk
  replace D_ci0 := D_ci0.ext hk
  replace D_v15_4 := D_v15_4.ext hk
  have e17 : sl a8 17 = (.slice ci0a (x.xs.length) ci0c) := e17
  have e18 : sl a8 18 = (.int .i64 (x.xs.length)) := e18
  have e19 : sl a8 19 = (.int .i64 (0)) := e19
  replace own_b2_2 := own_b2_2.ext hk
  replace own_b1_2 := own_b1_2.ext hk
  replace own_b3_4 := own_b3_4.ext hk
  replace kw := kw.x hk
  clear hR hk hg hP
  refine tail_nil (hK7 _ _ ?_)
  refine wp_block ?_
  replace D_ci0 := sa_less (M' := [b3_4, b2_2]) D_ci0 (ls_keep (ls_keep ls_nil))
  replace D_v15_4 := sf_less (M' := [b3_4, b2_2]) D_v15_4 (ls_keep (ls_keep ls_nil))
  have A_ar9 : Arr W8 w.heap.size 33 5 (SF w (blks none ++ (b3_4 :: (b2_2 :: [])))) (List.map V.d ([])) (.slice none 0 0) none := arr_nil _ _ _ _ _
  replace D_ci0 : Rd W8 (SA w S (blks none ++ (b3_4 :: (b2_2 :: [])))) (valsD (x.xs)) (.slice ci0a (x.xs.length) ci0c) := D_ci0
  replace D_v15_4 : Rd W8 (SF w (blks none ++ (b3_4 :: (b2_2 :: [])))) (strsD (x.ns)) (.slice v15_4a (x.ns.length) v15_4c) := D_v15_4
  refine wp_for (x.xs.length) (fun k a W => ∃ (va4_10 : Value), ∃ (hd4_10 : Option Nat), a.tmps.size = 32 ∧ a.defers = [] ∧ Keeps All w W ∧ sl a 2 = (.pointer (some ⟨b2_2, 0, none⟩)) ∧ sl a 3 = (.pointer (some ⟨b3_4, 0, none⟩)) ∧ sl a 17 = (.slice ci0a (x.xs.length) ci0c) ∧ sl a 18 = (.int .i64 (x.xs.length)) ∧ sl a 19 = (.int .i64 ((k : Nat))) ∧ Own W b2_2 [(.int .u8 (0)), (.int .i64 (0)), (.string (⟨#[]⟩)), (.slice none 0 0), (.slice none 0 0)] 33 ∧ Own W b3_4 [(.int .u8 (x.k)), (.int .i64 (x.n)), (.string (x.t)), (.slice v15_4a (x.ns.length) v15_4c), va4_10] 33 ∧ Rd W (SA w S (blks hd4_10 ++ (b3_4 :: (b2_2 :: [])))) (valsD (x.xs)) (.slice ci0a (x.xs.length) ci0c) ∧ Rd W (SF w (blks hd4_10 ++ (b3_4 :: (b2_2 :: [])))) (strsD (x.ns)) (.slice v15_4a (x.ns.length) v15_4c) ∧ Arr W w.heap.size 33 5 (SF w (blks hd4_10 ++ (b3_4 :: (b2_2 :: [])))) (List.map V.d (x.xs.take k)) va4_10 hd4_10 ∧ b2_2 ∉ blks hd4_10 ∧ b3_4 ∉ blks hd4_10) ⟨(.slice none 0 0), none, y8, zz8, kw, e2, e3, e17, e18, (e19.trans (congrArg (Value.int .i64) (rfl))), own_b2_2, own_b3_4, D_ci0, D_v15_4, A_ar9, nb_none, nb_none⟩ ?_
  clear kw e2 e3 e17 e18 e19 own_b2_2 own_b3_4 D_ci0 D_v15_4 A_ar9
  rintro k a10 W10 hkk ⟨va4_10, hd4_10, y10, zz10, kw, e2, e3, e17, e18, e19, own_b2_2, own_b3_4, D_ci0, D_v15_4, A4_10, nb_b2_2_ar9_10, nb_b3_4_ar9_10⟩
  refine wp_seq_k fun K11 hK11 => ?_
  refine rg mixed y10 zz10 ?_
  refine .i (sp_lss (hbs rfl e19) (hbs rfl e18)) ?_
  refine .done ⟨by kernel_rfl, fun a12 g W12 y12 zz12 hk hg hV hR hP => ?_⟩
  obtain ⟨e20, -⟩ := hV
  replace e2 := (hR 2 rfl).trans e2
  replace e3 := (hR 3 rfl).trans e3
  replace e17 := (hR 17 rfl).trans e17
  replace e18 := (hR 18 rfl).trans e18
  replace e19 := (hR 19 rfl).trans e19
  replace A4_10 := A4_10.ext hk
  replace D_ci0 := D_ci0.ext hk
  replace D_v15_4 := D_v15_4.ext hk
  replace e20 := e20.q
  replace own_b2_2 := own_b2_2.ext hk
  replace own_b3_4 := own_b3_4.ext hk
  replace kw := kw.x hk
  clear hR hk hg hP
  refine tail_nil (hK11 _ _ ?_)
  refine wp_seq_k fun K13 hK13 => ?_
  refine wp_cond_split e20 (fun hc => ?_) (fun hc => ?_)
  ·
   have hlt : k < x.xs.length := by simpa using hc
   have hwm := wts_mem hlt
   refine wp_skip (hK13 _ _ ?_)
   refine wp_seq_k fun K14 hK14 => ?_
   refine wp_block ?_
   refine wp_seq_k fun K15 hK15 => ?_
   refine rg mixed y12 zz12 ?_
   refine .rf (sp_indexV (i := k) ((hbs rfl e17).dat D_ci0 sub_all) (hbs rfl e19) Try.underlying31 sz33 rfl hlt) ?_
   refine .da (sp_loadV (hlc rfl) agg33 sz33) ?_
   refine .alloc z33 ?_
   refine .done ⟨by kernel_rfl, fun a16 g W16 y16 zz16 hk hg hV hR hP => ?_⟩
   obtain ⟨⟨b5_16, e5, hb5, own_b5_16⟩, e22, -, -⟩ := hV
   have lo_b5_16 : w.heap.size ≤ b5_16 := Nat.le_trans kw.size (hg.lo _ _ hb5)
   have ne_b2_2_b5_16 : b2_2 ≠ b5_16 := Nat.ne_of_lt (Nat.lt_of_lt_of_le own_b2_2.lt (hg.lo _ _ hb5))
   have ne_b3_4_b5_16 : b3_4 ≠ b5_16 := Nat.ne_of_lt (Nat.lt_of_lt_of_le own_b3_4.lt (hg.lo _ _ hb5))
   have own_b5_16 : Own W16 b5_16 [(.int .u8 (0)), (.int .i64 (0)), (.string (⟨#[]⟩)), (.slice none 0 0), (.slice none 0 0)] 33 := own_b5_16
   replace e2 := (hR 2 rfl).trans e2
   replace e3 := (hR 3 rfl).trans e3
   replace e17 := (hR 17 rfl).trans e17
   replace e18 := (hR 18 rfl).trans e18
   replace e19 := (hR 19 rfl).trans e19
   have hMx : ∀ b ∈ (blks hd4_10 ++ (b3_4 :: (b2_2 :: []))), b < W12.heap.size := (in_app A4_10.lt (in_cons own_b3_4.lt (in_cons own_b2_2.lt in_nil)))
   have nb_b5_16_ar9 : b5_16 ∉ blks hd4_10 := nb_lt A4_10.lt (hg.lo _ _ hb5)
   replace A4_10 : Arr W16 w.heap.size 33 5 (SF w (b5_16 :: (blks hd4_10 ++ (b3_4 :: (b2_2 :: []))))) (List.map V.d (x.xs.take k)) va4_10 hd4_10 := arrF_more A4_10 hk [b5_16] (in_cons (hg.lo _ _ hb5) in_nil)
   replace D_ci0 : Rd W16 (SA w S (b5_16 :: (blks hd4_10 ++ (b3_4 :: (b2_2 :: []))))) (valsD (x.xs)) (.slice ci0a (x.xs.length) ci0c) := sa_more D_ci0 hk [b5_16] (in_cons (hg.lo _ _ hb5) in_nil)
   replace D_v15_4 : Rd W16 (SF w (b5_16 :: (blks hd4_10 ++ (b3_4 :: (b2_2 :: []))))) (strsD (x.ns)) (.slice v15_4a (x.ns.length) v15_4c) := sf_more D_v15_4 hk [b5_16] (in_cons (hg.lo _ _ hb5) in_nil)
   obtain ⟨v22_16, ev⟩ : ∃ v, sl a16 22 = v := ⟨_, rfl⟩
   rw [ev] at e22
   have D_v22_16 : Rd W16 (SA w S (b5_16 :: (blks hd4_10 ++ (b3_4 :: (b2_2 :: []))))) (V.d (x.xs[k]'hlt)) v22_16 := sa_end e22 hk [b5_16] (in_cons ⟨_, hb5⟩ in_nil)
   replace e22 := ev; clear ev
   obtain ⟨cn22_16a, cn22_16c, ci22_16a, ci22_16c, ev, ht_v22_16, D_cn22_16, D_ci22_16⟩ := rdV_out D_v22_16
   subst ev; clear D_v22_16
   replace own_b2_2 := own_b2_2.ext hk
   replace own_b3_4 := own_b3_4.ext hk
   replace kw := kw.x hk
   clear hR hk hg hP hb5
   refine tail_store (b := b5_16) (o := 0) (v := (.agg #[(.int .u8 ((x.xs[k]'hlt).k)), (.int .i64 ((x.xs[k]'hlt).n)), (.string ((x.xs[k]'hlt).t)), (.slice cn22_16a (((x.xs[k]'hlt).ns).length) cn22_16c), (.slice ci22_16a (((x.xs[k]'hlt).xs).length) ci22_16c)])) e5 e22 sz33 rfl own_b5_16 (lbr rfl) (all_cons rfl (all_cons rfl (all_cons rfl (all_cons rfl (all_cons rfl all_nil))))) (fun W17 hs own_b5_16 => ?_)
   have own_b5_16 : Own W17 b5_16 [(.int .u8 ((x.xs[k]'hlt).k)), (.int .i64 ((x.xs[k]'hlt).n)), (.string ((x.xs[k]'hlt).t)), (.slice cn22_16a (((x.xs[k]'hlt).ns).length) cn22_16c), (.slice ci22_16a (((x.xs[k]'hlt).xs).length) ci22_16c)] 33 := own_b5_16
   replace own_b2_2 := own_store own_b2_2 hs ne_b2_2_b5_16
   replace own_b3_4 := own_store own_b3_4 hs ne_b3_4_b5_16
   replace D_ci0 := sa_store D_ci0 hs (by simp)
   replace D_v15_4 := sf_store D_v15_4 hs (by simp)
   replace D_cn22_16 := sa_store D_cn22_16 hs (by simp)
   replace D_ci22_16 := sa_store D_ci22_16 hs (by simp)
   replace A4_10 := arrF_store A4_10 hs (by simp) nb_b5_16_ar9
   replace kw := keeps_store kw hs lo_b5_16
   clear hs
   refine tail_nil (hK15 _ _ ?_)
   refine wp_reg (fun k => k ∉ blks hd4_10) (Ψ := fun W => Arr W w.heap.size 33 5 (SF w (b5_16 :: (blks hd4_10 ++ (b3_4 :: (b2_2 :: []))))) (List.map V.d (x.xs.take k)) va4_10 hd4_10) mixed y16 zz16 (fun W W' k h => h.ext k) A4_10 ?_
   refine .i (fo 4 (hbs rfl e3) Try.underlying33 rfl sz31 rfl) ?_
   refine .i (lo1 (hlc rfl) own_b3_4 nb_b3_4_ar9_10 agg31 sz31 rfl) ?_
   refine .i (v := (.agg #[(.int .u8 ((x.xs[k]'hlt).k)), (.int .i64 ((x.xs[k]'hlt).n)), (.string ((x.xs[k]'hlt).t)), (.slice cn22_16a (((x.xs[k]'hlt).ns).length) cn22_16c), (.slice ci22_16a (((x.xs[k]'hlt).xs).length) ci22_16c)])) (loA (hbs rfl e5) own_b5_16 nb_b5_16_ar9 agg33 sz33 rfl rfl) ?_
   refine .op (φ := IsD (Fr W17) (V.d ((x.xs[k]'hlt)))) (st_d (sub_frnb (fun b hb => A4_10.lt b hb))) (sp_call1 (φ1 := IsD (SA w S (b5_16 :: (blks hd4_10 ++ (b3_4 :: (b2_2 :: []))))) (V.d ((x.xs[k]'hlt)))) ent138 ((hlc rfl).dat (rdV_in (x := (x.xs[k]'hlt)) ht_v22_16 D_cn22_16 D_ci22_16 : Rd W17 (SA w S (b5_16 :: (blks hd4_10 ++ (b3_4 :: (b2_2 :: []))))) (V.d ((x.xs[k]'hlt))) _) (sub_nb (fun b hb => List.mem_cons_of_mem _ (List.mem_append_left _ hb)))) (fun g u1 W hk hgk h1 => (ih ((x.xs[k]'hlt)) (by omega) (by omega) W _ _ h1).mono (ret_fr hk hgk))) ?_
   refine .op (φ := IsD (SF w (b5_16 :: (blks hd4_10 ++ (b3_4 :: (b2_2 :: []))))) (valsD ([(x.xs[k]'hlt)]))) (st_d (sub_nbF (fun b hb => List.mem_cons_of_mem _ (List.mem_append_left _ hb)))) (sp_bsl (ds := [V.d ((x.xs[k]'hlt))]) Try.underlying31 sz33 z33 (lbr rfl) (lbr rfl) ⟨rfl, ((hlc rfl).sup (fr_sf kw (in_cons own_b5_16.lt (in_app A4_10.lt (in_cons own_b3_4.lt (in_cons own_b2_2.lt in_nil)))))), trivial⟩ rfl (by intro e he; simp at he; rcases he with rfl <;> exact width_V _) (fr_sf kw (in_cons own_b5_16.lt (in_app A4_10.lt (in_cons own_b3_4.lt (in_cons own_b2_2.lt in_nil)))))) ?_
   refine .appB (ds := List.map V.d (x.xs.take k)) (es := [V.d ((x.xs[k]'hlt))]) (X := SF w (b5_16 :: (blks hd4_10 ++ (b3_4 :: (b2_2 :: []))))) Try.underlying31 inf33 (lbr rfl) (hlc rfl) (hlc rfl) (sub_nbF (fun b hb => List.mem_cons_of_mem _ (List.mem_append_left _ hb))) (by simp [maxLen]; omega) (by simp; omega) kw.size ?_
   refine .i (fo 4 (hbs rfl e3) Try.underlying33 rfl sz31 rfl) ?_
   refine .done ⟨by kernel_rfl, fun a18 g W18 y18 zz18 hk hg hV hR hP => ?_⟩
   obtain ⟨e29, e28, -, -, -, -, -, -⟩ := hV
   replace e2 := (hR 2 rfl).trans e2
   replace e3 := (hR 3 rfl).trans e3
   replace e17 := (hR 17 rfl).trans e17
   replace e18 := (hR 18 rfl).trans e18
   replace e19 := (hR 19 rfl).trans e19
   obtain ⟨v28_18, ev⟩ : ∃ v, sl a18 28 = v := ⟨_, rfl⟩
   rw [ev] at e28
   obtain ⟨hd28_18, A_28_18, hf28_18⟩ := e28
   have e28 := ev; clear ev
   obtain ⟨v28_18a, v28_18n, v28_18c, ev⟩ := arr_sl A_28_18; subst ev
   replace A_28_18 := arrF_new (M' := (b5_16 :: (blks hd28_18 ++ (b3_4 :: (b2_2 :: []))))) A_28_18 (rep_cons (rep_app (rep_q fun _ h => h) (rep_cons (rep_cons rep_nil))))
   replace A_28_18 : Arr W18 w.heap.size 33 5 (SF w (b5_16 :: (blks hd28_18 ++ (b3_4 :: (b2_2 :: []))))) (List.map V.d ((x.xs.take k) ++ [(x.xs[k]'hlt)])) (.slice v28_18a v28_18n v28_18c) hd28_18 := by first | exact A_28_18 | (rw [List.map_append]; exact A_28_18)
   have nb_b2_2_18 : b2_2 ∉ blks hd28_18 := nb_new nb_b2_2_ar9_10 own_b2_2.lt hf28_18
   have nb_b3_4_18 : b3_4 ∉ blks hd28_18 := nb_new nb_b3_4_ar9_10 own_b3_4.lt hf28_18
   have nb_b5_16_18 : b5_16 ∉ blks hd28_18 := nb_new nb_b5_16_ar9 own_b5_16.lt hf28_18
   replace D_ci0 := sa_app (M' := (b5_16 :: (blks hd28_18 ++ (b3_4 :: (b2_2 :: []))))) D_ci0 hk (fun b hb => List.mem_cons_of_mem _ (List.mem_append_left _ hb)) (rep_cons (rep_app hf28_18 (rep_cons (rep_cons rep_nil))))
   replace D_v15_4 := sf_app (M' := (b5_16 :: (blks hd28_18 ++ (b3_4 :: (b2_2 :: []))))) D_v15_4 hk (fun b hb => List.mem_cons_of_mem _ (List.mem_append_left _ hb)) (rep_cons (rep_app hf28_18 (rep_cons (rep_cons rep_nil))))
   replace D_cn22_16 := sa_app (M' := (b5_16 :: (blks hd28_18 ++ (b3_4 :: (b2_2 :: []))))) D_cn22_16 hk (fun b hb => List.mem_cons_of_mem _ (List.mem_append_left _ hb)) (rep_cons (rep_app hf28_18 (rep_cons (rep_cons rep_nil))))
   replace D_ci22_16 := sa_app (M' := (b5_16 :: (blks hd28_18 ++ (b3_4 :: (b2_2 :: []))))) D_ci22_16 hk (fun b hb => List.mem_cons_of_mem _ (List.mem_append_left _ hb)) (rep_cons (rep_app hf28_18 (rep_cons (rep_cons rep_nil))))
   replace own_b2_2 := own_app own_b2_2 hk nb_b2_2_ar9_10
   replace own_b3_4 := own_app own_b3_4 hk nb_b3_4_ar9_10
   replace own_b5_16 := own_app own_b5_16 hk nb_b5_16_ar9
   replace kw := keeps_app kw hk A4_10.ge
   have e29 : sl a18 29 = (.pointer (some ⟨b3_4, 4, none⟩)) := e29
   clear hR hk hg hP hf28_18 A4_10
   refine tail_store (b := b3_4) (o := 4) (v := (.slice v28_18a v28_18n v28_18c)) e29 e28 sz31 rfl own_b3_4 (lbr rfl) (all_cons rfl all_nil) (fun W19 hs own_b3_4 => ?_)
   have own_b3_4 : Own W19 b3_4 [(.int .u8 (x.k)), (.int .i64 (x.n)), (.string (x.t)), (.slice v15_4a (x.ns.length) v15_4c), (.slice v28_18a v28_18n v28_18c)] 33 := own_b3_4
   replace own_b2_2 := own_store own_b2_2 hs ne_b2_2_b3_4
   replace own_b5_16 := own_store own_b5_16 hs ne_b3_4_b5_16.symm
   replace D_ci0 := sa_store D_ci0 hs (by simp)
   replace D_v15_4 := sf_store D_v15_4 hs (by simp)
   replace D_cn22_16 := sa_store D_cn22_16 hs (by simp)
   replace D_ci22_16 := sa_store D_ci22_16 hs (by simp)
   replace A_28_18 := arrF_store A_28_18 hs (by simp) nb_b3_4_18
   replace kw := keeps_store kw hs lo_b3_4
   clear hs
   refine tail_nil (hK14 _ _ ?_)
   refine rg mixed y18 zz18 ?_
   refine .i (sp_add (hbs rfl e19) Has.cst (i64_in (by omega))) ?_
   refine .i (sp_move (hlc rfl)) ?_
   refine .done ⟨by kernel_rfl, fun a20 g W20 y20 zz20 hk hg hV hR hP => ?_⟩
   obtain ⟨e19, -, -⟩ := hV
   replace e2 := (hR 2 rfl).trans e2
   replace e3 := (hR 3 rfl).trans e3
   replace e17 := (hR 17 rfl).trans e17
   replace e18 := (hR 18 rfl).trans e18
   replace A_28_18 := A_28_18.ext hk
   replace D_ci0 := D_ci0.ext hk
   replace D_v15_4 := D_v15_4.ext hk
   replace e19 := e19.q
   replace own_b2_2 := own_b2_2.ext hk
   replace own_b3_4 := own_b3_4.ext hk
   replace own_b5_16 := own_b5_16.ext hk
   replace kw := kw.x hk
   clear hR hk hg hP
   rw [show (x.xs.take k) ++ [(x.xs[k]'hlt)] = x.xs.take (k + 1) by rw [List.take_succ_eq_append_getElem hlt]] at A_28_18
   exact tail_nil ⟨hlt, (.slice v28_18a v28_18n v28_18c), hd28_18, y20, zz20, kw, e2, e3, e17, e18, (e19.trans (congrArg (Value.int .i64) (by simp))), own_b2_2, own_b3_4, (sa_less D_ci0 (ls_skip (ls_keepA (ls_keep (ls_keep ls_nil))))), (sf_less D_v15_4 (ls_skip (ls_keepA (ls_keep (ls_keep ls_nil))))), (arrF_less A_28_18 (ls_skip (ls_keepA (ls_keep (ls_keep ls_nil))))), nb_b2_2_18, nb_b3_4_18⟩
  ·
   have hge0 : ¬ k < x.xs.length := by simpa using hc
   have hge : k = x.xs.length := by omega
   rw [show x.xs.take k = x.xs by rw [hge, List.take_length]] at A4_10
   have D_va4_10 : Rd W12 (SF w [b3_4, b2_2]) (valsD (x.xs)) va4_10 := arrF_rd A4_10 (ls_skipA (ls_keep (ls_keep ls_nil))) (nin_cons nb_b3_4_ar9_10 (nin_cons nb_b2_2_ar9_10 nin_nil))
   obtain ⟨va4_10a, va4_10c, ev, D2⟩ := rdVs_out D_va4_10
   subst ev; replace D_va4_10 := D2; clear D2
   replace D_ci0 := sa_less (M' := [b3_4, b2_2]) D_ci0 (ls_skipA (ls_keep (ls_keep ls_nil)))
   replace D_v15_4 := sf_less (M' := [b3_4, b2_2]) D_v15_4 (ls_skipA (ls_keep (ls_keep ls_nil)))
   refine wp_exit (hK6 _ _ ?_)
   refine wp_seq_k fun K21 hK21 => ?_
   refine rg mixed y12 zz12 ?_
   refine .i (v := (.agg #[(.int .u8 (x.k)), (.int .i64 (x.n)), (.string (x.t)), (.slice v15_4a (x.ns.length) v15_4c), (.slice va4_10a (x.xs.length) va4_10c)])) (loA (hbs rfl e3) own_b3_4 trivial agg33 sz33 rfl rfl) ?_
   refine .done ⟨by kernel_rfl, fun a22 g W22 y22 zz22 hk hg hV hR hP => ?_⟩
   obtain ⟨e31, -⟩ := hV
   replace e2 := (hR 2 rfl).trans e2
   replace D_ci0 := D_ci0.ext hk
   replace D_v15_4 := D_v15_4.ext hk
   replace D_va4_10 := D_va4_10.ext hk
   replace e31 := e31.q
   replace own_b2_2 := own_b2_2.ext hk
   replace own_b3_4 := own_b3_4.ext hk
   replace kw := kw.x hk
   clear hR hk hg hP
   refine tail_store (b := b2_2) (o := 0) (v := (.agg #[(.int .u8 (x.k)), (.int .i64 (x.n)), (.string (x.t)), (.slice v15_4a (x.ns.length) v15_4c), (.slice va4_10a (x.xs.length) va4_10c)])) e2 e31 sz33 rfl own_b2_2 (lbr rfl) (all_cons rfl (all_cons rfl (all_cons rfl (all_cons rfl (all_cons rfl all_nil))))) (fun W23 hs own_b2_2 => ?_)
   have own_b2_2 : Own W23 b2_2 [(.int .u8 (x.k)), (.int .i64 (x.n)), (.string (x.t)), (.slice v15_4a (x.ns.length) v15_4c), (.slice va4_10a (x.xs.length) va4_10c)] 33 := own_b2_2
   replace own_b3_4 := own_store own_b3_4 hs ne_b2_2_b3_4.symm
   replace D_ci0 := sa_store D_ci0 hs (by simp)
   replace D_v15_4 := sf_store D_v15_4 hs (by simp)
   replace D_va4_10 := sf_store D_va4_10 hs (by simp)
   replace kw := keeps_store kw hs lo_b2_2
   clear hs
   refine tail_nil (hK21 _ _ ?_)
   refine wp_ret ?_
   refine (show bodyPost Try.prog Try.f138 _ .ret _ _ from retC (v := (.agg #[(.int .u8 (x.k)), (.int .i64 (x.n)), (.string (x.t)), (.slice v15_4a (x.ns.length) v15_4c), (.slice va4_10a (x.xs.length) va4_10c)])) rfl zz22 e2 own_b2_2 agg33 sz33 rfl (fun h => by cases h) rfl ⟨_, rfl, kw, ?_⟩)
   exact sf_fr (rdV_in (x := x) ht0 D_v15_4 D_va4_10 : Rd W23 (SF w [b3_4, b2_2]) (V.d (x)) _)
set_option maxRecDepth 100000 in
theorem Copy_ok (x : V) (hx : x.wt ≤ 1073741824) (w : World) (S : BSet) (v : Value) (hS : ∀ b o, S b o → Cln o) (hv : Rd w S x.d v) : Calls Try.prog 79 #[v] w (Ret w fun u W => Rd W (Fr w) x.d u) := by
  have hwx := wt_eq x
  have hwl := wts_len x.xs
  have hwn := wtN_len x.ns
  obtain ⟨cn0a, cn0c, ci0a, ci0c, ev, ht0, D_cn0, D_ci0⟩ := rdV_out (rd_arg hv)
  subst ev
  refine enter Try.func79 rfl Try.ntmps79 (lbr rfl) fun a0 y0 zz0 harg => ?_
  have e0 : sl a0 0 = (.agg #[(.int .u8 (x.k)), (.int .i64 (x.n)), (.string (x.t)), (.slice cn0a (x.ns.length) cn0c), (.slice ci0a (x.xs.length) ci0c)]) := harg 0 (lbr rfl)
  have kw := Keeps.refl All w
  clear harg
  refine wp_seq_k fun K1 hK1 => ?_
  refine rg mixed y0 zz0 ?_
  refine .boxOp (v := (.agg #[(.int .u8 (x.k)), (.int .i64 (x.n)), (.string (x.t)), (.slice cn0a (x.ns.length) cn0c), (.slice ci0a (x.xs.length) ci0c)])) (hbs rfl e0) ?_
  refine .alloc z33 ?_
  refine .done ⟨by kernel_rfl, fun a2 g W2 y2 zz2 hk hg hV hR hP => ?_⟩
  obtain ⟨⟨b2_2, e2, hb2, own_b2_2⟩, ⟨b1_2, e1, hb1, own_b1_2⟩, -⟩ := hV
  have lo_b2_2 : w.heap.size ≤ b2_2 := Nat.le_trans kw.size (hg.lo _ _ hb2)
  have own_b2_2 : Own W2 b2_2 [(.int .u8 (0)), (.int .i64 (0)), (.string (⟨#[]⟩)), (.slice none 0 0), (.slice none 0 0)] 33 := own_b2_2
  have lo_b1_2 : w.heap.size ≤ b1_2 := Nat.le_trans kw.size (hg.lo _ _ hb1)
  have own_b1_2 : Own W2 b1_2 [(.int .u8 (x.k)), (.int .i64 (x.n)), (.string (x.t)), (.slice cn0a (x.ns.length) cn0c), (.slice ci0a (x.xs.length) ci0c)] 33 := own_b1_2
  have ne_b2_2_b1_2 : b2_2 ≠ b1_2 := fun h => by have := hg.inj _ _ _ hb2 (h ▸ hb1); cases this
  replace D_cn0 := sa_more D_cn0 hk [b2_2, b1_2] (in_cons (hg.lo _ _ hb2) (in_cons (hg.lo _ _ hb1) in_nil))
  replace D_ci0 := sa_more D_ci0 hk [b2_2, b1_2] (in_cons (hg.lo _ _ hb2) (in_cons (hg.lo _ _ hb1) in_nil))
  replace kw := kw.x hk
  clear hR hk hg hP hb2 hb1
  refine tail_nil (hK1 _ _ ?_)
  refine wp_seq_k fun K3 hK3 => ?_
  refine rg mixed y2 zz2 ?_
  refine .i (fo 0 (hbs rfl e1) Try.underlying33 rfl sz5 rfl) ?_
  refine .i (lo1 (hlc rfl) own_b1_2 trivial agg5 sz5 rfl) ?_
  refine .i (fo 1 (hbs rfl e1) Try.underlying33 rfl sz2 rfl) ?_
  refine .i (lo1 (hlc rfl) own_b1_2 trivial agg2 sz2 rfl) ?_
  refine .i (fo 2 (hbs rfl e1) Try.underlying33 rfl sz9 rfl) ?_
  refine .i (lo1 (hlc rfl) own_b1_2 trivial agg9 sz9 rfl) ?_
  refine .i (fo 3 (hbs rfl e1) Try.underlying33 rfl sz23 rfl) ?_
  refine .i (lo1 (hlc rfl) own_b1_2 trivial agg23 sz23 rfl) ?_
  refine .da (X := Fr W2) (e := strsD (x.ns)) (sp_call1 (φ1 := IsD (SA w S [b2_2, b1_2]) (strsD (x.ns))) ent136 ((hlc rfl).dat D_cn0 sub_all) (fun g u1 W hk hgk h1 => (clone_ok (x.ns) (by omega) W _ _ h1).mono (ret_fr hk hgk))) ?_
  refine .op (φ := IsHole (fun v => .agg #[(.int .u8 (x.k)), (.int .i64 (x.n)), (.string (x.t)), v, (.slice none 0 0)]) (IsD (Fr W2) (strsD (x.ns)))) (st_hole (st_d sub_all)) (sp_build1 (vs := [(0, some (.int .u8 (x.k))), (1, some (.int .i64 (x.n))), (2, some (.string (x.t))), (3, none)]) (cells := fun v => #[(.int .u8 (x.k)), (.int .i64 (x.n)), (.string (x.t)), v, (.slice none 0 0)]) Try.underlying33 z33 (pl33 Try.underlying33) (hlc rfl) (fun _ => by simp [Op.operands]) sl_strs ⟨rfl, (hlc rfl), ⟨rfl, (hlc rfl), ⟨rfl, (hlc rfl), ⟨rfl, rfl, trivial⟩⟩⟩⟩ (fun _ _ _ => rfl)) ?_
  refine .alloc z33 ?_
  refine .done ⟨by kernel_rfl, fun a4 g W4 y4 zz4 hk hg hV hR hP => ?_⟩
  obtain ⟨⟨b3_4, e3, hb3, own_b3_4⟩, e15, -, -, -, -, -, -, -, -, -, -⟩ := hV
  have lo_b3_4 : w.heap.size ≤ b3_4 := Nat.le_trans kw.size (hg.lo _ _ hb3)
  have ne_b2_2_b3_4 : b2_2 ≠ b3_4 := Nat.ne_of_lt (Nat.lt_of_lt_of_le own_b2_2.lt (hg.lo _ _ hb3))
  have ne_b1_2_b3_4 : b1_2 ≠ b3_4 := Nat.ne_of_lt (Nat.lt_of_lt_of_le own_b1_2.lt (hg.lo _ _ hb3))
  have own_b3_4 : Own W4 b3_4 [(.int .u8 (0)), (.int .i64 (0)), (.string (⟨#[]⟩)), (.slice none 0 0), (.slice none 0 0)] 33 := own_b3_4
  replace e2 := (hR 2 rfl).trans e2
  replace e1 := (hR 1 rfl).trans e1
  replace D_cn0 := sa_more D_cn0 hk [b3_4] (in_cons (hg.lo _ _ hb3) in_nil)
  replace D_ci0 := sa_more D_ci0 hk [b3_4] (in_cons (hg.lo _ _ hb3) in_nil)
  obtain ⟨v15_4a, v15_4n, v15_4c, ev, D_v15_4⟩ := e15
  replace D_v15_4 : Rd W4 (SF w [b3_4, b2_2, b1_2]) (strsD (x.ns)) _ := fr_end (M := [b2_2, b1_2]) D_v15_4 kw [b3_4] (in_cons ⟨_, hb3⟩ in_nil) (in_cons own_b2_2.lt (in_cons own_b1_2.lt in_nil))
  obtain ⟨xa, xc, ev2, D2⟩ := rdS_out D_v15_4
  injection ev2 with h1 h2 h3; subst h1 h2 h3; clear D2
  have e15 : sl a4 15 = (.agg #[(.int .u8 (x.k)), (.int .i64 (x.n)), (.string (x.t)), (.slice v15_4a (x.ns.length) v15_4c), (.slice none 0 0)]) := ev; clear ev
  replace own_b2_2 := own_b2_2.ext hk
  replace own_b1_2 := own_b1_2.ext hk
  replace kw := kw.x hk
  clear hR hk hg hP hb3
  refine tail_store (b := b3_4) (o := 0) (v := (.agg #[(.int .u8 (x.k)), (.int .i64 (x.n)), (.string (x.t)), (.slice v15_4a (x.ns.length) v15_4c), (.slice none 0 0)])) e3 e15 sz33 rfl own_b3_4 (lbr rfl) (all_cons rfl (all_cons rfl (all_cons rfl (all_cons rfl (all_cons rfl all_nil))))) (fun W5 hs own_b3_4 => ?_)
  have own_b3_4 : Own W5 b3_4 [(.int .u8 (x.k)), (.int .i64 (x.n)), (.string (x.t)), (.slice v15_4a (x.ns.length) v15_4c), (.slice none 0 0)] 33 := own_b3_4
  replace own_b2_2 := own_store own_b2_2 hs ne_b2_2_b3_4
  replace own_b1_2 := own_store own_b1_2 hs ne_b1_2_b3_4
  replace D_cn0 := sa_store D_cn0 hs (by simp)
  replace D_ci0 := sa_store D_ci0 hs (by simp)
  replace D_v15_4 := sf_store D_v15_4 hs (by simp)
  replace kw := keeps_store kw hs lo_b3_4
  clear hs
  refine tail_nil (hK3 _ _ ?_)
  refine wp_seq_k fun K6 hK6 => ?_
  refine wp_seq_k fun K7 hK7 => ?_
  refine rg mixed y4 zz4 ?_
  refine .i (fo 4 (hbs rfl e1) Try.underlying33 rfl sz31 rfl) ?_
  refine .i (lo1 (hlc rfl) own_b1_2 trivial agg31 sz31 rfl) ?_
  refine .i (sp_lenVs Try.underlying31 ((hlc rfl).dat D_ci0 sub_all)) ?_
  refine .i (sp_move Has.cst) ?_
  refine .done ⟨by kernel_rfl, fun a8 g W8 y8 zz8 hk hg hV hR hP => ?_⟩
  obtain ⟨e19, e18, e17, -, -⟩ := hV
  replace e2 := (hR 2 rfl).trans e2
  replace e3 := (hR 3 rfl).trans e3
  replace D_cn0 := D_cn0.ext hk
  replace D_ci0 := D_ci0.ext hk
  replace D_v15_4 := D_v15_4.ext hk
  have e17 : sl a8 17 = (.slice ci0a (x.xs.length) ci0c) := e17
  have e18 : sl a8 18 = (.int .i64 (x.xs.length)) := e18
  have e19 : sl a8 19 = (.int .i64 (0)) := e19
  replace own_b2_2 := own_b2_2.ext hk
  replace own_b1_2 := own_b1_2.ext hk
  replace own_b3_4 := own_b3_4.ext hk
  replace kw := kw.x hk
  clear hR hk hg hP
  refine tail_nil (hK7 _ _ ?_)
  refine wp_block ?_
  replace D_ci0 := sa_less (M' := [b3_4, b2_2]) D_ci0 (ls_keep (ls_keep ls_nil))
  replace D_v15_4 := sf_less (M' := [b3_4, b2_2]) D_v15_4 (ls_keep (ls_keep ls_nil))
  have A_ar9 : Arr W8 w.heap.size 33 5 (SF w (blks none ++ (b3_4 :: (b2_2 :: [])))) (List.map V.d ([])) (.slice none 0 0) none := arr_nil _ _ _ _ _
  replace D_ci0 : Rd W8 (SA w S (blks none ++ (b3_4 :: (b2_2 :: [])))) (valsD (x.xs)) (.slice ci0a (x.xs.length) ci0c) := D_ci0
  replace D_v15_4 : Rd W8 (SF w (blks none ++ (b3_4 :: (b2_2 :: [])))) (strsD (x.ns)) (.slice v15_4a (x.ns.length) v15_4c) := D_v15_4
  refine wp_for (x.xs.length) (fun k a W => ∃ (va4_10 : Value), ∃ (hd4_10 : Option Nat), a.tmps.size = 36 ∧ a.defers = [] ∧ Keeps All w W ∧ sl a 2 = (.pointer (some ⟨b2_2, 0, none⟩)) ∧ sl a 3 = (.pointer (some ⟨b3_4, 0, none⟩)) ∧ sl a 17 = (.slice ci0a (x.xs.length) ci0c) ∧ sl a 18 = (.int .i64 (x.xs.length)) ∧ sl a 19 = (.int .i64 ((k : Nat))) ∧ Own W b2_2 [(.int .u8 (0)), (.int .i64 (0)), (.string (⟨#[]⟩)), (.slice none 0 0), (.slice none 0 0)] 33 ∧ Own W b3_4 [(.int .u8 (x.k)), (.int .i64 (x.n)), (.string (x.t)), (.slice v15_4a (x.ns.length) v15_4c), va4_10] 33 ∧ Rd W (SA w S (blks hd4_10 ++ (b3_4 :: (b2_2 :: [])))) (valsD (x.xs)) (.slice ci0a (x.xs.length) ci0c) ∧ Rd W (SF w (blks hd4_10 ++ (b3_4 :: (b2_2 :: [])))) (strsD (x.ns)) (.slice v15_4a (x.ns.length) v15_4c) ∧ Arr W w.heap.size 33 5 (SF w (blks hd4_10 ++ (b3_4 :: (b2_2 :: [])))) (List.map V.d (x.xs.take k)) va4_10 hd4_10 ∧ b2_2 ∉ blks hd4_10 ∧ b3_4 ∉ blks hd4_10) ⟨(.slice none 0 0), none, y8, zz8, kw, e2, e3, e17, e18, (e19.trans (congrArg (Value.int .i64) (rfl))), own_b2_2, own_b3_4, D_ci0, D_v15_4, A_ar9, nb_none, nb_none⟩ ?_
  clear kw e2 e3 e17 e18 e19 own_b2_2 own_b3_4 D_ci0 D_v15_4 A_ar9
  rintro k a10 W10 hkk ⟨va4_10, hd4_10, y10, zz10, kw, e2, e3, e17, e18, e19, own_b2_2, own_b3_4, D_ci0, D_v15_4, A4_10, nb_b2_2_ar9_10, nb_b3_4_ar9_10⟩
  refine wp_seq_k fun K11 hK11 => ?_
  refine rg mixed y10 zz10 ?_
  refine .i (sp_lss (hbs rfl e19) (hbs rfl e18)) ?_
  refine .done ⟨by kernel_rfl, fun a12 g W12 y12 zz12 hk hg hV hR hP => ?_⟩
  obtain ⟨e20, -⟩ := hV
  replace e2 := (hR 2 rfl).trans e2
  replace e3 := (hR 3 rfl).trans e3
  replace e17 := (hR 17 rfl).trans e17
  replace e18 := (hR 18 rfl).trans e18
  replace e19 := (hR 19 rfl).trans e19
  replace A4_10 := A4_10.ext hk
  replace D_ci0 := D_ci0.ext hk
  replace D_v15_4 := D_v15_4.ext hk
  replace e20 := e20.q
  replace own_b2_2 := own_b2_2.ext hk
  replace own_b3_4 := own_b3_4.ext hk
  replace kw := kw.x hk
  clear hR hk hg hP
  refine tail_nil (hK11 _ _ ?_)
  refine wp_seq_k fun K13 hK13 => ?_
  refine wp_cond_split e20 (fun hc => ?_) (fun hc => ?_)
  ·
   have hlt : k < x.xs.length := by simpa using hc
   have hwm := wts_mem hlt
   have hwc := cnts_wts (x.xs[k]).xs
   have hwe := wt_eq x.xs[k]
   refine wp_skip (hK13 _ _ ?_)
   refine wp_seq_k fun K14 hK14 => ?_
   refine wp_block ?_
   refine wp_seq_k fun K15 hK15 => ?_
   refine rg mixed y12 zz12 ?_
   refine .rf (sp_indexV (i := k) ((hbs rfl e17).dat D_ci0 sub_all) (hbs rfl e19) Try.underlying31 sz33 rfl hlt) ?_
   refine .da (sp_loadV (hlc rfl) agg33 sz33) ?_
   refine .alloc z33 ?_
   refine .done ⟨by kernel_rfl, fun a16 g W16 y16 zz16 hk hg hV hR hP => ?_⟩
   obtain ⟨⟨b5_16, e5, hb5, own_b5_16⟩, e22, -, -⟩ := hV
   have lo_b5_16 : w.heap.size ≤ b5_16 := Nat.le_trans kw.size (hg.lo _ _ hb5)
   have ne_b2_2_b5_16 : b2_2 ≠ b5_16 := Nat.ne_of_lt (Nat.lt_of_lt_of_le own_b2_2.lt (hg.lo _ _ hb5))
   have ne_b3_4_b5_16 : b3_4 ≠ b5_16 := Nat.ne_of_lt (Nat.lt_of_lt_of_le own_b3_4.lt (hg.lo _ _ hb5))
   have own_b5_16 : Own W16 b5_16 [(.int .u8 (0)), (.int .i64 (0)), (.string (⟨#[]⟩)), (.slice none 0 0), (.slice none 0 0)] 33 := own_b5_16
   replace e2 := (hR 2 rfl).trans e2
   replace e3 := (hR 3 rfl).trans e3
   replace e17 := (hR 17 rfl).trans e17
   replace e18 := (hR 18 rfl).trans e18
   replace e19 := (hR 19 rfl).trans e19
   have hMx : ∀ b ∈ (blks hd4_10 ++ (b3_4 :: (b2_2 :: []))), b < W12.heap.size := (in_app A4_10.lt (in_cons own_b3_4.lt (in_cons own_b2_2.lt in_nil)))
   have nb_b5_16_ar9 : b5_16 ∉ blks hd4_10 := nb_lt A4_10.lt (hg.lo _ _ hb5)
   replace A4_10 : Arr W16 w.heap.size 33 5 (SF w (b5_16 :: (blks hd4_10 ++ (b3_4 :: (b2_2 :: []))))) (List.map V.d (x.xs.take k)) va4_10 hd4_10 := arrF_more A4_10 hk [b5_16] (in_cons (hg.lo _ _ hb5) in_nil)
   replace D_ci0 : Rd W16 (SA w S (b5_16 :: (blks hd4_10 ++ (b3_4 :: (b2_2 :: []))))) (valsD (x.xs)) (.slice ci0a (x.xs.length) ci0c) := sa_more D_ci0 hk [b5_16] (in_cons (hg.lo _ _ hb5) in_nil)
   replace D_v15_4 : Rd W16 (SF w (b5_16 :: (blks hd4_10 ++ (b3_4 :: (b2_2 :: []))))) (strsD (x.ns)) (.slice v15_4a (x.ns.length) v15_4c) := sf_more D_v15_4 hk [b5_16] (in_cons (hg.lo _ _ hb5) in_nil)
   obtain ⟨v22_16, ev⟩ : ∃ v, sl a16 22 = v := ⟨_, rfl⟩
   rw [ev] at e22
   have D_v22_16 : Rd W16 (SA w S (b5_16 :: (blks hd4_10 ++ (b3_4 :: (b2_2 :: []))))) (V.d (x.xs[k]'hlt)) v22_16 := sa_end e22 hk [b5_16] (in_cons ⟨_, hb5⟩ in_nil)
   replace e22 := ev; clear ev
   obtain ⟨cn22_16a, cn22_16c, ci22_16a, ci22_16c, ev, ht_v22_16, D_cn22_16, D_ci22_16⟩ := rdV_out D_v22_16
   subst ev; clear D_v22_16
   replace own_b2_2 := own_b2_2.ext hk
   replace own_b3_4 := own_b3_4.ext hk
   replace kw := kw.x hk
   clear hR hk hg hP hb5
   refine tail_store (b := b5_16) (o := 0) (v := (.agg #[(.int .u8 ((x.xs[k]'hlt).k)), (.int .i64 ((x.xs[k]'hlt).n)), (.string ((x.xs[k]'hlt).t)), (.slice cn22_16a (((x.xs[k]'hlt).ns).length) cn22_16c), (.slice ci22_16a (((x.xs[k]'hlt).xs).length) ci22_16c)])) e5 e22 sz33 rfl own_b5_16 (lbr rfl) (all_cons rfl (all_cons rfl (all_cons rfl (all_cons rfl (all_cons rfl all_nil))))) (fun W17 hs own_b5_16 => ?_)
   have own_b5_16 : Own W17 b5_16 [(.int .u8 ((x.xs[k]'hlt).k)), (.int .i64 ((x.xs[k]'hlt).n)), (.string ((x.xs[k]'hlt).t)), (.slice cn22_16a (((x.xs[k]'hlt).ns).length) cn22_16c), (.slice ci22_16a (((x.xs[k]'hlt).xs).length) ci22_16c)] 33 := own_b5_16
   replace own_b2_2 := own_store own_b2_2 hs ne_b2_2_b5_16
   replace own_b3_4 := own_store own_b3_4 hs ne_b3_4_b5_16
   replace D_ci0 := sa_store D_ci0 hs (by simp)
   replace D_v15_4 := sf_store D_v15_4 hs (by simp)
   replace D_cn22_16 := sa_store D_cn22_16 hs (by simp)
   replace D_ci22_16 := sa_store D_ci22_16 hs (by simp)
   replace A4_10 := arrF_store A4_10 hs (by simp) nb_b5_16_ar9
   replace kw := keeps_store kw hs lo_b5_16
   clear hs
   refine tail_nil (hK15 _ _ ?_)
   refine wp_seq_k fun K18 hK18 => ?_
   refine wp_seq_k fun K19 hK19 => ?_
   refine rg mixed y16 zz16 ?_
   refine .i (fo 4 (hbs rfl e5) Try.underlying33 rfl sz31 rfl) ?_
   refine .i (lo1 (hlc rfl) own_b5_16 trivial agg31 sz31 rfl) ?_
   refine .i (v := (.bool (false))) (sp_call4 (φ1 := IsD (SA w S (b5_16 :: (blks hd4_10 ++ (b3_4 :: (b2_2 :: []))))) (valsD ((x.xs[k]'hlt).xs))) (φ2 := Is (.int .i64 (1))) (φ3 := Is (.pointer none)) (φ4 := Is (.bool (false))) ent137 ((hlc rfl).dat D_ci22_16 sub_all) Has.cst Has.cst Has.cst (fun g u1 u2 u3 u4 W hk hgk h1 h2 h3 h4 => by have h2 : u2 = _ := h2; subst u2; have h3 : u3 = _ := h3; subst u3; have h4 : u4 = _ := h4; subst u4; exact endless_all _ ((x.xs[k]'hlt).xs) (Nat.lt_succ_self _) (1) (by omega) (by omega) (false) _ W _ _ (fun b o h => sa_cln hS b o h.1) h1 (Or.inl rfl))) ?_
   refine .done ⟨by kernel_rfl, fun a20 g W20 y20 zz20 hk hg hV hR hP => ?_⟩
   obtain ⟨e25, -, -, -⟩ := hV
   replace e2 := (hR 2 rfl).trans e2
   replace e3 := (hR 3 rfl).trans e3
   replace e17 := (hR 17 rfl).trans e17
   replace e18 := (hR 18 rfl).trans e18
   replace e19 := (hR 19 rfl).trans e19
   replace e5 := (hR 5 rfl).trans e5
   replace A4_10 := A4_10.ext hk
   replace D_ci0 := D_ci0.ext hk
   replace D_v15_4 := D_v15_4.ext hk
   replace D_cn22_16 := D_cn22_16.ext hk
   replace D_ci22_16 := D_ci22_16.ext hk
   have e25 : sl a20 25 = (.bool (false)) := e25
   replace own_b2_2 := own_b2_2.ext hk
   replace own_b3_4 := own_b3_4.ext hk
   replace own_b5_16 := own_b5_16.ext hk
   replace kw := kw.x hk
   clear hR hk hg hP
   refine tail_nil (hK19 _ _ ?_)
   refine wp_cond_false e25 ?_
   refine wp_skip (hK18 _ _ ?_)
   refine wp_reg (fun k => k ∉ blks hd4_10) (Ψ := fun W => Arr W w.heap.size 33 5 (SF w (b5_16 :: (blks hd4_10 ++ (b3_4 :: (b2_2 :: []))))) (List.map V.d (x.xs.take k)) va4_10 hd4_10) mixed y20 zz20 (fun W W' k h => h.ext k) A4_10 ?_
   refine .i (fo 4 (hbs rfl e3) Try.underlying33 rfl sz31 rfl) ?_
   refine .i (lo1 (hlc rfl) own_b3_4 nb_b3_4_ar9_10 agg31 sz31 rfl) ?_
   refine .i (v := (.agg #[(.int .u8 ((x.xs[k]'hlt).k)), (.int .i64 ((x.xs[k]'hlt).n)), (.string ((x.xs[k]'hlt).t)), (.slice cn22_16a (((x.xs[k]'hlt).ns).length) cn22_16c), (.slice ci22_16a (((x.xs[k]'hlt).xs).length) ci22_16c)])) (loA (hbs rfl e5) own_b5_16 nb_b5_16_ar9 agg33 sz33 rfl rfl) ?_
   refine .op (φ := IsD (Fr W20) (V.d ((x.xs[k]'hlt)))) (st_d (sub_frnb (fun b hb => A4_10.lt b hb))) (sp_call1 (φ1 := IsD (SA w S (b5_16 :: (blks hd4_10 ++ (b3_4 :: (b2_2 :: []))))) (V.d ((x.xs[k]'hlt)))) ent138 ((hlc rfl).dat (rdV_in (x := (x.xs[k]'hlt)) ht_v22_16 D_cn22_16 D_ci22_16 : Rd W20 (SA w S (b5_16 :: (blks hd4_10 ++ (b3_4 :: (b2_2 :: []))))) (V.d ((x.xs[k]'hlt))) _) (sub_nb (fun b hb => List.mem_cons_of_mem _ (List.mem_append_left _ hb)))) (fun g u1 W hk hgk h1 => (duplicate_all _ ((x.xs[k]'hlt)) (Nat.le_refl _) (by omega) W _ _ h1).mono (ret_fr hk hgk))) ?_
   refine .op (φ := IsD (SF w (b5_16 :: (blks hd4_10 ++ (b3_4 :: (b2_2 :: []))))) (valsD ([(x.xs[k]'hlt)]))) (st_d (sub_nbF (fun b hb => List.mem_cons_of_mem _ (List.mem_append_left _ hb)))) (sp_bsl (ds := [V.d ((x.xs[k]'hlt))]) Try.underlying31 sz33 z33 (lbr rfl) (lbr rfl) ⟨rfl, ((hlc rfl).sup (fr_sf kw (in_cons own_b5_16.lt (in_app A4_10.lt (in_cons own_b3_4.lt (in_cons own_b2_2.lt in_nil)))))), trivial⟩ rfl (by intro e he; simp at he; rcases he with rfl <;> exact width_V _) (fr_sf kw (in_cons own_b5_16.lt (in_app A4_10.lt (in_cons own_b3_4.lt (in_cons own_b2_2.lt in_nil)))))) ?_
   refine .appB (ds := List.map V.d (x.xs.take k)) (es := [V.d ((x.xs[k]'hlt))]) (X := SF w (b5_16 :: (blks hd4_10 ++ (b3_4 :: (b2_2 :: []))))) Try.underlying31 inf33 (lbr rfl) (hlc rfl) (hlc rfl) (sub_nbF (fun b hb => List.mem_cons_of_mem _ (List.mem_append_left _ hb))) (by simp [maxLen]; omega) (by simp; omega) kw.size ?_
   refine .i (fo 4 (hbs rfl e3) Try.underlying33 rfl sz31 rfl) ?_
   refine .done ⟨by kernel_rfl, fun a21 g W21 y21 zz21 hk hg hV hR hP => ?_⟩
   obtain ⟨e33, e32, -, -, -, -, -, -⟩ := hV
   replace e2 := (hR 2 rfl).trans e2
   replace e3 := (hR 3 rfl).trans e3
   replace e17 := (hR 17 rfl).trans e17
   replace e18 := (hR 18 rfl).trans e18
   replace e19 := (hR 19 rfl).trans e19
   obtain ⟨v32_21, ev⟩ : ∃ v, sl a21 32 = v := ⟨_, rfl⟩
   rw [ev] at e32
   obtain ⟨hd32_21, A_32_21, hf32_21⟩ := e32
   have e32 := ev; clear ev
   obtain ⟨v32_21a, v32_21n, v32_21c, ev⟩ := arr_sl A_32_21; subst ev
   replace A_32_21 := arrF_new (M' := (b5_16 :: (blks hd32_21 ++ (b3_4 :: (b2_2 :: []))))) A_32_21 (rep_cons (rep_app (rep_q fun _ h => h) (rep_cons (rep_cons rep_nil))))
   replace A_32_21 : Arr W21 w.heap.size 33 5 (SF w (b5_16 :: (blks hd32_21 ++ (b3_4 :: (b2_2 :: []))))) (List.map V.d ((x.xs.take k) ++ [(x.xs[k]'hlt)])) (.slice v32_21a v32_21n v32_21c) hd32_21 := by first | exact A_32_21 | (rw [List.map_append]; exact A_32_21)
   have nb_b2_2_21 : b2_2 ∉ blks hd32_21 := nb_new nb_b2_2_ar9_10 own_b2_2.lt hf32_21
   have nb_b3_4_21 : b3_4 ∉ blks hd32_21 := nb_new nb_b3_4_ar9_10 own_b3_4.lt hf32_21
   have nb_b5_16_21 : b5_16 ∉ blks hd32_21 := nb_new nb_b5_16_ar9 own_b5_16.lt hf32_21
   replace D_ci0 := sa_app (M' := (b5_16 :: (blks hd32_21 ++ (b3_4 :: (b2_2 :: []))))) D_ci0 hk (fun b hb => List.mem_cons_of_mem _ (List.mem_append_left _ hb)) (rep_cons (rep_app hf32_21 (rep_cons (rep_cons rep_nil))))
   replace D_v15_4 := sf_app (M' := (b5_16 :: (blks hd32_21 ++ (b3_4 :: (b2_2 :: []))))) D_v15_4 hk (fun b hb => List.mem_cons_of_mem _ (List.mem_append_left _ hb)) (rep_cons (rep_app hf32_21 (rep_cons (rep_cons rep_nil))))
   replace D_cn22_16 := sa_app (M' := (b5_16 :: (blks hd32_21 ++ (b3_4 :: (b2_2 :: []))))) D_cn22_16 hk (fun b hb => List.mem_cons_of_mem _ (List.mem_append_left _ hb)) (rep_cons (rep_app hf32_21 (rep_cons (rep_cons rep_nil))))
   replace D_ci22_16 := sa_app (M' := (b5_16 :: (blks hd32_21 ++ (b3_4 :: (b2_2 :: []))))) D_ci22_16 hk (fun b hb => List.mem_cons_of_mem _ (List.mem_append_left _ hb)) (rep_cons (rep_app hf32_21 (rep_cons (rep_cons rep_nil))))
   replace own_b2_2 := own_app own_b2_2 hk nb_b2_2_ar9_10
   replace own_b3_4 := own_app own_b3_4 hk nb_b3_4_ar9_10
   replace own_b5_16 := own_app own_b5_16 hk nb_b5_16_ar9
   replace kw := keeps_app kw hk A4_10.ge
   have e33 : sl a21 33 = (.pointer (some ⟨b3_4, 4, none⟩)) := e33
   clear hR hk hg hP hf32_21 A4_10
   refine tail_store (b := b3_4) (o := 4) (v := (.slice v32_21a v32_21n v32_21c)) e33 e32 sz31 rfl own_b3_4 (lbr rfl) (all_cons rfl all_nil) (fun W22 hs own_b3_4 => ?_)
   have own_b3_4 : Own W22 b3_4 [(.int .u8 (x.k)), (.int .i64 (x.n)), (.string (x.t)), (.slice v15_4a (x.ns.length) v15_4c), (.slice v32_21a v32_21n v32_21c)] 33 := own_b3_4
   replace own_b2_2 := own_store own_b2_2 hs ne_b2_2_b3_4
   replace own_b5_16 := own_store own_b5_16 hs ne_b3_4_b5_16.symm
   replace D_ci0 := sa_store D_ci0 hs (by simp)
   replace D_v15_4 := sf_store D_v15_4 hs (by simp)
   replace D_cn22_16 := sa_store D_cn22_16 hs (by simp)
   replace D_ci22_16 := sa_store D_ci22_16 hs (by simp)
   replace A_32_21 := arrF_store A_32_21 hs (by simp) nb_b3_4_21
   replace kw := keeps_store kw hs lo_b3_4
   clear hs
   refine tail_nil (hK14 _ _ ?_)
   refine rg mixed y21 zz21 ?_
   refine .i (sp_add (hbs rfl e19) Has.cst (i64_in (by omega))) ?_
   refine .i (sp_move (hlc rfl)) ?_
   refine .done ⟨by kernel_rfl, fun a23 g W23 y23 zz23 hk hg hV hR hP => ?_⟩
   obtain ⟨e19, -, -⟩ := hV
   replace e2 := (hR 2 rfl).trans e2
   replace e3 := (hR 3 rfl).trans e3
   replace e17 := (hR 17 rfl).trans e17
   replace e18 := (hR 18 rfl).trans e18
   replace A_32_21 := A_32_21.ext hk
   replace D_ci0 := D_ci0.ext hk
   replace D_v15_4 := D_v15_4.ext hk
   replace e19 := e19.q
   replace own_b2_2 := own_b2_2.ext hk
   replace own_b3_4 := own_b3_4.ext hk
   replace own_b5_16 := own_b5_16.ext hk
   replace kw := kw.x hk
   clear hR hk hg hP
   rw [show (x.xs.take k) ++ [(x.xs[k]'hlt)] = x.xs.take (k + 1) by rw [List.take_succ_eq_append_getElem hlt]] at A_32_21
   exact tail_nil ⟨hlt, (.slice v32_21a v32_21n v32_21c), hd32_21, y23, zz23, kw, e2, e3, e17, e18, (e19.trans (congrArg (Value.int .i64) (by simp))), own_b2_2, own_b3_4, (sa_less D_ci0 (ls_skip (ls_keepA (ls_keep (ls_keep ls_nil))))), (sf_less D_v15_4 (ls_skip (ls_keepA (ls_keep (ls_keep ls_nil))))), (arrF_less A_32_21 (ls_skip (ls_keepA (ls_keep (ls_keep ls_nil))))), nb_b2_2_21, nb_b3_4_21⟩
  ·
   have hge0 : ¬ k < x.xs.length := by simpa using hc
   have hge : k = x.xs.length := by omega
   rw [show x.xs.take k = x.xs by rw [hge, List.take_length]] at A4_10
   have D_va4_10 : Rd W12 (SF w [b3_4, b2_2]) (valsD (x.xs)) va4_10 := arrF_rd A4_10 (ls_skipA (ls_keep (ls_keep ls_nil))) (nin_cons nb_b3_4_ar9_10 (nin_cons nb_b2_2_ar9_10 nin_nil))
   obtain ⟨va4_10a, va4_10c, ev, D2⟩ := rdVs_out D_va4_10
   subst ev; replace D_va4_10 := D2; clear D2
   replace D_ci0 := sa_less (M' := [b3_4, b2_2]) D_ci0 (ls_skipA (ls_keep (ls_keep ls_nil)))
   replace D_v15_4 := sf_less (M' := [b3_4, b2_2]) D_v15_4 (ls_skipA (ls_keep (ls_keep ls_nil)))
   refine wp_exit (hK6 _ _ ?_)
   refine wp_seq_k fun K24 hK24 => ?_
   refine rg mixed y12 zz12 ?_
   refine .i (v := (.agg #[(.int .u8 (x.k)), (.int .i64 (x.n)), (.string (x.t)), (.slice v15_4a (x.ns.length) v15_4c), (.slice va4_10a (x.xs.length) va4_10c)])) (loA (hbs rfl e3) own_b3_4 trivial agg33 sz33 rfl rfl) ?_
   refine .done ⟨by kernel_rfl, fun a25 g W25 y25 zz25 hk hg hV hR hP => ?_⟩
   obtain ⟨e35, -⟩ := hV
   replace e2 := (hR 2 rfl).trans e2
   replace D_ci0 := D_ci0.ext hk
   replace D_v15_4 := D_v15_4.ext hk
   replace D_va4_10 := D_va4_10.ext hk
   replace e35 := e35.q
   replace own_b2_2 := own_b2_2.ext hk
   replace own_b3_4 := own_b3_4.ext hk
   replace kw := kw.x hk
   clear hR hk hg hP
   refine tail_store (b := b2_2) (o := 0) (v := (.agg #[(.int .u8 (x.k)), (.int .i64 (x.n)), (.string (x.t)), (.slice v15_4a (x.ns.length) v15_4c), (.slice va4_10a (x.xs.length) va4_10c)])) e2 e35 sz33 rfl own_b2_2 (lbr rfl) (all_cons rfl (all_cons rfl (all_cons rfl (all_cons rfl (all_cons rfl all_nil))))) (fun W26 hs own_b2_2 => ?_)
   have own_b2_2 : Own W26 b2_2 [(.int .u8 (x.k)), (.int .i64 (x.n)), (.string (x.t)), (.slice v15_4a (x.ns.length) v15_4c), (.slice va4_10a (x.xs.length) va4_10c)] 33 := own_b2_2
   replace own_b3_4 := own_store own_b3_4 hs ne_b2_2_b3_4.symm
   replace D_ci0 := sa_store D_ci0 hs (by simp)
   replace D_v15_4 := sf_store D_v15_4 hs (by simp)
   replace D_va4_10 := sf_store D_va4_10 hs (by simp)
   replace kw := keeps_store kw hs lo_b2_2
   clear hs
   refine tail_nil (hK24 _ _ ?_)
   refine wp_ret ?_
   refine (show bodyPost Try.prog Try.f79 _ .ret _ _ from retC (v := (.agg #[(.int .u8 (x.k)), (.int .i64 (x.n)), (.string (x.t)), (.slice v15_4a (x.ns.length) v15_4c), (.slice va4_10a (x.xs.length) va4_10c)])) rfl zz25 e2 own_b2_2 agg33 sz33 rfl (fun h => by cases h) rfl ⟨_, rfl, kw, ?_⟩)
   exact sf_fr (rdV_in (x := x) ht0 D_v15_4 D_va4_10 : Rd W26 (SF w [b3_4, b2_2]) (V.d (x)) _)
end Go.Proofs.Ytnobijngkpflcaa
namespace Go.Eng
def idx (name : ByteArray) : List ByteArray → Nat → Int
  | [], _ => -1
  | n :: ns, i => if name = n then i else idx name ns (i + 1)
def V.zero : V := .mk 0 0 ⟨#[]⟩ [] []
end Go.Eng
namespace Go.Eng
section
variable {P : Program} {Q : Exit → Act → World → Prop} {a : Act} {w : World}
def LoopAt (P : Program) (c : Code) (Q : Exit → Act → World → Prop) (a : Act) (w : World) : Prop :=
  ∀ b k cs, ∃ e a' w', Q e a' w' ∧ Arrives P (lone (b.at a (.code c :: .inLoop c :: k)) cs w) b k cs e a' w'
theorem wp_loopAt {c : Code} (h : LoopAt P c Q a w) : (Code.loop c).wp P Q a w := by
  intro b k cs
  obtain ⟨e, a', w', hq, harr⟩ := h b k cs
  exact ⟨e, a', w', hq, .of_steps (.one step_loop) harr⟩
theorem loopAt {c : Code} (h : c.wp P (Exit.then (fun a' w' => LoopAt P c Q a' w') Q) a w) : LoopAt P c Q a w := by
  intro b k cs
  obtain ⟨e, a₁, w₁, hq, harr⟩ := h b (.inLoop c :: k) cs
  cases e with
  | normal =>
    obtain ⟨e₂, a₂, w₂, hq₂, harr₂⟩ := hq b k cs
    exact ⟨e₂, a₂, w₂, hq₂, .of_steps (Steps.trans harr (.one step_inLoop)) harr₂⟩
  | exit id => exact ⟨_, a₁, w₁, hq, .pass (x := .inLoop c) rfl (fun _ _ => .inl (by simp)) harr⟩
  | goto l => exact ⟨_, a₁, w₁, hq, .pass (x := .inLoop c) rfl (fun _ _ => .inl (by simp)) harr⟩
  | ret => exact ⟨_, a₁, w₁, hq, .pass (x := .inLoop c) rfl (fun _ _ => .inl (by simp)) harr⟩
  | panic ch => exact ⟨_, a₁, w₁, hq, .pass (x := .inLoop c) rfl (fun _ _ => .inl (by simp)) harr⟩
  | outgrown => exact ⟨_, a₁, w₁, hq, .pass (x := .inLoop c) rfl (fun _ _ => .inl (by simp)) harr⟩
end
theorem RowIs.set {W : World} {X : BSet} {sz : Nat} {d : D} {c : List Value} (hl : c.length = sz) (h : RdC W X d c) : ∀ {ds : List D} {cs : List Value} (i : Nat), i < ds.length → RowIs W X sz ds cs → RowIs W X sz (ds.set i d) (splice cs (i * sz) c)
  | [], _, i, hi, _ => by simp at hi
  | e :: ds, cs, 0, _, hr => by
    simp only [RowIs] at hr
    obtain ⟨c1, r, rfl, h1, h2, h3⟩ := hr
    simp only [List.set_cons_zero, RowIs]
    exact ⟨c, r, by simp [splice, hl, ← h1], hl, h, h3⟩
  | e :: ds, cs, i + 1, hi, hr => by
    simp only [RowIs] at hr
    obtain ⟨c1, r, rfl, h1, h2, h3⟩ := hr
    simp only [List.set_cons_succ, RowIs]
    refine ⟨c1, splice r (i * sz) c, ?_, h1, h2, RowIs.set hl h i (by simpa using hi) h3⟩
    unfold splice
    rw [Nat.add_mul, Nat.one_mul, Nat.add_comm (i * sz) sz, ← h1, List.take_append, List.drop_append]
    simp [List.take_of_length_le, Nat.add_assoc]
theorem arr_open {W : World} {lo : Nat} {e : TypeId} {sz : Nat} {X : BSet} {ds : List D} {v : Value} {hd : Option Nat} (h : Arr W lo e sz X ds v hd) (hn : 0 < ds.length) : ∃ g cap, v = .slice (some ⟨g, 0, none⟩) ds.length cap ∧ hd = some g := by
  obtain ⟨h1, cs, h2, _⟩ := h
  rcases h2.2 with ⟨_, h0⟩ | ⟨g, cap, cur, rfl, _⟩
  · omega
  · exact ⟨g, cap, rfl, h1.symm⟩
section
variable {P : Program} {ops : Array Oper} {S : Nat → Prop} {w0 : World} {a0 : Act} {Γ : Ctx}
variable {d : Option Tmp} {ty : TypeId} {pos : String} {af : Array Edge} {gd : Option (Nat × Bool)}
theorem sp_rem {x y : Operand} {k : IntKind} {m n : Int} {T T' : TypeId} (hx : Has S w0 a0 Γ x (Is (.int k m))) (hy : Has S w0 a0 Γ y (Is (.int k n))) (hn : n ≠ 0) : Spec P ops S w0 a0 Γ ⟨d, .binOp .rem T x y T', ty, pos, af, gd⟩ (Is (.int k (m.tmod n))) := sp_val fun a g W hk hg he => by
  have e1 : a.eval x = .int k m := hx.of_env hk hg he (by simp [Op.operands])
  have e2 : a.eval y = .int k n := hy.of_env hk hg he (by simp [Op.operands])
  simp [execOp, e1, e2, binOp, Op.intArith, Op.intDiv, eqGuard, hn]
theorem rdl_take {W : World} {X : BSet} {b sz : Nat} : ∀ (ds : List D) (h o : Nat), RdL W X b sz ds o → RdL W X b sz (ds.take h) o
  | [], h, _, _ => by simp [RdL]
  | d :: ds, 0, _, _ => by simp [RdL]
  | d :: ds, h + 1, o, hr => by
    simp only [List.take_succ_cons, RdL] at hr ⊢
    exact ⟨hr.1, rdl_take ds h _ hr.2⟩
theorem sp_sliceDHi {x y : Operand} {T E : TypeId} {X : BSet} {sz h : Nat} {j : Int} {ds : List D} (hT : P.underlying T = some (.slice E)) (hz : szOf P E = some sz) (hx : Has S w0 a0 Γ x (IsD X (.lst sz ds))) (hy : Has S w0 a0 Γ y (Is (.int .i64 j))) (hj : j = h) (hh : h ≤ ds.length) (hne : 0 < ds.length) :
    Spec P ops S w0 a0 Γ ⟨d, .slice T x none (some y) none, ty, pos, af, gd⟩ (IsD X (.lst sz (ds.take h))) := fun a g W hk hg he => by
  have hd := hx.of_env hk hg he (by simp [Op.operands])
  have e2 : a.eval y = .int .i64 j := hy.of_env hk hg he (by simp [Op.operands])
  obtain ⟨cs, h1, e1⟩ := hd
  simp only [RdC] at h1
  obtain ⟨ad, cap, rfl, hc1, hc2, h4⟩ := h1
  simp only [asm, List.headD] at e1
  rcases h4 with rfl | ⟨b, o, rfl, hb, hlt, hl⟩
  · simp at hne
  subst hj
  have hjc : (h : Int) ≤ (cap : Int) := by omega
  have hrun : (execOp a.eval ⟨d, .slice T x none (some y) none, ty, pos, af, gd⟩).run P W = .ok (.value (.slice (some ⟨b, o, none⟩) h cap)) W := by
    have hadd : (⟨b, o, none⟩ : Addr).add 0 = ⟨b, o, none⟩ := by simp [Addr.add]
    simp [execOp, Instr.sliceAt, Instr.slice, Instr.sliceBounds, Instr.sliceBound, asIntOf, e1, e2, run_und hT, run_szOf hz, hjc, hadd]
    intro hlt'; omega
  unfold OpRuns
  rw [hrun]
  refine ⟨.refl _ _, [.slice (some ⟨b, o, none⟩) h cap], ?_, rfl⟩
  simp only [RdC]
  have hl2 : (ds.take h).length = h := by simp; omega
  exact ⟨some ⟨b, o, none⟩, cap, by rw [hl2], by omega, hc2, .inr ⟨b, o, rfl, hb, hlt, rdl_take ds h o hl⟩⟩
end
theorem rdC_zV (W : World) (X : BSet) : RdC W X (V.d V.zero) [.int .u8 0, .int .i64 0, .string ⟨#[]⟩, .slice none 0 0, .slice none 0 0] := by
  rw [V.d_eq]; simp only [RdC]; exact zV W X
end Go.Eng
namespace Go.Eng
theorem u8_in {n : Int} (h : 0 ≤ n ∧ n < 256) : IntKind.u8.wrap n = n := by
  simp only [IntKind.wrap, IntKind.signed, IntKind.bits]
  simp
  omega
abbrev As := List (ByteArray × Int)
def mget : As → ByteArray → Int
  | [], _ => 0
  | (s, n) :: r, k => if k = s then n else mget r k
def MapIs (es : List MapEntry) (A : As) : Prop := es.map (fun e => (e.key, e.val)) = A.map fun q => (Value.string q.1, Value.int .i64 q.2)
def OwnM (W : World) (b : Nat) (A : As) : Prop := ∃ es clock, W.heap[b]? = some (.map es clock) ∧ MapIs es.toList A
theorem OwnM.lt {W : World} {b : Nat} {A : As} (h : OwnM W b A) : b < W.heap.size := by
  obtain ⟨_, _, h, _⟩ := h; exact (Array.getElem?_eq_some_iff.1 h).1
theorem OwnM.keeps {W W' : World} {b : Nat} {A : As} {S : Nat → Prop} (h : OwnM W b A) (k : Keeps S W W') (hs : S b) : OwnM W' b A := by
  obtain ⟨es, c, h1, h2⟩ := h
  exact ⟨es, c, (k.block b (Array.getElem?_eq_some_iff.1 h1).1 hs).trans h1, h2⟩
theorem OwnM.ext {W W' : World} {b : Nat} {A : As} (h : OwnM W b A) (k : Ext W W') : OwnM W' b A := h.keeps k trivial
section
variable {P : Program} {ops : Array Oper} {S : Nat → Prop} {w0 : World} {a0 : Act} {Γ : Ctx}
variable {d : Option Tmp} {ty : TypeId} {pos : String} {af : Array Edge} {gd : Option (Nat × Bool)}
variable {K : List Oper → Ctx → (World → Prop) → List Bool → Prop} {l : List Oper} {Ψ Ψ' : World → Prop} {ms : List Bool} {fl : Bool}
theorem sp_indexStr {x y : Operand} {T : TypeId} {s : ByteArray} {j : Int} {i : Nat} (hT : P.underlying T = some .string) (hx : Has S w0 a0 Γ x (Is (.string s))) (hy : Has S w0 a0 Γ y (Is (.int .i64 j))) (hj : j = i) (hi : i < s.size) :
    Spec P ops S w0 a0 Γ ⟨d, .index T x y, ty, pos, af, gd⟩ (Is (.int .u8 ((s[i]'hi).toNat : Nat))) := sp_val fun a g W hk hg he => by
  have e1 : a.eval x = .string s := hx.of_env hk hg he (by simp [Op.operands])
  have e2 : a.eval y = .int .i64 j := hy.of_env hk hg he (by simp [Op.operands])
  subst hj
  have hs : s[(i : Int).toNat]? = some (s[i]'hi) := by simp [hi]
  have h0 : (0 : Int) ≤ (i : Int) := by omega
  simp [execOp, e1, e2, Instr.index, asIntOf, run_und hT, h0, hi]
end
end Go.Eng
namespace Go.Eng
structure Au where
  th : Int
  ids : List ByteArray
def Au.d (a : Au) : D := .agg [.int .i64 a.th, strsD a.ids]
structure Mb where
  nm : ByteArray
  v : V
def Mb.d (a : Mb) : D := .agg [.str a.nm, a.v.d]
def mbsD (l : List Mb) : D := .lst 6 (l.map Mb.d)
structure Hs where
  al : ByteArray
  hx : ByteArray
def Hs.d (a : Hs) : D := .agg [.str a.al, .str a.hx]
def hssD (l : List Hs) : D := .lst 2 (l.map Hs.d)
structure Rc where
  ln : Int
  hs : List Hs
  cu : V
def Rc.d (a : Rc) : D := .agg [.int .i64 a.ln, hssD a.hs, a.cu.d]
section
variable {W : World} {S : BSet} {v : Value}
theorem rdL_out {sz : Nat} {ds : List D} {n : Nat} (hn : ds.length = n) (h : Rd W S (.lst sz ds) v) : ∃ ad cap, v = .slice ad n cap ∧ Rd W S (.lst sz ds) (.slice ad n cap) := by
  have h' := h
  obtain ⟨cs, h1, h2⟩ := h
  simp only [RdC] at h1
  obtain ⟨ad, cap, rfl, _⟩ := h1
  have e : v = .slice ad n cap := by rw [h2, hn]; rfl
  exact ⟨ad, cap, e, e ▸ h'⟩
theorem rdMbs_out {l : List Mb} (h : Rd W S (mbsD l) v) : ∃ ad cap, v = .slice ad l.length cap ∧ Rd W S (mbsD l) (.slice ad l.length cap) := rdL_out (by simp) h
theorem rdHss_out {l : List Hs} (h : Rd W S (hssD l) v) : ∃ ad cap, v = .slice ad l.length cap ∧ Rd W S (hssD l) (.slice ad l.length cap) := rdL_out (by simp) h
theorem rdHs_out {a : Hs} (h : Rd W S a.d v) : v = .agg #[.string a.al, .string a.hx] ∧ a.al.size ≤ maxLen ∧ a.hx.size ≤ maxLen := by
  obtain ⟨cs, h1, rfl⟩ := h
  simp only [Hs.d, RdC, RdF] at h1
  obtain ⟨_, _, rfl, ⟨rfl, h2⟩, _, _, rfl, ⟨rfl, h3⟩, rfl⟩ := h1
  exact ⟨rfl, h2, h3⟩
theorem rdHs_mk {al hx : ByteArray} (h1 : al.size ≤ maxLen) (h2 : hx.size ≤ maxLen) : Rd W S (Hs.d ⟨al, hx⟩) (.agg #[.string al, .string hx]) :=
  ⟨[.string al, .string hx], by simp only [Hs.d, RdC, RdF]; exact ⟨[_], _, rfl, ⟨rfl, h1⟩, [_], [], rfl, ⟨rfl, h2⟩, rfl⟩, rfl⟩
theorem vcells {x : V} {cs : List Value} (h : RdC W S x.d cs) : ∃ a1 c1 a2 c2, cs = [.int .u8 x.k, .int .i64 x.n, .string x.t, .slice a1 x.ns.length c1, .slice a2 x.xs.length c2] ∧ x.t.size ≤ maxLen ∧ Rd W S (strsD x.ns) (.slice a1 x.ns.length c1) ∧ Rd W S (valsD x.xs) (.slice a2 x.xs.length c2) := by
  obtain ⟨a1, c1, a2, c2, e, h1, h2, h3⟩ := rdV_out (⟨cs, h, rfl⟩ : Rd W S x.d (asm x.d cs))
  refine ⟨a1, c1, a2, c2, ?_, h1, h2, h3⟩
  rw [V.d_eq] at e
  simp only [asm, Value.agg.injEq] at e
  have := congrArg Array.toList e
  simpa using this
theorem rdcV {x : V} {cs : Array Value} (h : Rd W S x.d (.agg cs)) : RdC W S x.d cs.toList := by
  obtain ⟨c, h1, e⟩ := h
  rw [V.d_eq] at e
  simp only [asm, Value.agg.injEq] at e
  subst e; simpa using h1
theorem rdMb_out {a : Mb} (h : Rd W S a.d v) : ∃ a1 c1 a2 c2, v = .agg #[.string a.nm, .int .u8 a.v.k, .int .i64 a.v.n, .string a.v.t, .slice a1 a.v.ns.length c1, .slice a2 a.v.xs.length c2] ∧ a.nm.size ≤ maxLen ∧ a.v.t.size ≤ maxLen ∧ Rd W S (strsD a.v.ns) (.slice a1 a.v.ns.length c1) ∧ Rd W S (valsD a.v.xs) (.slice a2 a.v.xs.length c2) := by
  obtain ⟨cs, h1, rfl⟩ := h
  simp only [Mb.d, RdC, RdF] at h1
  obtain ⟨_, _, rfl, ⟨rfl, h2⟩, c2, _, rfl, h3, rfl⟩ := h1
  obtain ⟨a1, c1, a2, c2', rfl, h4, h5, h6⟩ := vcells h3
  exact ⟨a1, c1, a2, c2', rfl, h2, h4, h5, h6⟩
theorem rdMb_mk {nm : ByteArray} {x : V} {c1 c2 c3 c4 c5 : Value} (h : nm.size ≤ maxLen) (hv : Rd W S x.d (.agg #[c1, c2, c3, c4, c5])) : Rd W S (Mb.d ⟨nm, x⟩) (.agg #[.string nm, c1, c2, c3, c4, c5]) :=
  ⟨[.string nm, c1, c2, c3, c4, c5], by simp only [Mb.d, RdC, RdF]; exact ⟨[_], _, rfl, ⟨rfl, h⟩, [c1, c2, c3, c4, c5], [], rfl, rdcV hv, rfl⟩, rfl⟩
theorem rdRc_out {a : Rc} (h : Rd W S a.d v) : ∃ a0 c0 a1 c1 a2 c2, v = .agg #[.int .i64 a.ln, .slice a0 a.hs.length c0, .int .u8 a.cu.k, .int .i64 a.cu.n, .string a.cu.t, .slice a1 a.cu.ns.length c1, .slice a2 a.cu.xs.length c2] ∧ a.cu.t.size ≤ maxLen ∧ Rd W S (hssD a.hs) (.slice a0 a.hs.length c0) ∧ Rd W S (strsD a.cu.ns) (.slice a1 a.cu.ns.length c1) ∧ Rd W S (valsD a.cu.xs) (.slice a2 a.cu.xs.length c2) := by
  obtain ⟨cs, h1, rfl⟩ := h
  simp only [Rc.d, RdC, RdF] at h1
  obtain ⟨_, _, rfl, rfl, c2, _, rfl, h2, c3, _, rfl, h3, rfl⟩ := h1
  obtain ⟨c, rfl⟩ : ∃ c, c2 = [c] := by simp only [hssD, RdC] at h2; obtain ⟨a, cap, e, _⟩ := h2; exact ⟨_, e⟩
  obtain ⟨a0, c0, e0, h5⟩ := rdHss_out (rd_one1 h2 rfl)
  subst e0
  obtain ⟨a1, c1, a2, c2', rfl, h4, h6, h7⟩ := vcells h3
  exact ⟨a0, c0, a1, c1, a2, c2', rfl, h4, h5, h6, h7⟩
theorem rdRc_mk {ln : Int} {hs : List Hs} {x : V} {c0 c1 c2 c3 c4 c5 : Value} (h : Rd W S (hssD hs) c0) (hv : Rd W S x.d (.agg #[c1, c2, c3, c4, c5])) : Rd W S (Rc.d ⟨ln, hs, x⟩) (.agg #[.int .i64 ln, c0, c1, c2, c3, c4, c5]) :=
  ⟨[.int .i64 ln, c0, c1, c2, c3, c4, c5], by simp only [Rc.d, RdC, RdF]; exact ⟨[_], _, rfl, rfl, [c0], _, rfl, rdc_one1 h rfl, [c1, c2, c3, c4, c5], [], rfl, rdcV hv, rfl⟩, rfl⟩
theorem width_Hs (a : Hs) : width a.d = 2 := rfl
theorem width_Mb (a : Mb) : width a.d = 6 := by simp [Mb.d, width, widths, width_V]
theorem width_Rc (a : Rc) : width a.d = 7 := by simp [Rc.d, hssD, width, widths, width_V]
end
theorem zMb (W : World) (X : BSet) : RdF W X [.str ⟨#[]⟩, V.d V.zero] [.string ⟨#[]⟩, .int .u8 0, .int .i64 0, .string ⟨#[]⟩, .slice none 0 0, .slice none 0 0] := ⟨[_], _, rfl, ⟨rfl, by decide⟩, _, [], rfl, rdC_zV W X, rfl⟩
theorem zRc (W : World) (X : BSet) : RdF W X [.int .i64 0, hssD [], V.d V.zero] [.int .i64 0, .slice none 0 0, .int .u8 0, .int .i64 0, .string ⟨#[]⟩, .slice none 0 0, .slice none 0 0] := ⟨[_], _, rfl, rfl, [_], _, rfl, rdc_one1 (rd_nil _) rfl, _, [], rfl, rdC_zV W X, rfl⟩
section
variable {P : Program} {ops : Array Oper} {S : Nat → Prop} {w0 : World} {a0 : Act} {Γ : Ctx}
variable {d : Option Tmp} {ty : TypeId} {pos : String} {af : Array Edge} {gd : Option (Nat × Bool)}
theorem sp_indexL {α : Type} {x y : Operand} {T E : TypeId} {S' : BSet} {sz : Nat} {f : α → D} {xs : List α} {i : Nat} {j : Int} (hx : Has S w0 a0 Γ x (IsD S' (.lst sz (xs.map f)))) (hy : Has S w0 a0 Γ y (Is (.int .i64 j))) (hT : P.underlying T = some (.slice E)) (hz : szOf P E = some sz)
    (hj : j = i) (hi : i < xs.length) : Spec P ops S w0 a0 Γ ⟨d, .indexAddr T x y, ty, pos, af, gd⟩ (IsR S' (f xs[i])) := by
  subst hj
  have := sp_indexD (ty := ty) (pos := pos) (af := af) (gd := gd) (d := d) (ops := ops) hx hy hT hz (i := i) (by simpa using hi)
  simpa using this
theorem sp_lenL {α : Type} {x : Operand} {T E : TypeId} {S' : BSet} {sz : Nat} {f : α → D} {xs : List α} (hT : P.underlying T = some (.slice E)) (hx : Has S w0 a0 Γ x (IsD S' (.lst sz (xs.map f)))) :
    Spec P ops S w0 a0 Γ ⟨d, .call ⟨.builtin .len, #[x], #[T]⟩, ty, pos, af, gd⟩ (Is (.int .i64 xs.length)) := by
  have := sp_lenD (ops := ops) (d := d) (ty := ty) (pos := pos) (af := af) (gd := gd) hT hx
  simpa using this
end
end Go.Eng
namespace Go.Eng
def RetL (W : World) (L : List Nat) (φ : Value → World → Prop) : Ending → World → Prop := fun e W' => ∃ v, e = .returned v ∧ Keeps (fun k => k ∉ L) W W' ∧ φ v W'
theorem sub_nl {w : World} {S' : BSet} {M L : List Nat} (hb : ∀ b ∈ L, b ∈ M) : ∀ b' o, SA w S' M b' o → b' ∉ L := fun b' _ h e => h.2.2 (hb b' e)
theorem sub_frnl {W : World} {L : List Nat} (hb : ∀ b ∈ L, b < W.heap.size) : ∀ b' o, Fr W b' o → b' ∉ L := fun b' _ h e => by have := hb b' e; have := h.1; omega
section
variable {w W W' : World} {S : BSet} {M L : List Nat} {d : D} {v : Value} {S0 : Nat → Prop}
theorem sa_keepL (h : Rd W (SA w S M) d v) (k : Keeps (fun x => x ∉ L) W W') (hb : ∀ b ∈ L, b ∈ M) : Rd W' (SA w S M) d v := h.keeps k fun x _ hx e => hx.2.2 (hb x e)
theorem own_keepL {b : Nat} {cs : List Value} {T : TypeId} (h : Own W b cs T) (k : Keeps (fun x => x ∉ L) W W') (hne : b ∉ L) : Own W' b cs T := h.keeps k hne
theorem keeps_L (h : Keeps S0 w W) (k : Keeps (fun x => x ∉ L) W W') (hb : ∀ b ∈ L, w.heap.size ≤ b ∨ ¬ S0 b) : Keeps S0 w W' :=
  ⟨k.os.trans h.os, k.tape.trans h.tape, k.output.trans h.output, Nat.le_trans h.size k.size, fun i hi hs => by
    rw [k.block i (Nat.lt_of_lt_of_le hi h.size) (fun hm => (hb i hm).elim (fun h => by omega) (fun h => h hs))]; exact h.block i hi hs⟩
theorem keeps_storeN {b : Nat} (h : Keeps S0 w W) (k : Keeps (fun x => x ≠ b) W W') (hb : ¬ S0 b) : Keeps S0 w W' :=
  ⟨k.os.trans h.os, k.tape.trans h.tape, k.output.trans h.output, Nat.le_trans h.size k.size, fun i hi hs => by
    rw [k.block i (Nat.lt_of_lt_of_le hi h.size) (fun e => hb (e ▸ hs))]; exact h.block i hi hs⟩
end
section
variable {P : Program} {ops : Array Oper} {S : Nat → Prop} {w0 : World} {a0 : Act} {Γ : Ctx}
variable {d : Option Tmp} {ty : TypeId} {pos : String} {af : Array Edge}
variable {K : List Oper → Ctx → (World → Prop) → List Bool → Prop} {l : List Oper} {Ψ Ψ' : World → Prop} {ms : List Bool}
theorem Chain.callL {f : FuncId} {xs : Array Operand} {ts : Array TypeId} {φ : Fact} (hf : Enters P f) (hst : Stable S φ) (hst' : StableE Ψ')
    (hc : ∀ a g W, Keeps S w0 W → GOk w0 W g → Env Γ a0 a g W (Oper.looksAt ops ⟨d, .call ⟨.value (.func f), xs, ts⟩, ty, pos, af, none⟩) → Ψ W → Calls P f (xs.map a.eval) W fun e W' => ∃ v, e = .returned v ∧ Keeps S W W' ∧ φ g v W' ∧ Ψ' W')
    (h : Chain P ops S w0 a0 K false l ((d, φ) :: Γ) Ψ' (true :: ms)) :
    Chain P ops S w0 a0 K false (⟨d, .call ⟨.value (.func f), xs, ts⟩, ty, pos, af, none⟩ :: l) Γ Ψ ms := by
  refine Chain.main φ Ψ' hst hst' (fun a g W hk hg he hψ => ?_) h
  have hw : Region.wanted (⟨d, .call ⟨.value (.func f), xs, ts⟩, ty, pos, af, none⟩ : Oper) (yielded ops a.tmps) = true := rfl
  unfold ObRun; rw [if_pos hw]
  unfold OpRuns
  rw [run_call rfl hf]
  exact hc a g W hk hg he hψ
theorem Chain.callL2 {f : FuncId} {x y : Operand} {ts : Array TypeId} {φ1 φ2 φ : Fact} (hf : Enters P f) (hx : Has S w0 a0 Γ x φ1) (hy : Has S w0 a0 Γ y φ2) (hst : Stable S φ) (hst' : StableE Ψ')
    (hc : ∀ g u1 u2 W, Keeps S w0 W → GOk w0 W g → φ1 g u1 W → φ2 g u2 W → Ψ W → Calls P f #[u1, u2] W fun e W' => ∃ v, e = .returned v ∧ Keeps S W W' ∧ φ g v W' ∧ Ψ' W')
    (h : Chain P ops S w0 a0 K false l ((d, φ) :: Γ) Ψ' (true :: ms)) : Chain P ops S w0 a0 K false (⟨d, .call ⟨.value (.func f), #[x, y], ts⟩, ty, pos, af, none⟩ :: l) Γ Ψ ms :=
  Chain.callL hf hst hst' (fun a g W hk hg he hψ => by simpa using hc g _ _ W hk hg (hx.of_env hk hg he (by simp [Op.operands, Call.operands])) (hy.of_env hk hg he (by simp [Op.operands, Call.operands])) hψ) h
theorem Chain.callL3 {f : FuncId} {x y z : Operand} {ts : Array TypeId} {φ1 φ2 φ3 φ : Fact} (hf : Enters P f) (hx : Has S w0 a0 Γ x φ1) (hy : Has S w0 a0 Γ y φ2) (hz : Has S w0 a0 Γ z φ3) (hst : Stable S φ) (hst' : StableE Ψ')
    (hc : ∀ g u1 u2 u3 W, Keeps S w0 W → GOk w0 W g → φ1 g u1 W → φ2 g u2 W → φ3 g u3 W → Ψ W → Calls P f #[u1, u2, u3] W fun e W' => ∃ v, e = .returned v ∧ Keeps S W W' ∧ φ g v W' ∧ Ψ' W')
    (h : Chain P ops S w0 a0 K false l ((d, φ) :: Γ) Ψ' (true :: ms)) : Chain P ops S w0 a0 K false (⟨d, .call ⟨.value (.func f), #[x, y, z], ts⟩, ty, pos, af, none⟩ :: l) Γ Ψ ms :=
  Chain.callL hf hst hst' (fun a g W hk hg he hψ => by simpa using hc g _ _ _ W hk hg (hx.of_env hk hg he (by simp [Op.operands, Call.operands])) (hy.of_env hk hg he (by simp [Op.operands, Call.operands])) (hz.of_env hk hg he (by simp [Op.operands, Call.operands])) hψ) h
theorem stE_own {b : Nat} {cs : List Value} {T : TypeId} : StableE fun W => Own W b cs T := fun _ _ k h => h.ext k
end
end Go.Eng
namespace Go.Eng
instance : Inhabited Mb := ⟨⟨⟨#[]⟩, V.zero⟩⟩
def cfM (a b : Mb) : Int := Lib.compareBytes a.nm.data.toList b.nm.data.toList
def ltM (a b : Mb) : Bool := decide (cfM a b < 0)
def outerF {α : Type} [Inhabited α] (lt : α → α → Bool) : Nat → Nat → Array α → Array α
  | 0, _, d => d
  | f + 1, i, d => outerF lt f (i + 1) (Sort.insInner lt 0 i d)
def sortMb (L : List Mb) : List Mb := (outerF ltM (L.length - 1) 1 L.toArray).toList
theorem insOuter_eq {α : Type} [Inhabited α] (lt : α → α → Bool) (b : Nat) : ∀ (f i : Nat) (d : Array α), b - i = f → Sort.insOuter lt 0 b i d = outerF lt f i d
  | 0, i, d, h => by rw [Sort.insOuter, if_neg (by omega)]; rfl
  | f + 1, i, d, h => by rw [Sort.insOuter, if_pos (by omega), insOuter_eq lt b f (i + 1) _ (by omega)]; rfl
theorem get!_map {α β : Type} [Inhabited α] [Inhabited β] (g : α → β) (hg : g default = default) (d : Array α) (j : Nat) : (d.map g)[j]! = g d[j]! := by
  by_cases h : j < d.size
  · rw [getElem!_pos _ j (by simpa using h), getElem!_pos d j h]; simp
  · rw [getElem!_neg _ j (by simpa using h), getElem!_neg d j h, hg]
theorem insInner_map {α β : Type} [Inhabited α] [Inhabited β] {lt : α → α → Bool} {lt' : β → β → Bool} (g : α → β) (hg : g default = default) (hl : ∀ x y, lt' (g x) (g y) = lt x y) : ∀ (j : Nat) (d : Array α), (Sort.insInner lt 0 j d).map g = Sort.insInner lt' 0 j (d.map g)
  | 0, d => rfl
  | j + 1, d => by
    rw [Sort.insInner, Sort.insInner, get!_map g hg, get!_map g hg, hl]
    split
    · rw [insInner_map g hg hl j]
      congr 1
      unfold Sort.swp
      rw [get!_map g hg, get!_map g hg]
      simp
    · rfl
theorem outerF_map {α β : Type} [Inhabited α] [Inhabited β] {lt : α → α → Bool} {lt' : β → β → Bool} (g : α → β) (hg : g default = default) (hl : ∀ x y, lt' (g x) (g y) = lt x y) : ∀ (f i : Nat) (d : Array α), (outerF lt f i d).map g = outerF lt' f i (d.map g)
  | 0, _, d => rfl
  | f + 1, i, d => by rw [outerF, outerF, outerF_map g hg hl f, insInner_map g hg hl]
theorem insInner_size {α : Type} [Inhabited α] (lt : α → α → Bool) : ∀ (j : Nat) (d : Array α), (Sort.insInner lt 0 j d).size = d.size
  | 0, d => rfl
  | j + 1, d => by
    rw [Sort.insInner]
    split
    · rw [insInner_size lt j]; simp [Sort.swp]
    · rfl
theorem outerF_size {α : Type} [Inhabited α] (lt : α → α → Bool) : ∀ (f i : Nat) (d : Array α), (outerF lt f i d).size = d.size
  | 0, _, d => rfl
  | f + 1, i, d => by rw [outerF, outerF_size lt f, insInner_size]
theorem sortMb_len (L : List Mb) : (sortMb L).length = L.length := by unfold sortMb; rw [Array.length_toList, outerF_size]; simp
structure MbC (w : World) (X : BSet) where
  enc : List Value
  mb : Mb
  ok : RdC w X mb.d enc
instance (w : World) (X : BSet) : Inhabited (MbC w X) := ⟨⟨[.string ⟨#[]⟩, .int .u8 0, .int .i64 0, .string ⟨#[]⟩, .slice none 0 0, .slice none 0 0], ⟨⟨#[]⟩, V.zero⟩, by simp only [Mb.d, RdC]; exact zMb w X⟩⟩
theorem MbC.len {w : World} {X : BSet} (p : MbC w X) : p.enc.length = 6 := (rdc_width _ _ p.ok).trans (width_Mb _)
theorem MbC.mbd {w : World} {X : BSet} : (default : MbC w X).mb = default := rfl
theorem row_split {w : World} {X : BSet} : ∀ (L : List Mb) (cs : List Value), RowIs w X 6 (L.map Mb.d) cs → ∃ l : List (MbC w X), l.map MbC.mb = L ∧ cs = (l.map MbC.enc).flatten
  | [], cs, h => ⟨[], rfl, by simp only [List.map_nil, RowIs] at h; rw [h]; rfl⟩
  | m :: L, cs, h => by
    simp only [List.map_cons, RowIs] at h
    obtain ⟨c, r, rfl, h1, h2, h3⟩ := h
    obtain ⟨l, e1, e2⟩ := row_split L r h3
    exact ⟨⟨c, m, h2⟩ :: l, by rw [List.map_cons, e1], by rw [e2]; rfl⟩
theorem row_join {w W : World} {X : BSet} (hs : w.heap.size ≤ W.heap.size) (hk : ∀ b, X b w.heap[b]? → b < w.heap.size → W.heap[b]? = w.heap[b]?) : ∀ (l : List (MbC w X)), RowIs W X 6 ((l.map MbC.mb).map Mb.d) (l.map MbC.enc).flatten
  | [] => rfl
  | p :: l => ⟨p.enc, _, rfl, p.len, rdc_move hs (fun b hb hlt => ⟨hk b hb hlt, by rw [hk b hb hlt]; exact hb⟩) _ _ p.ok, row_join hs hk l⟩
theorem flat_at {w : World} {X : BSet} : ∀ (l : List (MbC w X)) (t : Nat), t < l.length * 6 → (l.map MbC.enc).flatten[t]? = some (((l[t / 6]?).getD default).enc[t % 6]!)
  | [], t, h => by simp at h
  | p :: l, t, h => by
    rw [List.map_cons, List.flatten_cons]
    have hp := p.len
    by_cases ht : t < 6
    · rw [List.getElem?_append_left (by omega), Nat.div_eq_of_lt ht, Nat.mod_eq_of_lt ht, getElem!_pos _ t (by simp; omega)]
      simp [List.getElem?_eq_getElem (show t < p.enc.length by omega)]
    · have hd : t / 6 = (t - 6) / 6 + 1 := by omega
      have hm : t % 6 = (t - 6) % 6 := by omega
      rw [List.getElem?_append_right (by omega), hp, hd, hm, flat_at l (t - 6) (by simp at h; omega)]
      simp
theorem flat_len {w : World} {X : BSet} : ∀ (l : List (MbC w X)), (l.map MbC.enc).flatten.length = l.length * 6
  | [] => rfl
  | p :: l => by rw [List.map_cons, List.flatten_cons, List.length_append, p.len, flat_len l, List.length_cons]; omega
theorem flat_eq {w : World} {X : BSet} (l : List (MbC w X)) : (Sort.flatK MbC.enc 6 l.toArray).toList = (l.map MbC.enc).flatten := by
  apply List.ext_getElem?
  intro t
  by_cases h : t < l.length * 6
  · rw [flat_at l t h]
    have h' : t < (Sort.flatK MbC.enc 6 l.toArray).size := by simpa using h
    have := Sort.get_flatK MbC.enc 6 l.toArray t (by simpa using h)
    rw [getElem!_pos _ t h'] at this
    rw [Array.getElem?_toList, Array.getElem?_eq_getElem h', this]
    congr 2
    simp [Array.getElem!_eq_getD, Array.getD_eq_getD_getElem?]
  · rw [List.getElem?_eq_none (by simpa using h), List.getElem?_eq_none (by rw [flat_len]; omega)]
def RetA (W : World) (hd : Option Nat) (φ : Value → World → Prop) : Ending → World → Prop := fun e W' => ∃ v, e = .returned v ∧ Keeps (fun k => k ∉ blks hd) W W' ∧ φ v W'
set_option maxHeartbeats 1000000 in
theorem ins_row {P : Program} {ρ : Shelf.Ren} (Ly : Proofs.SlLaysF0.n20 P ρ) (aE : ∀ w, (isAgg (ρ.t 24)).run P w = .ok true w) (zE : ∀ w, (Go.sizeOf (ρ.t 24)).run P w = .ok 6 w) (f : Nat) (ef : Enters P f)
    (hf : ∀ (a b : ByteArray) (c1 c2 c3 c4 c5 d1 d2 d3 d4 d5 : Value) (W : World), Calls P f #[.agg #[.string a, c1, c2, c3, c4, c5], .agg #[.string b, d1, d2, d3, d4, d5]] W fun e w' => e = .returned (.int .i64 (Lib.compareBytes a.data.toList b.data.toList)) ∧ ∃ q os, w' = Sort.grow (W.drewN q) os)
    (L : List Mb) (hn : 0 < L.length) (h12 : L.length ≤ 12) (w : World) (lo : Nat) (X : BSet) (v : Value) (hd : Option Nat) (hX : ∀ b o, X b o → b ∉ blks hd) {E : TypeId} (hE : E = ρ.t 24) (hA : Arr w lo E 6 X (L.map Mb.d) v hd) :
    Calls P (ρ.f 20) #[v, .int .i64 0, .int .i64 L.length, .func (.func f) #[] #[]] w (RetA w hd fun u W => u = .tuple #[] ∧ Arr W lo E 6 X ((sortMb L).map Mb.d) v hd) := by
  obtain ⟨g, cap, rfl, rfl⟩ := arr_open hA (by simpa using hn)
  have hA' := hA
  obtain ⟨_, cs, hown, hrow⟩ := hA
  obtain ⟨l, hl, rfl⟩ := row_split L cs hrow
  have hll : l.length = L.length := by rw [← hl, List.length_map]
  obtain ⟨hlen, hown⟩ := hown
  rcases hown with ⟨h0, _⟩ | ⟨g', cap', cur, hs, hlo, hg, hnc, hcm, hcs, htake⟩
  · cases h0
  simp at hs
  obtain ⟨rfl, rfl⟩ := hs
  rw [List.length_map] at hnc htake hlen
  have hsz : l.length * 6 ≤ cur.size := by rw [hcs, hll]; exact Nat.mul_le_mul_right _ hnc
  have hblk : g < w.heap.size := (Array.getElem?_eq_some_iff.1 hg).1
  have hH : Sort.HoldsK MbC.enc 6 w g 0 l.toArray := by
    intro j hj
    simp only [Sort.size_flatK, List.size_toArray] at hj
    constructor
    · have h1 := Sort.get_flatK MbC.enc 6 l.toArray j (by simpa using hj)
      have h2 := flat_at l j hj
      rw [← htake, List.getElem?_take, if_pos (by omega), Array.getElem?_toList] at h2
      unfold World.cell?
      rw [hg]
      simp only [Nat.zero_add]
      rw [h2, h1]
      simp [Array.getElem!_eq_getD, Array.getD_eq_getD_getElem?]
    · simp [World.frozen?, hg]
  have hc := Proofs.AnyQ.insertionSortCmpFunc (α := MbC w X) Ly 6 aE zE MbC.enc MbC.len (fun x u hu => by rw [oneC_eq]; exact rdc_one _ _ x.ok u hu) (fun x y => cfM x.mb y.mb) f #[] g 0 cap 0 l.length l.toArray w ef (fun m os dk _ x y => by
      obtain ⟨cx, mx, hx⟩ := x
      obtain ⟨cy, my, hy⟩ := y
      obtain ⟨a1, c1, a2, c2, ex, _⟩ := rdMb_out (⟨cx, hx, rfl⟩ : Rd w X mx.d (asm mx.d cx))
      obtain ⟨a1', c1', a2', c2', ey, _⟩ := rdMb_out (⟨cy, hy, rfl⟩ : Rd w X my.d (asm my.d cy))
      have ex' : Value.agg cx.toArray = _ := ex
      have ey' : Value.agg cy.toArray = _ := ey
      show Calls P f (#[.agg cx.toArray, .agg cy.toArray] ++ #[]) _ _
      rw [ex', ey']
      exact hf _ _ _ _ _ _ _ _ _ _ _ _ _) hH hblk (Nat.zero_le _) (by simp) (by simp only [maxLen] at hcm; simp; omega)
  have he : Sort.insertionSort (Proofs.ltOf fun x y : MbC w X => cfM x.mb y.mb) l.toArray 0 l.length = outerF (Proofs.ltOf fun x y : MbC w X => cfM x.mb y.mb) (L.length - 1) 1 l.toArray := by
    unfold Sort.insertionSort
    exact insOuter_eq _ _ _ _ _ (by omega)
  rw [he] at hc
  obtain ⟨d', hd'⟩ : ∃ d', d' = outerF (Proofs.ltOf fun x y : MbC w X => cfM x.mb y.mb) (L.length - 1) 1 l.toArray := ⟨_, rfl⟩
  rw [← hd'] at hc
  have hds : d'.size = l.length := by rw [hd', outerF_size]; simp
  have hmap : d'.toList.map MbC.mb = sortMb L := by
    have := outerF_map (lt := Proofs.ltOf fun x y : MbC w X => cfM x.mb y.mb) (lt' := ltM) MbC.mb MbC.mbd (fun x y => rfl) (L.length - 1) 1 l.toArray
    rw [← hd'] at this
    have h2 : (d'.map MbC.mb).toList = _ := congrArg Array.toList this
    rw [Array.toList_map] at h2
    rw [h2, sortMb]
    congr 2
    rw [← hl]; simp
  have hcs' : ((#[Value.slice (some ⟨g, 0, none⟩) L.length cap, .int .i64 (0 : Nat), .int .i64 (l.length : Nat), .func (.func f) #[] #[]] : Array Value)) = #[.slice (some ⟨g, 0, none⟩) (L.map Mb.d).length cap, .int .i64 0, .int .i64 L.length, .func (.func f) #[] #[]] := by rw [hll]; simp
  have hc2 := hc
  rw [show l.toArray.size = L.length by simpa using hll] at hc2
  rw [hcs'] at hc2
  refine hc2.mono ?_
  rintro e W ⟨rfl, n, os, rfl⟩
  have hflat : (Sort.flatK MbC.enc 6 d').toList = (d'.toList.map MbC.enc).flatten := by
    have := flat_eq d'.toList
    simpa using this
  have hput : (Proofs.sortWorldK MbC.enc 6 w g 0 n d' os).heap[g]? = some (.cells (Sort.putCells id 0 (Sort.flatK MbC.enc 6 d') cur) E (0, 0)) := by
    unfold Proofs.sortWorldK Sort.putRowK Sort.putRow
    rw [Sort.heap_grow_old _ _ (by simpa [Sort.mapBlock, Sort.ahead] using hblk)]
    simp [Sort.mapBlock, Sort.ahead, Array.getElem?_modify, hg, Sort.onCells]
  have hoth : ∀ k, k < w.heap.size → k ≠ g → (Proofs.sortWorldK MbC.enc 6 w g 0 n d' os).heap[k]? = w.heap[k]? := fun k hk hne => by
    unfold Proofs.sortWorldK Sort.putRowK Sort.putRow
    rw [Sort.heap_grow_old _ _ (by simpa [Sort.mapBlock, Sort.ahead] using hk)]
    simp [Sort.mapBlock, Sort.ahead, Array.getElem?_modify, Ne.symm hne]
  have hsize : w.heap.size ≤ (Proofs.sortWorldK MbC.enc 6 w g 0 n d' os).heap.size := by
    unfold Proofs.sortWorldK
    rw [Sort.size_grow]
    simp [Sort.putRowK, Sort.putRow, Sort.mapBlock, Sort.ahead]
  refine ⟨_, rfl, ⟨rfl, rfl, rfl, hsize, fun k hk hs => hoth k hk (fun e => hs (by simp [blks, e]))⟩, rfl, rfl, (d'.toList.map MbC.enc).flatten, ⟨?_, .inr ⟨g, cap, _, ?_, hlo, hput, ?_, hcm, ?_, ?_⟩⟩, ?_⟩
  · rw [flat_len, List.length_map, sortMb_len]; simp [hds, hll]
  · rw [List.length_map, List.length_map, sortMb_len]
  · rw [List.length_map, sortMb_len]; exact hnc
  · simp [Sort.putCells, hcs]
  · rw [List.length_map, sortMb_len, ← hflat]
    apply List.ext_getElem?
    intro t
    rw [List.getElem?_take]
    split
    · rename_i ht
      have h1 : t < cur.size := by omega
      have h2 : t < (Sort.flatK MbC.enc 6 d').size := by simp [hds]; omega
      simp only [Sort.putCells, Array.getElem?_toList, Array.getElem?_mapIdx, Array.getElem?_eq_getElem h1, Option.map_some, Array.getElem?_eq_getElem h2]
      rw [if_pos ⟨Nat.zero_le _, by omega⟩, Nat.sub_zero, getElem!_pos _ t h2]
      rfl
    · rw [List.getElem?_eq_none]
      simp [hds]; omega
  · rw [← hmap]
    exact row_join hsize (fun b hb hlt => hoth b hlt (fun e => hX b _ hb (by simp [blks, e]))) _
section
variable {P : Program} {ops : Array Oper} {S : Nat → Prop} {w0 : World} {a0 : Act} {Γ : Ctx}
variable {d : Option Tmp} {ty : TypeId} {pos : String} {af : Array Edge} {gd : Option (Nat × Bool)}
variable {K : List Oper → Ctx → (World → Prop) → List Bool → Prop} {l : List Oper} {Ψ Ψ' : World → Prop} {ms : List Bool}
theorem Has.fn {f : FuncId} : Has S w0 a0 Γ (.func f) (Is (.func (.func f) #[] #[])) := fun _ _ _ _ _ _ => rfl
theorem sp_indexStrK {x y : Operand} {T : TypeId} {s : ByteArray} {k : IntKind} {j : Int} {i : Nat} (hT : P.underlying T = some .string) (hx : Has S w0 a0 Γ x (Is (.string s))) (hy : Has S w0 a0 Γ y (Is (.int k j))) (hj : j = i) (hi : i < s.size) :
    Spec P ops S w0 a0 Γ ⟨d, .index T x y, ty, pos, af, gd⟩ (Is (.int .u8 ((s[i]'hi).toNat : Nat))) := sp_val fun a g W hk hg he => by
  have e1 : a.eval x = .string s := hx.of_env hk hg he (by simp [Op.operands])
  have e2 : a.eval y = .int k j := hy.of_env hk hg he (by simp [Op.operands])
  subst hj
  have hs : s[(i : Int).toNat]? = some (s[i]'hi) := by simp [hi]
  have h0 : (0 : Int) ≤ (i : Int) := by omega
  simp [execOp, e1, e2, Instr.index, asIntOf, run_und hT, h0, hi]
theorem u8i64 (x : UInt8) : IntKind.i64.wrap ((x.toNat : Nat) : Int) = ((x.toNat : Nat) : Int) := i64_in (by have := UInt8.toNat_lt x; omega)
end
end Go.Eng
namespace Go.Proofs.Ytnobijngkpflcaa
open Go.Eng
set_option maxRecDepth 100000 in
set_option maxHeartbeats 1000000 in
theorem cmpStr_ok (a b : ByteArray) (w : World) : Calls Try.prog 144 #[.string a, .string b] w fun e w' => e = .returned (.int .i64 (Lib.compareBytes a.data.toList b.data.toList)) ∧ w' = w := by
  go_enter Try.func144, Try.ntmps144
  go_wp2
  rw [run_callFunc_extern Try.func163 (by kernel_rfl) (by kernel_rfl) (by kernel_rfl) (e := Extern.BytealgCompare.compare) (by kernel_rfl), Lib.run_compareString]
  simp only [Result.andThen]
  rw [Oper.upon_value]
  go_wp2
  go_ret
  exact ⟨rfl, rfl⟩
theorem compare_ok (a b : ByteArray) (w : World) : Calls Try.prog 97 #[.string a, .string b] w fun e w' => e = .returned (.int .i64 (Lib.compareBytes a.data.toList b.data.toList)) ∧ w' = w := by
  go_enter Try.func97, Try.ntmps97
  go_wp2_with (go_at_call 144; refine (cmpStr_ok _ _ _).mono ?_; rintro e w' ⟨rfl, rfl⟩)
  go_ret
  exact ⟨rfl, rfl⟩
theorem cmpMb_ok (a b : ByteArray) (c1 c2 c3 c4 c5 d1 d2 d3 d4 d5 : Value) (W : World) : Calls Try.prog 96 #[.agg #[.string a, c1, c2, c3, c4, c5], .agg #[.string b, d1, d2, d3, d4, d5]] W fun e w' => e = .returned (.int .i64 (Lib.compareBytes a.data.toList b.data.toList)) ∧ ∃ q os, w' = Sort.grow (W.drewN q) os := by
  have hcon := fun W' => compare_ok a b W'
  generalize Lib.compareBytes a.data.toList b.data.toList = r at hcon ⊢
  go_enter Try.func96, Try.ntmps96
  go_wp2_with (go_at_call 97; refine (hcon _).mono ?_; rintro e w' ⟨rfl, rfl⟩)
  go_ret
  exact ⟨rfl, 0, _, by rw [Sort.alloc_eq_grow, Sort.alloc_eq_grow, Sort.grow_grow]; rfl⟩
def renS : Shelf.Ren := ⟨fun x => if x = 20 then 153 else x, fun x => if x = 22 then 82 else if x = 24 then 67 else if x = 25 then 136 else x, fun x => x⟩
theorem bears20 : Bears Try.prog (renS.f 20) (SlBodyF.n20 renS) := ⟨_, by kernel_rfl, Try.func153⟩
theorem lays20 : SlLaysF0.n20 Try.prog renS := ⟨by kernel_rfl, bears20, Try.underlying0, Try.isAgg0, Try.sizeOf0, Try.zeroValue0, Try.underlying3, Try.isAgg3, Try.sizeOf3, Try.zeroValue3, Try.underlying4, Try.isAgg4, Try.sizeOf4, Try.zeroValue4, Try.underlying82, Try.isAgg82, Try.sizeOf82, Try.zeroValue82, Try.underlying136, Try.isAgg136, Try.sizeOf136, Try.zeroValue136⟩
theorem ins_ok (L : List Mb) (hn : 0 < L.length) (h12 : L.length ≤ 12) (w : World) (lo : Nat) (X : BSet) (v : Value) (hd : Option Nat) (hX : ∀ b o, X b o → b ∉ blks hd) (hA : Arr w lo 67 6 X (L.map Mb.d) v hd) :
    Calls Try.prog 153 #[v, .int .i64 0, .int .i64 L.length, .func (.func 96) #[] #[]] w (RetA w hd fun u W => u = .tuple #[] ∧ Arr W lo 67 6 X ((sortMb L).map Mb.d) v hd) :=
  ins_row lays20 Try.isAgg67 Try.sizeOf67 96 ent96 cmpMb_ok L hn h12 w lo X v hd hX rfl hA
theorem u8i (x : UInt8) : IntKind.i64.wrap ((0 : Int) + (((x.toNat : Nat) : Int) : Int)) = (0 : Int) + (((x.toNat : Nat) : Int) : Int) := i64_in (by have := UInt8.toNat_lt x; omega)
set_option maxRecDepth 100000 in
theorem len64_ok (n : Nat) (h : n ≤ 12) (w : World) : Calls Try.prog 162 #[.int .u64 n] w (Ret w fun u _ => ∃ l : Int, u = .int .i64 l) := by
  refine enter Try.func162 rfl Try.ntmps162 (lbr rfl) fun a0 y0 zz0 harg => ?_
  have e0 : sl a0 0 = (.int .u64 ((n : Nat))) := harg 0 (lbr rfl)
  have kw := Keeps.refl All w
  clear harg
  refine wp_seq_k fun K1 hK1 => ?_
  refine rg mixed y0 zz0 ?_
  refine .i (sp_assign Has.cst) ?_
  refine .done ⟨by kernel_rfl, fun a2 g W2 y2 zz2 hk hg hV hR hP => ?_⟩
  obtain ⟨e2, -⟩ := hV
  replace e0 := (hR 0 rfl).trans e0
  have e2 : sl a2 2 = (.int .i64 (0)) := e2
  replace kw := kw.x hk
  clear hR hk hg hP
  refine tail_nil (hK1 _ _ ?_)
  refine wp_seq_k fun K3 hK3 => ?_
  refine wp_seq_k fun K4 hK4 => ?_
  refine rg mixed y2 zz2 ?_
  refine .i (sp_move (hbs rfl e0)) ?_
  refine .i (sp_geq (hlc rfl) Has.cst) ?_
  refine .done ⟨by kernel_rfl, fun a5 g W5 y5 zz5 hk hg hV hR hP => ?_⟩
  obtain ⟨e4, -, -⟩ := hV
  replace e0 := (hR 0 rfl).trans e0
  replace e2 := (hR 2 rfl).trans e2
  replace e4 := e4.q
  replace kw := kw.x hk
  clear hR hk hg hP
  refine tail_nil (hK4 _ _ ?_)
  refine wp_cond_split e4 (fun hc => ?_) (fun hc => ?_)
  ·
   exfalso
   have := of_decide_eq_true hc
   omega
  ·
   refine wp_skip (hK3 _ _ ?_)
   refine wp_seq_k fun K6 hK6 => ?_
   refine wp_seq_k fun K7 hK7 => ?_
   refine rg mixed y5 zz5 ?_
   refine .i (sp_move (hbs rfl e0)) ?_
   refine .i (sp_geq (hlc rfl) Has.cst) ?_
   refine .done ⟨by kernel_rfl, fun a8 g W8 y8 zz8 hk hg hV hR hP => ?_⟩
   obtain ⟨e8, -, -⟩ := hV
   replace e0 := (hR 0 rfl).trans e0
   replace e2 := (hR 2 rfl).trans e2
   replace e8 := e8.q
   replace kw := kw.x hk
   clear hR hk hg hP
   refine tail_nil (hK7 _ _ ?_)
   refine wp_cond_split e8 (fun hc => ?_) (fun hc => ?_)
   ·
    exfalso
    have := of_decide_eq_true hc
    omega
   ·
    refine wp_skip (hK6 _ _ ?_)
    refine wp_seq_k fun K9 hK9 => ?_
    refine wp_seq_k fun K10 hK10 => ?_
    refine rg mixed y8 zz8 ?_
    refine .i (sp_move (hbs rfl e0)) ?_
    refine .i (sp_geq (hlc rfl) Has.cst) ?_
    refine .done ⟨by kernel_rfl, fun a11 g W11 y11 zz11 hk hg hV hR hP => ?_⟩
    obtain ⟨e14, -, -⟩ := hV
    replace e0 := (hR 0 rfl).trans e0
    replace e2 := (hR 2 rfl).trans e2
    replace e14 := e14.q
    replace kw := kw.x hk
    clear hR hk hg hP
    refine tail_nil (hK10 _ _ ?_)
    refine wp_cond_split e14 (fun hc => ?_) (fun hc => ?_)
    ·
     exfalso
     have := of_decide_eq_true hc
     omega
    ·
     refine wp_skip (hK9 _ _ ?_)
     refine wp_seq_k fun K12 hK12 => ?_
     refine rg mixed y11 zz11 ?_
     refine .i (sp_move (hbs rfl e2)) ?_
     refine .i (sp_move (hbs rfl e0)) ?_
     refine .i (v := (.int .u8 ((n : Nat)))) (sp_conv Try.underlying200 Try.underlying5 (hlc rfl) (u8_in (by omega))) ?_
     refine .i (v := (.int .u8 ((((⟨#[0, 1, 2, 2, 3, 3, 3, 3, 4, 4, 4, 4, 4, 4, 4, 4, 5, 5, 5, 5, 5, 5, 5, 5, 5, 5, 5, 5, 5, 5, 5, 5, 6, 6, 6, 6, 6, 6, 6, 6, 6, 6, 6, 6, 6, 6, 6, 6, 6, 6, 6, 6, 6, 6, 6, 6, 6, 6, 6, 6, 6, 6, 6, 6, 7, 7, 7, 7, 7, 7, 7, 7, 7, 7, 7, 7, 7, 7, 7, 7, 7, 7, 7, 7, 7, 7, 7, 7, 7, 7, 7, 7, 7, 7, 7, 7, 7, 7, 7, 7, 7, 7, 7, 7, 7, 7, 7, 7, 7, 7, 7, 7, 7, 7, 7, 7, 7, 7, 7, 7, 7, 7, 7, 7, 7, 7, 7, 7, 8, 8, 8, 8, 8, 8, 8, 8, 8, 8, 8, 8, 8, 8, 8, 8, 8, 8, 8, 8, 8, 8, 8, 8, 8, 8, 8, 8, 8, 8, 8, 8, 8, 8, 8, 8, 8, 8, 8, 8, 8, 8, 8, 8, 8, 8, 8, 8, 8, 8, 8, 8, 8, 8, 8, 8, 8, 8, 8, 8, 8, 8, 8, 8, 8, 8, 8, 8, 8, 8, 8, 8, 8, 8, 8, 8, 8, 8, 8, 8, 8, 8, 8, 8, 8, 8, 8, 8, 8, 8, 8, 8, 8, 8, 8, 8, 8, 8, 8, 8, 8, 8, 8, 8, 8, 8, 8, 8, 8, 8, 8, 8, 8, 8, 8, 8, 8, 8, 8, 8, 8, 8, 8, 8, 8, 8, 8, 8]⟩ : ByteArray)[n]'(Nat.lt_of_le_of_lt h (lbr rfl))).toNat : Nat)))) (sp_indexStrK (i := n) Try.underlying9 Has.cst (hlc rfl) rfl (Nat.lt_of_le_of_lt h (lbr rfl))) ?_
     refine .i (v := (.int .i64 ((((⟨#[0, 1, 2, 2, 3, 3, 3, 3, 4, 4, 4, 4, 4, 4, 4, 4, 5, 5, 5, 5, 5, 5, 5, 5, 5, 5, 5, 5, 5, 5, 5, 5, 6, 6, 6, 6, 6, 6, 6, 6, 6, 6, 6, 6, 6, 6, 6, 6, 6, 6, 6, 6, 6, 6, 6, 6, 6, 6, 6, 6, 6, 6, 6, 6, 7, 7, 7, 7, 7, 7, 7, 7, 7, 7, 7, 7, 7, 7, 7, 7, 7, 7, 7, 7, 7, 7, 7, 7, 7, 7, 7, 7, 7, 7, 7, 7, 7, 7, 7, 7, 7, 7, 7, 7, 7, 7, 7, 7, 7, 7, 7, 7, 7, 7, 7, 7, 7, 7, 7, 7, 7, 7, 7, 7, 7, 7, 7, 7, 8, 8, 8, 8, 8, 8, 8, 8, 8, 8, 8, 8, 8, 8, 8, 8, 8, 8, 8, 8, 8, 8, 8, 8, 8, 8, 8, 8, 8, 8, 8, 8, 8, 8, 8, 8, 8, 8, 8, 8, 8, 8, 8, 8, 8, 8, 8, 8, 8, 8, 8, 8, 8, 8, 8, 8, 8, 8, 8, 8, 8, 8, 8, 8, 8, 8, 8, 8, 8, 8, 8, 8, 8, 8, 8, 8, 8, 8, 8, 8, 8, 8, 8, 8, 8, 8, 8, 8, 8, 8, 8, 8, 8, 8, 8, 8, 8, 8, 8, 8, 8, 8, 8, 8, 8, 8, 8, 8, 8, 8, 8, 8, 8, 8, 8, 8, 8, 8, 8, 8, 8, 8, 8, 8, 8, 8, 8, 8]⟩ : ByteArray)[n]'(Nat.lt_of_le_of_lt h (lbr rfl))).toNat : Nat)))) (sp_conv Try.underlying5 Try.underlying3 (hlc rfl) (u8i64 _)) ?_
     refine .i (sp_add (hlc rfl) (hlc rfl) (u8i _)) ?_
     refine .i (sp_assign (hlc rfl)) ?_
     refine .done ⟨by kernel_rfl, fun a13 g W13 y13 zz13 hk hg hV hR hP => ?_⟩
     obtain ⟨e2, -, -, -, -, -, -, -⟩ := hV
     replace e2 := e2.q
     replace kw := kw.x hk
     clear hR hk hg hP
     refine tail_nil (hK12 _ _ ?_)
     refine wp_ret ?_
     refine (show bodyPost Try.prog Try.f162 _ .ret _ _ from ret1 rfl zz13 e2 ⟨_, rfl, kw, ?_⟩)
     exact ⟨_, rfl⟩
theorem len_ok (n : Nat) (h : n ≤ 12) (w : World) : Calls Try.prog 143 #[.int .u64 n] w (Ret w fun u _ => ∃ l : Int, u = .int .i64 l) := by
  have hcon := fun W => len64_ok n h W
  go_enter Try.func143, Try.ntmps143
  go_wp2_with (go_at_call 162; refine (hcon _).mono ?_; rintro e w' ⟨u, rfl, hk, l, rfl⟩)
  go_ret
  exact ⟨_, rfl, hk, _, rfl⟩
set_option maxHeartbeats 1000000 in
theorem pdq_ok (L : List Mb) (hn : 0 < L.length) (h12 : L.length ≤ 12) (lim : Int) (w : World) (lo : Nat) (X : BSet) (v : Value) (hd : Option Nat) (hX : ∀ b o, X b o → b ∉ blks hd) (hA : Arr w lo 67 6 X (L.map Mb.d) v hd) :
    Calls Try.prog 142 #[v, .int .i64 0, .int .i64 L.length, .int .i64 lim, .func (.func 96) #[] #[]] w (RetA w hd fun u W => u = .tuple #[] ∧ Arr W lo 67 6 X ((sortMb L).map Mb.d) v hd) := by
  have hc := ins_ok L hn h12 w lo X v hd hX hA
  have h1 : (L.length : Int) ≤ 12 := by omega
  go_enter Try.func142, Try.ntmps142
  go_wp2
  refine wp_loopAt (loopAt ?_)
  go_wp2_with (go_at_call 153; refine hc.mono ?_; rintro e w' ⟨u, rfl, hk, rfl, hA2⟩)
  go_end0
  exact ⟨_, rfl, hk, rfl, hA2⟩
set_option maxHeartbeats 1000000 in
theorem sort_ok (L : List Mb) (hn : 0 < L.length) (h12 : L.length ≤ 12) (w : World) (lo : Nat) (X : BSet) (v : Value) (hd : Option Nat) (hX : ∀ b o, X b o → b ∉ blks hd) (hA : Arr w lo 67 6 X (L.map Mb.d) v hd) :
    Calls Try.prog 95 #[v, .func (.func 96) #[] #[]] w (RetA w hd fun u W => u = .tuple #[] ∧ Arr W lo 67 6 X ((sortMb L).map Mb.d) v hd) := by
  have hc := fun lim W (k : Ext w W) => pdq_ok L hn h12 lim W lo X v hd hX (hA.ext k)
  have hl := fun W => len_ok L.length h12 W
  obtain ⟨g, cap, rfl, rfl⟩ := arr_open hA (by simpa using hn)
  rw [List.length_map] at hc ⊢
  have hw : IntKind.u64.wrap (L.length : Int) = L.length := u64_in (by omega)
  go_enter Try.func95, Try.ntmps95
  go_wp2_with fail
  refine (hl _).mono ?_
  rintro e w' ⟨u, rfl, hk, l, rfl⟩
  go_wp2_with fail
  refine (hc _ _ hk).mono ?_
  rintro e w' ⟨u, rfl, hk2, rfl, hA2⟩
  go_wp2
  go_end0
  exact ⟨_, rfl, (Keeps.of_ext hk).trans hk2, rfl, hA2⟩
end Go.Proofs.Ytnobijngkpflcaa
namespace Go.Eng
theorem Arr.lo {W : World} {lo lo' : Nat} {e : TypeId} {sz : Nat} {X : BSet} {ds : List D} {v : Value} {hd : Option Nat} (h : Arr W lo e sz X ds v hd) (hl : lo' ≤ lo) : Arr W lo' e sz X ds v hd := by
  obtain ⟨h1, cs, ⟨h2, h3⟩, h4⟩ := h
  exact ⟨h1, cs, ⟨h2, h3.imp id fun ⟨g, cap, cur, a, b, c⟩ => ⟨g, cap, cur, a, Nat.le_trans hl b, c⟩⟩, h4⟩
section
variable {S0 S1 : Nat → Prop} {w w0 W W' : World} {S : BSet} {M : List Nat} {g : Gh} {e : TypeId} {sz : Nat} {ds : List D} {u : Value}
theorem arr_arA (kw : Keeps S0 w w0) (hM : ∀ b ∈ M, b < w0.heap.size) (hk : Keeps S1 w0 W) (h : ∃ hd, Arr W' W.heap.size e sz (fun b o => Ar W (fun b o => SA w S M b o ∧ Out g b) b o ∧ b ∉ blks hd) ds u hd) : IsArr w0 w.heap.size e sz (SA w S M) ds none g u W' := by
  obtain ⟨hd, h⟩ := h
  refine ⟨hd, (h.lo (Nat.le_trans kw.size hk.size)).mono fun b o hb hlt => ⟨?_, hb.2⟩, fun b hb => .inr (Nat.le_trans hk.size (h.ge b hb))⟩
  by_cases hb' : b < W.heap.size
  · exact (hb.1.1 hb').1
  · have h1 := kw.size
    have h2 := hk.size
    exact ⟨fun h => by omega, fun _ => hb.1.2 (by omega), fun hm => by have := hM b hm; omega⟩
theorem arr_sa_ar {hd : Option Nat} {v : Value} (h : Arr W w.heap.size e sz (SA w S (blks hd ++ [])) ds v hd) : ∃ hd, Arr W w.heap.size e sz (fun b o => Ar w S b o ∧ b ∉ blks hd) ds v hd :=
  ⟨hd, h.mono fun b o hb _ => ⟨⟨hb.1, hb.2.1⟩, fun hm => hb.2.2 (by simpa using hm)⟩⟩
end
def adj : List Mb → Bool
  | a :: b :: r => decide (a.nm = b.nm) || adj (b :: r)
  | _ => false
theorem adj_true : ∀ (L : List Mb) (i : Nat) (h : i + 1 < L.length), L[i].nm = L[i + 1].nm → adj L = true
  | [], i, h, _ => by simp at h
  | [a], i, h, _ => by simp at h
  | a :: b :: r, 0, _, he => by simp at he; simp [adj, he]
  | a :: b :: r, i + 1, h, he => by
    have := adj_true (b :: r) i (by simpa using h) (by simpa using he)
    simp [adj, this]
theorem adj_false : ∀ (L : List Mb), (∀ i (h : i + 1 < L.length), L[i].nm ≠ L[i + 1].nm) → adj L = false
  | [], _ => rfl
  | [a], _ => rfl
  | a :: b :: r, h => by
    have h0 := h 0 (by simp)
    have := adj_false (b :: r) fun i hi => h (i + 1) (by simpa using hi)
    simp at h0
    simp [adj, h0, this]
def objE (L : List Mb) : Int := if adj (sortMb L) then 7 else 0
def objM (L : List Mb) : V := if adj (sortMb L) then ⟨0, 0, ⟨#[]⟩, [], []⟩ else ⟨5, 0, ⟨#[]⟩, (sortMb L).map Mb.nm, (sortMb L).map Mb.v⟩
theorem all_set {α : Type} {p : α → Prop} (d : Array α) (i : Nat) (x : α) (h : ∀ y ∈ d, p y) (hx : p x) : ∀ y ∈ d.setIfInBounds i x, p y := fun y hy => by
  rw [← Array.mem_toList_iff, Array.toList_setIfInBounds] at hy
  rcases List.mem_or_eq_of_mem_set hy with h1 | h1
  · exact h y (by rwa [Array.mem_toList_iff] at h1)
  · exact h1 ▸ hx
theorem insInner_all {α : Type} [Inhabited α] {p : α → Prop} (lt : α → α → Bool) : ∀ (j : Nat) (d : Array α), j < d.size → (∀ y ∈ d, p y) → ∀ y ∈ Sort.insInner lt 0 j d, p y
  | 0, d, _, h => h
  | j + 1, d, hj, h => by
    rw [Sort.insInner]
    split
    · refine insInner_all lt j _ (by simp [Sort.swp]; omega) ?_
      have g : ∀ i, i < d.size → p d[i]! := fun i hi => by rw [getElem!_pos d i hi]; exact h _ (Array.getElem_mem hi)
      exact all_set _ _ _ (all_set _ _ _ h (g j (by omega))) (g (j + 1) hj)
    · exact h
theorem outerF_all {α : Type} [Inhabited α] {p : α → Prop} (lt : α → α → Bool) : ∀ (f i : Nat) (d : Array α), i + f ≤ d.size → (∀ y ∈ d, p y) → ∀ y ∈ outerF lt f i d, p y
  | 0, _, d, _, h => h
  | f + 1, i, d, hi, h => by
    rw [outerF]
    exact outerF_all lt f (i + 1) _ (by rw [insInner_size]; omega) (insInner_all lt i d (by omega) h)
theorem sortMb_all {p : Mb → Prop} (L : List Mb) (h : ∀ m ∈ L, p m) : ∀ m ∈ sortMb L, p m := by
  cases L with
  | nil => intro m hm; simp [sortMb, outerF] at hm
  | cons x xs =>
    intro m hm
    unfold sortMb at hm
    rw [Array.mem_toList_iff] at hm
    exact outerF_all ltM _ _ _ (by simp; omega) (fun y hy => h y (by simpa using hy)) m hm
end Go.Eng
