import Derived.Test.YtnobijngkpflcaaC6
import Derived.Test.YtnobijngkpflcaaEngI
import Derived.Test.YtnobijngkpflcaaPureF
namespace Go.Proofs.Ytnobijngkpflcaa
open Go.Eng
set_option maxRecDepth 100000 in
theorem search_ok (n : Nat) (hn : n ≤ 1073741824) (fi : FuncId) (cb : Array Value) (p : Nat → Bool) (w : World) (ef : Enters Try.prog fi) (hf : ∀ W, Ext w W → ∀ i, i < n → Calls Try.prog fi (#[.int .i64 i] ++ cb) W (Ret W fun u _ => u = .bool (p i))) :
    Calls Try.prog 165 #[.int .i64 n, .func (.func fi) #[] cb] w (Ret w fun u _ => ∃ m : Nat, u = .int .i64 m ∧ m ≤ n ∧ (m = 0 ∨ p (m - 1) = false) ∧ (m = n ∨ p m = true)) := by
  refine enter Try.func165 rfl Try.ntmps165 (lbr rfl) fun a0 y0 zz0 harg => ?_
  have e0 : sl a0 0 = (.int .i64 ((n : Nat))) := harg 0 (lbr rfl)
  have e1 : sl a0 1 = (.func (.func fi) #[] cb) := harg 1 (lbr rfl)
  have kw := Keeps.refl All w
  clear harg
  refine wp_seq_k fun K1 hK1 => ?_
  refine rg mixed y0 zz0 ?_
  refine .i (sp_assign Has.cst) ?_
  refine .done ⟨by kernel_rfl, fun a2 g W2 y2 zz2 hk hg hV hR hP => ?_⟩
  obtain ⟨-, -⟩ := hV
  replace e0 := (hR 0 rfl).trans e0
  replace e1 := (hR 1 rfl).trans e1
  replace kw := kw.x hk
  clear hR hk hg hP
  refine tail_nil (hK1 _ _ ?_)
  refine wp_seq_k fun K3 hK3 => ?_
  refine rg mixed y2 zz2 ?_
  refine .i (sp_move (hbs rfl e0)) ?_
  refine .i (sp_assign Has.cst) ?_
  refine .i (sp_assign (hlc rfl)) ?_
  refine .done ⟨by kernel_rfl, fun a4 g W4 y4 zz4 hk hg hV hR hP => ?_⟩
  obtain ⟨e6, e5, -, -⟩ := hV
  replace e1 := (hR 1 rfl).trans e1
  have e5 : sl a4 5 = (.int .i64 (0)) := e5
  have e6 : sl a4 6 = (.int .i64 ((n : Nat))) := e6
  replace kw := kw.x hk
  clear hR hk hg hP
  refine tail_nil (hK3 _ _ ?_)
  refine wp_seq_k fun K5 hK5 => ?_
  refine wp_block ?_
  refine wp_for (n) (fun k a W => ∃ (lo : Nat), ∃ (hi : Nat), a.tmps.size = 26 ∧ a.defers = [] ∧ Keeps All w W ∧ sl a 1 = (.func (.func fi) #[] cb) ∧ sl a 5 = (.int .i64 ((lo : Nat))) ∧ sl a 6 = (.int .i64 ((hi : Nat))) ∧ (lo ≤ hi ∧ hi ≤ n ∧ k + (hi - lo) ≤ n) ∧ ((lo = 0 ∨ p (lo - 1) = false)) ∧ ((hi = n ∨ p hi = true))) ⟨0, n, y4, zz4, kw, e1, (e5.trans (congrArg (Value.int .i64) (rfl))), (e6.trans (congrArg (Value.int .i64) (rfl))), by omega, .inl rfl, .inl rfl⟩ ?_
  clear kw e1 e5 e6
  rintro k a6 W6 hkk ⟨lo, hi, y6, zz6, kw, e1, e5, e6, hlh, hp1, hp2⟩
  refine wp_seq_k fun K7 hK7 => ?_
  refine wp_seq_k fun K8 hK8 => ?_
  refine rg mixed y6 zz6 ?_
  refine .i (sp_move (hbs rfl e5)) ?_
  refine .i (sp_move (hbs rfl e6)) ?_
  refine .i (sp_lss (hlc rfl) (hlc rfl)) ?_
  refine .done ⟨by kernel_rfl, fun a9 g W9 y9 zz9 hk hg hV hR hP => ?_⟩
  obtain ⟨e11, -, -, -⟩ := hV
  replace e1 := (hR 1 rfl).trans e1
  replace e5 := (hR 5 rfl).trans e5
  replace e6 := (hR 6 rfl).trans e6
  replace e11 := e11.q
  replace kw := kw.x hk
  clear hR hk hg hP
  refine tail_nil (hK8 _ _ ?_)
  refine wp_cond_split e11 (fun hc => ?_) (fun hc => ?_)
  ·
   have hlt : lo < hi := by have := of_decide_eq_true hc; omega
   refine wp_skip (hK7 _ _ ?_)
   refine wp_block ?_
   refine wp_seq_k fun K10 hK10 => ?_
   refine rg mixed y9 zz9 ?_
   refine .i (sp_move (hbs rfl e5)) ?_
   refine .i (sp_move (hbs rfl e6)) ?_
   refine .i (sp_add (hlc rfl) (hlc rfl) (i64_in (by omega))) ?_
   refine .i (v := (.int .u64 (((lo : Nat) : Int) + ((hi : Nat) : Int)))) (sp_conv Try.underlying3 Try.underlying175 (hlc rfl) (u64_in (by omega))) ?_
   refine .i (v := (.int .u64 ((((lo : Nat) : Int) + ((hi : Nat) : Int) : Int) / 2))) (sp_shr1 (hlc rfl)) ?_
   refine .i (v := (.int .i64 ((((lo : Nat) : Int) + ((hi : Nat) : Int) : Int) / 2))) (sp_conv Try.underlying175 Try.underlying3 (hlc rfl) (i64_in (by omega))) ?_
   refine .i (sp_assign (hlc rfl)) ?_
   refine .done ⟨by kernel_rfl, fun a11 g W11 y11 zz11 hk hg hV hR hP => ?_⟩
   obtain ⟨e7, -, -, -, -, -, -, -⟩ := hV
   replace e1 := (hR 1 rfl).trans e1
   replace e5 := (hR 5 rfl).trans e5
   replace e6 := (hR 6 rfl).trans e6
   replace e7 := e7.q
   replace kw := kw.x hk
   clear hR hk hg hP
   refine tail_nil (hK10 _ _ ?_)
   refine wp_seq_k fun K12 hK12 => ?_
   refine rg mixed y11 zz11 ?_
   refine .i (sp_move (hbs rfl e1)) ?_
   refine .i (sp_move (hbs rfl e7)) ?_
   refine .i (v := (.bool (p ((lo + hi) / 2)))) (sp_callF1 ef (hlc rfl) (hlc rfl) (fun g W hk hgk => by rw [show ((((lo : Nat) : Int) + ((hi : Nat) : Int) : Int) / 2 : Int) = (((lo + hi) / 2 : Nat) : Int) by omega]; exact hf W (kw.trans hk) _ (by omega))) ?_
   refine .i (sp_not (hlc rfl)) ?_
   refine .done ⟨by kernel_rfl, fun a13 g W13 y13 zz13 hk hg hV hR hP => ?_⟩
   obtain ⟨e21, -, -, -, -⟩ := hV
   replace e1 := (hR 1 rfl).trans e1
   replace e5 := (hR 5 rfl).trans e5
   replace e6 := (hR 6 rfl).trans e6
   replace e7 := (hR 7 rfl).trans e7
   have e21 : sl a13 21 = (.bool (!(p ((lo + hi) / 2)))) := e21
   replace kw := kw.x hk
   clear hR hk hg hP
   refine tail_nil (hK12 _ _ ?_)
   refine wp_cond_split e21 (fun hc => ?_) (fun hc => ?_)
   ·
    have hpm : p ((lo + hi) / 2) = false := by simpa using hc
    refine rg mixed y13 zz13 ?_
    refine .i (sp_move (hbs rfl e7)) ?_
    refine .i (sp_add (hlc rfl) Has.cst (i64_in (by omega))) ?_
    refine .i (sp_assign (hlc rfl)) ?_
    refine .done ⟨by kernel_rfl, fun a14 g W14 y14 zz14 hk hg hV hR hP => ?_⟩
    obtain ⟨e5, -, -, -⟩ := hV
    replace e1 := (hR 1 rfl).trans e1
    replace e6 := (hR 6 rfl).trans e6
    replace e5 := e5.q
    replace kw := kw.x hk
    clear hR hk hg hP
    exact tail_nil ⟨by omega, ((lo + hi) / 2 + 1), hi, y14, zz14, kw, e1, (e5.trans (congrArg (Value.int .i64) (by omega))), (e6.trans (congrArg (Value.int .i64) (by omega))), by omega, (by first | exact hp1 | exact .inr hpm), (by first | exact hp2 | exact .inr hpm)⟩
   ·
    have hpm : p ((lo + hi) / 2) = true := by simpa using hc
    refine rg mixed y13 zz13 ?_
    refine .i (sp_move (hbs rfl e7)) ?_
    refine .i (sp_assign (hlc rfl)) ?_
    refine .done ⟨by kernel_rfl, fun a15 g W15 y15 zz15 hk hg hV hR hP => ?_⟩
    obtain ⟨e6, -, -⟩ := hV
    replace e1 := (hR 1 rfl).trans e1
    replace e5 := (hR 5 rfl).trans e5
    replace e6 := e6.q
    replace kw := kw.x hk
    clear hR hk hg hP
    exact tail_nil ⟨by omega, lo, ((lo + hi) / 2), y15, zz15, kw, e1, (e5.trans (congrArg (Value.int .i64) (by omega))), (e6.trans (congrArg (Value.int .i64) (by omega))), by omega, (by first | exact hp1 | exact .inr hpm), (by first | exact hp2 | exact .inr hpm)⟩
  ·
   have hge : lo = hi := by have := of_decide_eq_false hc; omega
   subst hge
   refine wp_exit (hK5 _ _ ?_)
   refine wp_seq_k fun K16 hK16 => ?_
   refine rg mixed y9 zz9 ?_
   refine .i (sp_move (hbs rfl e5)) ?_
   refine .i (sp_assign (hlc rfl)) ?_
   refine .done ⟨by kernel_rfl, fun a17 g W17 y17 zz17 hk hg hV hR hP => ?_⟩
   obtain ⟨e4, -, -⟩ := hV
   have e4 : sl a17 4 = (.int .i64 ((lo : Nat))) := e4
   replace kw := kw.x hk
   clear hR hk hg hP
   refine tail_nil (hK16 _ _ ?_)
   refine wp_ret ?_
   refine (show bodyPost Try.prog Try.f165 _ .ret _ _ from ret1 rfl zz17 e4 ⟨_, rfl, kw, ?_⟩)
   exact ⟨_, rfl, hlh.2.1, hp1, hp2⟩

set_option maxRecDepth 100000 in
theorem index_ok (ns : List ByteArray) (name : ByteArray) (w : World) (S : BSet) (v : Value) (hv : Rd w S (strsD ns) v) : Calls Try.prog 139 #[v, .string name] w (Ret w fun u _ => u = .int .i64 (idx name ns 0)) := by
  have hmn : ns.length ≤ maxLen := rd_lenS hv
  simp only [maxLen] at hmn
  obtain ⟨va, vc, ev, D_v⟩ := rdS_out (rd_arg hv)
  subst ev
  refine enter Try.func139 rfl Try.ntmps139 (lbr rfl) fun a0 y0 zz0 harg => ?_
  have e0 : sl a0 0 = (.slice va (ns.length) vc) := harg 0 (lbr rfl)
  have e1 : sl a0 1 = (.string (name)) := harg 1 (lbr rfl)
  have kw := Keeps.refl All w
  clear harg
  refine wp_seq_k fun K1 hK1 => ?_
  refine rg mixed y0 zz0 ?_
  refine .i (sp_assign Has.cst) ?_
  refine .done ⟨by kernel_rfl, fun a2 g W2 y2 zz2 hk hg hV hR hP => ?_⟩
  obtain ⟨-, -⟩ := hV
  replace e0 := (hR 0 rfl).trans e0
  replace e1 := (hR 1 rfl).trans e1
  replace D_v := D_v.ext hk
  replace kw := kw.x hk
  clear hR hk hg hP
  refine tail_nil (hK1 _ _ ?_)
  refine wp_seq_k fun K3 hK3 => ?_
  refine wp_seq_k fun K4 hK4 => ?_
  refine rg mixed y2 zz2 ?_
  refine .i (sp_move (hbs rfl e0)) ?_
  refine .i (sp_lenSs Try.underlying23 ((hlc rfl).dat D_v sub_all)) ?_
  refine .i (sp_move Has.cst) ?_
  refine .done ⟨by kernel_rfl, fun a5 g W5 y5 zz5 hk hg hV hR hP => ?_⟩
  obtain ⟨e8, e7, -, -⟩ := hV
  replace e0 := (hR 0 rfl).trans e0
  replace e1 := (hR 1 rfl).trans e1
  replace D_v := D_v.ext hk
  have e7 : sl a5 7 = (.int .i64 (ns.length)) := e7
  have e8 : sl a5 8 = (.int .i64 (0)) := e8
  replace kw := kw.x hk
  clear hR hk hg hP
  refine tail_nil (hK4 _ _ ?_)
  refine wp_block ?_
  refine wp_for (ns.length) (fun k a W => a.tmps.size = 19 ∧ a.defers = [] ∧ Keeps All w W ∧ sl a 0 = (.slice va (ns.length) vc) ∧ sl a 1 = (.string (name)) ∧ sl a 7 = (.int .i64 (ns.length)) ∧ sl a 8 = (.int .i64 ((k : Nat))) ∧ Rd W (SA w S []) (strsD (ns)) (.slice va (ns.length) vc) ∧ (idx name ns 0 = idx name (ns.drop k) k)) ⟨y5, zz5, kw, e0, e1, e7, (e8.trans (congrArg (Value.int .i64) (rfl))), D_v, rfl⟩ ?_
  clear kw e0 e1 e7 e8 D_v
  rintro k a6 W6 hkk ⟨y6, zz6, kw, e0, e1, e7, e8, D_v, hin⟩
  refine wp_seq_k fun K7 hK7 => ?_
  refine rg mixed y6 zz6 ?_
  refine .i (sp_lss (hbs rfl e8) (hbs rfl e7)) ?_
  refine .done ⟨by kernel_rfl, fun a8 g W8 y8 zz8 hk hg hV hR hP => ?_⟩
  obtain ⟨e9, -⟩ := hV
  replace e0 := (hR 0 rfl).trans e0
  replace e1 := (hR 1 rfl).trans e1
  replace e7 := (hR 7 rfl).trans e7
  replace e8 := (hR 8 rfl).trans e8
  replace D_v := D_v.ext hk
  replace e9 := e9.q
  replace kw := kw.x hk
  clear hR hk hg hP
  refine tail_nil (hK7 _ _ ?_)
  refine wp_seq_k fun K9 hK9 => ?_
  refine wp_cond_split e9 (fun hc => ?_) (fun hc => ?_)
  ·
   have hlt : k < ns.length := by simpa using hc
   rw [List.drop_eq_getElem_cons hlt, idx] at hin
   refine wp_skip (hK9 _ _ ?_)
   refine wp_seq_k fun K10 hK10 => ?_
   refine wp_block ?_
   refine wp_seq_k fun K11 hK11 => ?_
   refine rg mixed y8 zz8 ?_
   refine .i (sp_move (hbs rfl e8)) ?_
   refine .i (sp_assign (hlc rfl)) ?_
   refine .done ⟨by kernel_rfl, fun a12 g W12 y12 zz12 hk hg hV hR hP => ?_⟩
   obtain ⟨e5, -, -⟩ := hV
   replace e0 := (hR 0 rfl).trans e0
   replace e1 := (hR 1 rfl).trans e1
   replace e7 := (hR 7 rfl).trans e7
   replace e8 := (hR 8 rfl).trans e8
   replace D_v := D_v.ext hk
   have e5 : sl a12 5 = (.int .i64 ((k : Nat))) := e5
   replace kw := kw.x hk
   clear hR hk hg hP
   refine tail_nil (hK11 _ _ ?_)
   refine wp_seq_k fun K13 hK13 => ?_
   refine rg mixed y12 zz12 ?_
   refine .i (sp_move (hbs rfl e1)) ?_
   refine .i (sp_move (hbs rfl e0)) ?_
   refine .i (sp_move (hbs rfl e5)) ?_
   refine .rf (sp_indexS (i := k) ((hlc rfl).dat D_v sub_all) (hlc rfl) Try.underlying23 sz9 rfl hlt) ?_
   refine .i (sp_loadStr (hlc rfl) agg9 sz9) ?_
   refine .i (sp_sEql (hlc rfl) (hlc rfl)) ?_
   refine .done ⟨by kernel_rfl, fun a14 g W14 y14 zz14 hk hg hV hR hP => ?_⟩
   obtain ⟨e16, -, -, -, -, -, -⟩ := hV
   replace e0 := (hR 0 rfl).trans e0
   replace e1 := (hR 1 rfl).trans e1
   replace e7 := (hR 7 rfl).trans e7
   replace e8 := (hR 8 rfl).trans e8
   replace e5 := (hR 5 rfl).trans e5
   replace D_v := D_v.ext hk
   have e16 : sl a14 16 = (.bool (decide (name = (ns[k]'hlt)))) := e16
   replace kw := kw.x hk
   clear hR hk hg hP
   refine tail_nil (hK13 _ _ ?_)
   refine wp_cond_split e16 (fun hc => ?_) (fun hc => ?_)
   ·
    have hfin : idx name ns 0 = (k : Nat) := by rw [hin, if_pos (by simpa using hc)]
    refine wp_seq_k fun K15 hK15 => ?_
    refine rg mixed y14 zz14 ?_
    refine .i (sp_move (hbs rfl e5)) ?_
    refine .i (sp_assign (hlc rfl)) ?_
    refine .done ⟨by kernel_rfl, fun a16 g W16 y16 zz16 hk hg hV hR hP => ?_⟩
    obtain ⟨e4, -, -⟩ := hV
    replace D_v := D_v.ext hk
    have e4 : sl a16 4 = (.int .i64 ((k : Nat))) := e4
    replace kw := kw.x hk
    clear hR hk hg hP
    refine tail_nil (hK15 _ _ ?_)
    refine wp_ret ?_
    refine (show bodyPost Try.prog Try.f139 _ .ret _ _ from ret1 rfl zz16 e4 ⟨_, rfl, kw, ?_⟩)
    rw [hfin]; try rfl
   ·
    rw [if_neg (by simpa using hc)] at hin
    refine wp_skip (hK10 _ _ ?_)
    refine rg mixed y14 zz14 ?_
    refine .i (sp_add (hbs rfl e8) Has.cst (i64_in (by omega))) ?_
    refine .i (sp_move (hlc rfl)) ?_
    refine .done ⟨by kernel_rfl, fun a17 g W17 y17 zz17 hk hg hV hR hP => ?_⟩
    obtain ⟨e8, -, -⟩ := hV
    replace e0 := (hR 0 rfl).trans e0
    replace e1 := (hR 1 rfl).trans e1
    replace e7 := (hR 7 rfl).trans e7
    replace D_v := D_v.ext hk
    replace e8 := e8.q
    replace kw := kw.x hk
    clear hR hk hg hP
    exact tail_nil ⟨hlt, y17, zz17, kw, e0, e1, e7, (e8.trans (congrArg (Value.int .i64) (by simp))), D_v, hin⟩
  ·
   have hge0 : ¬ k < ns.length := by simpa using hc
   have hge : k = ns.length := by omega
   rw [hge, List.drop_length] at hin
   have hfin : idx name ns 0 = -1 := hin
   refine wp_exit (hK3 _ _ ?_)
   refine wp_seq_k fun K18 hK18 => ?_
   refine rg mixed y8 zz8 ?_
   refine .i (sp_assign Has.cst) ?_
   refine .done ⟨by kernel_rfl, fun a19 g W19 y19 zz19 hk hg hV hR hP => ?_⟩
   obtain ⟨e4, -⟩ := hV
   replace D_v := D_v.ext hk
   have e4 : sl a19 4 = (.int .i64 (-1)) := e4
   replace kw := kw.x hk
   clear hR hk hg hP
   refine tail_nil (hK18 _ _ ?_)
   refine wp_ret ?_
   refine (show bodyPost Try.prog Try.f139 _ .ret _ _ from ret1 rfl zz19 e4 ⟨_, rfl, kw, ?_⟩)
   rw [hfin]; try rfl

set_option maxRecDepth 100000 in
theorem find1_ok (ns : List ByteArray) (name : ByteArray) (i : Nat) (hi : i < ns.length) (w : World) (S : BSet) (v : Value) (bn bs : Nat) (hv : Rd w S (strsD ns) v) (own_bn : Own w bn [v] 23) (own_bs : Own w bs [.string name] 9) : Calls Try.prog 166 #[.int .i64 i, .pointer (some ⟨bn, 0, none⟩), .pointer (some ⟨bs, 0, none⟩)] w (Ret w fun u _ => u = .bool (!sLt ns[i] name)) := by
  obtain ⟨va, vc, ev, D_v⟩ := rdS_out (rd_arg hv)
  subst ev
  refine enter Try.func166 rfl Try.ntmps166 (lbr rfl) fun a0 y0 zz0 harg => ?_
  have e0 : sl a0 0 = (.int .i64 ((i : Nat))) := harg 0 (lbr rfl)
  have e1 : sl a0 1 = (.pointer (some ⟨bn, 0, none⟩)) := harg 1 (lbr rfl)
  have e2 : sl a0 2 = (.pointer (some ⟨bs, 0, none⟩)) := harg 2 (lbr rfl)
  have kw := Keeps.refl All w
  clear harg
  refine wp_seq_k fun K1 hK1 => ?_
  refine rg mixed y0 zz0 ?_
  refine .i (sp_assign Has.cst) ?_
  refine .done ⟨by kernel_rfl, fun a2 g W2 y2 zz2 hk hg hV hR hP => ?_⟩
  obtain ⟨-, -⟩ := hV
  replace e0 := (hR 0 rfl).trans e0
  replace e1 := (hR 1 rfl).trans e1
  replace e2 := (hR 2 rfl).trans e2
  replace D_v := D_v.ext hk
  replace own_bn := own_bn.ext hk
  replace own_bs := own_bs.ext hk
  replace kw := kw.x hk
  clear hR hk hg hP
  refine tail_nil (hK1 _ _ ?_)
  refine wp_seq_k fun K3 hK3 => ?_
  refine rg mixed y2 zz2 ?_
  refine .i (lo1 (hbs rfl e1) own_bn trivial agg23 sz23 rfl) ?_
  refine .i (sp_move (hbs rfl e0)) ?_
  refine .rf (sp_indexS (i := i) ((hlc rfl).dat D_v sub_all) (hlc rfl) Try.underlying23 sz9 rfl hi) ?_
  refine .i (sp_loadStr (hlc rfl) agg9 sz9) ?_
  refine .i (lo1 (hbs rfl e2) own_bs trivial agg9 sz9 rfl) ?_
  refine .i (sp_sGeq (hlc rfl) (hlc rfl)) ?_
  refine .i (sp_assign (hlc rfl)) ?_
  refine .done ⟨by kernel_rfl, fun a4 g W4 y4 zz4 hk hg hV hR hP => ?_⟩
  obtain ⟨e4, -, -, -, -, -, -, -⟩ := hV
  replace D_v := D_v.ext hk
  have e4 : sl a4 4 = (.bool (!sLt (ns[i]'hi) name)) := e4
  replace own_bn := own_bn.ext hk
  replace own_bs := own_bs.ext hk
  replace kw := kw.x hk
  clear hR hk hg hP
  refine tail_nil (hK3 _ _ ?_)
  refine wp_ret ?_
  refine (show bodyPost Try.prog Try.f166 _ .ret _ _ from ret1 rfl zz4 e4 ⟨_, rfl, kw, ?_⟩)
  exact rfl

set_option maxRecDepth 100000 in
theorem find_ok (ns : List ByteArray) (name : ByteArray) (hn : ns.length ≤ 1073741824) (w : World) (S : BSet) (v : Value) (hv : Rd w S (strsD ns) v) : Calls Try.prog 145 #[v, .string name] w (Ret w fun u _ => u = .tuple #[.int .i64 (findI ns name), .bool (findB ns name)]) := by
  have hlb := lb_le ns name
  obtain ⟨va, vc, ev, D_v⟩ := rdS_out (rd_arg hv)
  subst ev
  refine enter Try.func145 rfl Try.ntmps145 (lbr rfl) fun a0 y0 zz0 harg => ?_
  have e0 : sl a0 0 = (.slice va (ns.length) vc) := harg 0 (lbr rfl)
  have e1 : sl a0 1 = (.string (name)) := harg 1 (lbr rfl)
  have kw := Keeps.refl All w
  clear harg
  refine wp_seq_k fun K1 hK1 => ?_
  refine rg mixed y0 zz0 ?_
  refine .boxOp (v := (.slice va (ns.length) vc)) (hbs rfl e0) ?_
  refine .boxOp (v := (.string (name))) (hbs rfl e1) ?_
  refine .i (sp_assign Has.cst) ?_
  refine .i (sp_assign Has.cst) ?_
  refine .done ⟨by kernel_rfl, fun a2 g W2 y2 zz2 hk hg hV hR hP => ?_⟩
  obtain ⟨-, -, ⟨b3_2, e3, hb3, own_b3_2⟩, ⟨b2_2, e2, hb2, own_b2_2⟩, -⟩ := hV
  have lo_b3_2 : w.heap.size ≤ b3_2 := Nat.le_trans kw.size (hg.lo _ _ hb3)
  have own_b3_2 : Own W2 b3_2 [(.string (name))] 9 := own_b3_2
  have lo_b2_2 : w.heap.size ≤ b2_2 := Nat.le_trans kw.size (hg.lo _ _ hb2)
  have own_b2_2 : Own W2 b2_2 [(.slice va (ns.length) vc)] 23 := own_b2_2
  have ne_b3_2_b2_2 : b3_2 ≠ b2_2 := fun h => by have := hg.inj _ _ _ hb3 (h ▸ hb2); cases this
  replace D_v := sa_more D_v hk [b3_2, b2_2] (in_cons (hg.lo _ _ hb3) (in_cons (hg.lo _ _ hb2) in_nil))
  replace kw := kw.x hk
  clear hR hk hg hP hb3 hb2
  refine tail_nil (hK1 _ _ ?_)
  refine wp_seq_k fun K3 hK3 => ?_
  refine wp_seq_k fun K4 hK4 => ?_
  refine rg mixed y2 zz2 ?_
  refine .i (lo1 (hbs rfl e2) own_b2_2 trivial agg23 sz23 rfl) ?_
  refine .i (v := (.bool (asc ns))) (sp_call1 (φ1 := IsD (SA w S [b3_2, b2_2]) (strsD (ns))) ent164 ((hlc rfl).dat D_v sub_all) (fun g u1 W hk hgk h1 => ascending_ok (ns) W _ _ h1)) ?_
  refine .i (sp_not (hlc rfl)) ?_
  refine .done ⟨by kernel_rfl, fun a5 g W5 y5 zz5 hk hg hV hR hP => ?_⟩
  obtain ⟨e10, -, -, -⟩ := hV
  replace e3 := (hR 3 rfl).trans e3
  replace e2 := (hR 2 rfl).trans e2
  replace D_v := D_v.ext hk
  have e10 : sl a5 10 = (.bool (!(asc ns))) := e10
  replace own_b3_2 := own_b3_2.ext hk
  replace own_b2_2 := own_b2_2.ext hk
  replace kw := kw.x hk
  clear hR hk hg hP
  refine tail_nil (hK4 _ _ ?_)
  refine wp_cond_split e10 (fun hc => ?_) (fun hc => ?_)
  ·
   have hasc : asc ns = false := by simpa using hc
   refine wp_seq_k fun K6 hK6 => ?_
   refine rg mixed y5 zz5 ?_
   refine .i (lo1 (hbs rfl e2) own_b2_2 trivial agg23 sz23 rfl) ?_
   refine .i (lo1 (hbs rfl e3) own_b3_2 trivial agg9 sz9 rfl) ?_
   refine .i (v := (.int .i64 (idx name ns 0))) (sp_call2 (φ1 := IsD (SA w S [b3_2, b2_2]) (strsD (ns))) (φ2 := Is (.string (name))) ent139 ((hlc rfl).dat D_v sub_all) (hlc rfl) (fun g u1 u2 W hk hgk h1 h2 => by have h2 : u2 = _ := h2; subst u2; exact index_ok (ns) (name) W _ _ h1)) ?_
   refine .i (sp_assign (hlc rfl)) ?_
   refine .done ⟨by kernel_rfl, fun a7 g W7 y7 zz7 hk hg hV hR hP => ?_⟩
   obtain ⟨e6, -, -, -, -⟩ := hV
   replace D_v := D_v.ext hk
   have e6 : sl a7 6 = (.int .i64 (idx name ns 0)) := e6
   replace own_b3_2 := own_b3_2.ext hk
   replace own_b2_2 := own_b2_2.ext hk
   replace kw := kw.x hk
   clear hR hk hg hP
   refine tail_nil (hK6 _ _ ?_)
   refine wp_seq_k fun K8 hK8 => ?_
   refine rg mixed y7 zz7 ?_
   refine .i (sp_move (hbs rfl e6)) ?_
   refine .i (sp_move (hbs rfl e6)) ?_
   refine .i (sp_geq (hlc rfl) Has.cst) ?_
   refine .i (sp_assign (hlc rfl)) ?_
   refine .i (sp_assign (hlc rfl)) ?_
   refine .done ⟨by kernel_rfl, fun a9 g W9 y9 zz9 hk hg hV hR hP => ?_⟩
   obtain ⟨e5, e4, -, -, -, -⟩ := hV
   have e4 : sl a9 4 = (.int .i64 (idx name ns 0)) := e4
   replace e5 := e5.q
   replace own_b3_2 := own_b3_2.ext hk
   replace own_b2_2 := own_b2_2.ext hk
   replace kw := kw.x hk
   clear hR hk hg hP
   refine tail_nil (hK8 _ _ ?_)
   refine wp_ret ?_
   refine (show bodyPost Try.prog Try.f145 _ .ret _ _ from ret2 rfl zz9 e4 e5 ⟨_, rfl, kw, ?_⟩)
   simp [findI, findB, hasc]
  ·
   have hasc : asc ns = true := by simpa using hc
   refine wp_skip (hK3 _ _ ?_)
   refine wp_seq_k fun K10 hK10 => ?_
   refine rg mixed y5 zz5 ?_
   refine .i (lo1 (hbs rfl e2) own_b2_2 trivial agg23 sz23 rfl) ?_
   refine .i (sp_lenSs Try.underlying23 ((hlc rfl).dat D_v sub_all)) ?_
   refine .i (v := (.func (.func 166) #[] #[(.pointer (some ⟨b2_2, 0, none⟩)), (.pointer (some ⟨b3_2, 0, none⟩))])) (sp_mkF2 (hbs rfl e2) (hbs rfl e3)) ?_
   refine .i (v := (.int .i64 (((lb ns name : Nat) : Int)))) (sp_call2 (φ1 := Is (.int .i64 (ns.length))) (φ2 := Is (.func (.func 166) #[] #[(.pointer (some ⟨b2_2, 0, none⟩)), (.pointer (some ⟨b3_2, 0, none⟩))])) ent165 (hlc rfl) (hlc rfl) (fun g u1 u2 W hk hgk h1 h2 => by have h1 : u1 = _ := h1; subst u1; have h2 : u2 = _ := h2; subst u2; exact ((search_ok ns.length (by omega) _ _ (fun i => !sLt (ns.getD i ⟨#[]⟩) name) W ent166 fun W2 hk2 i hi => by have h := find1_ok ns name i hi W2 _ _ _ _ (D_v.ext (hk.trans hk2)) (own_b2_2.ext (hk.trans hk2)) (own_b3_2.ext (hk.trans hk2)); rw [List.getD_eq_getElem?_getD, List.getElem?_eq_getElem hi]; exact h)).mono (fun _ _ ⟨v, h1, h2, m, h3, h4, h5, h6⟩ => ⟨v, h1, h2, by rw [lb_of (p := fun i => !sLt (ns.getD i ⟨#[]⟩) name) hasc (fun i h => by simp [List.getD_eq_getElem?_getD, h]) h4 h5 h6]; exact h3⟩))) ?_
   refine .i (sp_assign (hlc rfl)) ?_
   refine .done ⟨by kernel_rfl, fun a11 g W11 y11 zz11 hk hg hV hR hP => ?_⟩
   obtain ⟨e7, -, -, -, -, -⟩ := hV
   replace e3 := (hR 3 rfl).trans e3
   replace e2 := (hR 2 rfl).trans e2
   replace D_v := D_v.ext hk
   have e7 : sl a11 7 = (.int .i64 (((lb ns name : Nat) : Int))) := e7
   replace own_b3_2 := own_b3_2.ext hk
   replace own_b2_2 := own_b2_2.ext hk
   replace kw := kw.x hk
   clear hR hk hg hP
   refine tail_nil (hK10 _ _ ?_)
   refine wp_seq_k fun K12 hK12 => ?_
   refine rg mixed y11 zz11 ?_
   refine .i (sp_move (hbs rfl e7)) ?_
   refine .i (sp_move (hbs rfl e7)) ?_
   refine .i (lo1 (hbs rfl e2) own_b2_2 trivial agg23 sz23 rfl) ?_
   refine .i (sp_lenSs Try.underlying23 ((hlc rfl).dat D_v sub_all)) ?_
   refine .i (sp_lss (hlc rfl) (hlc rfl)) ?_
   refine .i (sp_move (hlc rfl)) ?_
   refine .e (t := 26) rfl (hlc rfl) (fun hg => lo1 (hbs rfl e2) own_b2_2 trivial agg23 sz23 rfl) ?_
   refine .e (t := 26) rfl (hlc rfl) (fun hg => sp_move (hbs rfl e7)) ?_
   refine .opE (t := 26) (φ := IsR (SA w S [b3_2, b2_2]) (D.str (ns.getD (lb ns name) ⟨#[]⟩))) rfl (hlc rfl) (st_r sub_all) (fun hg => sp_indexSD (i := (lb ns name)) (((hlc rfl).undE hg).dat D_v sub_all) ((hlc rfl).undE hg) Try.underlying23 sz9 rfl (by have := of_decide_eq_true hg; omega)) ?_
   refine .e (t := 26) rfl (hlc rfl) (fun hg => sp_loadStr ((hlc rfl).undE hg) agg9 sz9) ?_
   refine .e (t := 26) rfl (hlc rfl) (fun hg => lo1 (hbs rfl e3) own_b3_2 trivial agg9 sz9 rfl) ?_
   refine .e (t := 26) rfl (hlc rfl) (fun hg => sp_sEql ((hlc rfl).undE hg) ((hlc rfl).undE hg)) ?_
   refine .i (sp_and (hlc rfl) ((hlc rfl).weak fun hq => hq)) ?_
   refine .i (sp_assign (hlc rfl)) ?_
   refine .i (sp_assign (hlc rfl)) ?_
   refine .done ⟨by kernel_rfl, fun a13 g W13 y13 zz13 hk hg hV hR hP => ?_⟩
   obtain ⟨e5, e4, -, -, -, -, -, -, -, -, -, -, -, -, -, -⟩ := hV
   replace D_v := D_v.ext hk
   have e4 : sl a13 4 = (.int .i64 (((lb ns name : Nat) : Int))) := e4
   replace e5 := e5.q
   replace own_b3_2 := own_b3_2.ext hk
   replace own_b2_2 := own_b2_2.ext hk
   replace kw := kw.x hk
   clear hR hk hg hP
   refine tail_nil (hK12 _ _ ?_)
   refine wp_ret ?_
   refine (show bodyPost Try.prog Try.f145 _ .ret _ _ from ret2 rfl zz13 e4 e5 ⟨_, rfl, kw, ?_⟩)
   simp only [findI, findB, hasc, if_true]
   rw [find_fin]

end Go.Proofs.Ytnobijngkpflcaa
