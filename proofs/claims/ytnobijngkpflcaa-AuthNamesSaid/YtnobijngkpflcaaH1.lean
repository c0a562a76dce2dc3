import Derived.Test.YtnobijngkpflcaaG1
import Derived.Test.YtnobijngkpflcaaPureH
namespace Go.Proofs.Ytnobijngkpflcaa
open Go.Eng
set_option maxRecDepth 100000 in
theorem digit_ok (s : ByteArray) (i : Nat) (hi : i < s.size) (hm : s.size ≤ maxLen) (w : World) : Calls Try.prog 152 #[.string s, .int .i64 i] w (Ret w fun u _ => u = .tuple #[.int .i64 (hexV (s[i]'hi).toNat), .bool (hexB (s[i]'hi).toNat)]) := by
  simp only [maxLen] at hm
  have hc8 : (s[i]'hi).toNat < 256 := UInt8.toNat_lt _
  refine enter Try.func152 rfl Try.ntmps152 (lbr rfl) fun a0 y0 zz0 harg => ?_
  have e0 : sl a0 0 = (.string (s)) := harg 0 (lbr rfl)
  have e1 : sl a0 1 = (.int .i64 ((i : Nat))) := harg 1 (lbr rfl)
  have kw := Keeps.refl All w
  clear harg
  refine wp_seq_k fun K1 hK1 => ?_
  refine rg mixed y0 zz0 ?_
  refine .i (sp_assign Has.cst) ?_
  refine .i (sp_assign Has.cst) ?_
  refine .done ⟨by kernel_rfl, fun a2 g W2 y2 zz2 hk hg hV hR hP => ?_⟩
  obtain ⟨-, -, -⟩ := hV
  replace e0 := (hR 0 rfl).trans e0
  replace e1 := (hR 1 rfl).trans e1
  replace kw := kw.x hk
  clear hR hk hg hP
  refine tail_nil (hK1 _ _ ?_)
  refine wp_seq_k fun K3 hK3 => ?_
  refine wp_seq_k fun K4 hK4 => ?_
  refine rg mixed y2 zz2 ?_
  refine .i (sp_move (hbs rfl e1)) ?_
  refine .i (sp_lss (hlc rfl) Has.cst) ?_
  refine .i (sp_move (hlc rfl)) ?_
  refine .e (t := 9) rfl (hlc rfl) (fun hg => sp_move (hbs rfl e1)) ?_
  refine .e (t := 9) rfl (hlc rfl) (fun hg => sp_move (hbs rfl e0)) ?_
  refine .e (t := 9) rfl (hlc rfl) (fun hg => sp_lenS Try.underlying9 ((hlc rfl).undE hg)) ?_
  refine .e (t := 9) rfl (hlc rfl) (fun hg => sp_geq ((hlc rfl).undE hg) ((hlc rfl).undE hg)) ?_
  refine .i (sp_or (hlc rfl) ((hlc rfl).weak fun hq => hq)) ?_
  refine .done ⟨by kernel_rfl, fun a5 g W5 y5 zz5 hk hg hV hR hP => ?_⟩
  obtain ⟨e14, -, -, -, -, -, -, -, -⟩ := hV
  replace e0 := (hR 0 rfl).trans e0
  replace e1 := (hR 1 rfl).trans e1
  replace e14 := e14.q
  replace kw := kw.x hk
  clear hR hk hg hP
  refine tail_nil (hK4 _ _ ?_)
  refine wp_cond_split e14 (fun hc => ?_) (fun hc => ?_)
  ·
   exfalso
   simp at hc
   omega
  ·
   refine wp_skip (hK3 _ _ ?_)
   refine wp_seq_k fun K6 hK6 => ?_
   refine wp_seq_k fun K7 hK7 => ?_
   refine rg mixed y5 zz5 ?_
   refine .i (sp_move (hbs rfl e0)) ?_
   refine .i (sp_move (hbs rfl e1)) ?_
   refine .i (v := (.int .u8 (((s[i]'hi).toNat : Nat)))) (sp_indexStr (i := i) Try.underlying9 (hlc rfl) (hlc rfl) rfl hi) ?_
   refine .i (sp_assign (hlc rfl)) ?_
   refine .done ⟨by kernel_rfl, fun a8 g W8 y8 zz8 hk hg hV hR hP => ?_⟩
   obtain ⟨e6, -, -, -, -⟩ := hV
   have e6 : sl a8 6 = (.int .u8 (((s[i]'hi).toNat : Nat))) := e6
   replace kw := kw.x hk
   clear hR hk hg hP
   refine tail_nil (hK7 _ _ ?_)
   refine wp_block ?_
   refine wp_seq_k fun K9 hK9 => ?_
   refine rg mixed y8 zz8 ?_
   refine .i (sp_move (hbs rfl e6)) ?_
   refine .i (sp_leq Has.cst (hlc rfl)) ?_
   refine .i (sp_move (hlc rfl)) ?_
   refine .e (t := 21) rfl (hlc rfl) (fun hg => sp_move (hbs rfl e6)) ?_
   refine .e (t := 21) rfl (hlc rfl) (fun hg => sp_leq ((hlc rfl).undE hg) Has.cst) ?_
   refine .i (sp_and (hlc rfl) ((hlc rfl).weak fun hq => hq)) ?_
   refine .i (sp_assign (hlc rfl)) ?_
   refine .done ⟨by kernel_rfl, fun a10 g W10 y10 zz10 hk hg hV hR hP => ?_⟩
   obtain ⟨e18, -, -, -, -, -, -, -⟩ := hV
   replace e6 := (hR 6 rfl).trans e6
   replace e18 := e18.q
   replace kw := kw.x hk
   clear hR hk hg hP
   refine tail_nil (hK9 _ _ ?_)
   refine wp_cond_split e18 (fun hc => ?_) (fun hc => ?_)
   ·
    have h1 : 48 ≤ (s[i]'hi).toNat ∧ (s[i]'hi).toNat ≤ 57 := by simp at hc; omega
    have hfin : hexV (s[i]'hi).toNat = (s[i]'hi).toNat - 48 ∧ hexB (s[i]'hi).toNat = true := ⟨by rw [hexV, if_pos h1], by simp [hexB, h1]⟩
    refine wp_seq_k fun K11 hK11 => ?_
    refine rg mixed y10 zz10 ?_
    refine .i (sp_move (hbs rfl e6)) ?_
    refine .i (sp_sub (hlc rfl) Has.cst (u8_in (by omega))) ?_
    refine .i (v := (.int .i64 ((((s[i]'hi).toNat : Nat) : Int) - (48 : Int)))) (sp_conv Try.underlying5 Try.underlying3 (hlc rfl) (i64_in (by omega))) ?_
    refine .i (sp_assign (hlc rfl)) ?_
    refine .i (sp_assign Has.cst) ?_
    refine .done ⟨by kernel_rfl, fun a12 g W12 y12 zz12 hk hg hV hR hP => ?_⟩
    obtain ⟨e5, e4, -, -, -, -⟩ := hV
    replace e4 := e4.q
    have e5 : sl a12 5 = (.bool (true)) := e5
    replace kw := kw.x hk
    clear hR hk hg hP
    refine tail_nil (hK11 _ _ ?_)
    refine wp_ret ?_
    refine (show bodyPost Try.prog Try.f152 _ .ret _ _ from ret2 rfl zz12 e4 e5 ⟨_, rfl, kw, ?_⟩)
    rw [hfin.1, hfin.2]
   ·
    have h1 : ¬ (48 ≤ (s[i]'hi).toNat ∧ (s[i]'hi).toNat ≤ 57) := by simp at hc; omega
    refine wp_seq_k fun K13 hK13 => ?_
    refine rg mixed y10 zz10 ?_
    refine .i (sp_move (hbs rfl e6)) ?_
    refine .i (sp_leq Has.cst (hlc rfl)) ?_
    refine .i (sp_move (hlc rfl)) ?_
    refine .e (t := 31) rfl (hlc rfl) (fun hg => sp_move (hbs rfl e6)) ?_
    refine .e (t := 31) rfl (hlc rfl) (fun hg => sp_leq ((hlc rfl).undE hg) Has.cst) ?_
    refine .i (sp_and (hlc rfl) ((hlc rfl).weak fun hq => hq)) ?_
    refine .i (sp_assign (hlc rfl)) ?_
    refine .done ⟨by kernel_rfl, fun a14 g W14 y14 zz14 hk hg hV hR hP => ?_⟩
    obtain ⟨e28, -, -, -, -, -, -, -⟩ := hV
    replace e6 := (hR 6 rfl).trans e6
    replace e28 := e28.q
    replace kw := kw.x hk
    clear hR hk hg hP
    refine tail_nil (hK13 _ _ ?_)
    refine wp_cond_split e28 (fun hc => ?_) (fun hc => ?_)
    ·
     have h2 : 97 ≤ (s[i]'hi).toNat ∧ (s[i]'hi).toNat ≤ 102 := by simp at hc; omega
     have hfin : hexV (s[i]'hi).toNat = (s[i]'hi).toNat - 97 + 10 ∧ hexB (s[i]'hi).toNat = true := ⟨by rw [hexV, if_neg h1, if_pos h2], by simp [hexB, h2]⟩
     refine wp_seq_k fun K15 hK15 => ?_
     refine rg mixed y14 zz14 ?_
     refine .i (sp_move (hbs rfl e6)) ?_
     refine .i (sp_sub (hlc rfl) Has.cst (u8_in (by omega))) ?_
     refine .i (v := (.int .i64 ((((s[i]'hi).toNat : Nat) : Int) - (97 : Int)))) (sp_conv Try.underlying5 Try.underlying3 (hlc rfl) (i64_in (by omega))) ?_
     refine .i (sp_add (hlc rfl) Has.cst (i64_in (by omega))) ?_
     refine .i (sp_assign (hlc rfl)) ?_
     refine .i (sp_assign Has.cst) ?_
     refine .done ⟨by kernel_rfl, fun a16 g W16 y16 zz16 hk hg hV hR hP => ?_⟩
     obtain ⟨e5, e4, -, -, -, -, -⟩ := hV
     replace e4 := e4.q
     have e5 : sl a16 5 = (.bool (true)) := e5
     replace kw := kw.x hk
     clear hR hk hg hP
     refine tail_nil (hK15 _ _ ?_)
     refine wp_ret ?_
     refine (show bodyPost Try.prog Try.f152 _ .ret _ _ from ret2 rfl zz16 e4 e5 ⟨_, rfl, kw, ?_⟩)
     rw [hfin.1, hfin.2]
    ·
     have h2 : ¬ (97 ≤ (s[i]'hi).toNat ∧ (s[i]'hi).toNat ≤ 102) := by simp at hc; omega
     have hfin : hexV (s[i]'hi).toNat = 0 ∧ hexB (s[i]'hi).toNat = false := ⟨by rw [hexV, if_neg h1, if_neg h2], by simp [hexB]; omega⟩
     refine wp_skip (hK6 _ _ ?_)
     refine wp_seq_k fun K17 hK17 => ?_
     refine rg mixed y14 zz14 ?_
     refine .i (sp_assign Has.cst) ?_
     refine .i (sp_assign Has.cst) ?_
     refine .done ⟨by kernel_rfl, fun a18 g W18 y18 zz18 hk hg hV hR hP => ?_⟩
     obtain ⟨e5, e4, -⟩ := hV
     have e4 : sl a18 4 = (.int .i64 (0)) := e4
     have e5 : sl a18 5 = (.bool (false)) := e5
     replace kw := kw.x hk
     clear hR hk hg hP
     refine tail_nil (hK17 _ _ ?_)
     refine wp_ret ?_
     refine (show bodyPost Try.prog Try.f152 _ .ret _ _ from ret2 rfl zz18 e4 e5 ⟨_, rfl, kw, ?_⟩)
     rw [hfin.1, hfin.2]

set_option maxRecDepth 100000 in
theorem hexIs_ok (s : ByteArray) (hm : s.size ≤ maxLen) (w : World) : Calls Try.prog 135 #[.string s] w (Ret w fun u _ => u = .bool (hexIs s)) := by
  have hmx := hm
  simp only [maxLen] at hmx
  refine enter Try.func135 rfl Try.ntmps135 (lbr rfl) fun a0 y0 zz0 harg => ?_
  have e0 : sl a0 0 = (.string (s)) := harg 0 (lbr rfl)
  have kw := Keeps.refl All w
  clear harg
  refine wp_seq_k fun K1 hK1 => ?_
  refine rg mixed y0 zz0 ?_
  refine .i (sp_assign Has.cst) ?_
  refine .done ⟨by kernel_rfl, fun a2 g W2 y2 zz2 hk hg hV hR hP => ?_⟩
  obtain ⟨-, -⟩ := hV
  replace e0 := (hR 0 rfl).trans e0
  replace kw := kw.x hk
  clear hR hk hg hP
  refine tail_nil (hK1 _ _ ?_)
  refine wp_seq_k fun K3 hK3 => ?_
  refine wp_seq_k fun K4 hK4 => ?_
  refine rg mixed y2 zz2 ?_
  refine .i (sp_move (hbs rfl e0)) ?_
  refine .i (sp_lenS Try.underlying9 (hlc rfl)) ?_
  refine .i (sp_move Has.cst) ?_
  refine .done ⟨by kernel_rfl, fun a5 g W5 y5 zz5 hk hg hV hR hP => ?_⟩
  obtain ⟨e8, e7, -, -⟩ := hV
  replace e0 := (hR 0 rfl).trans e0
  have e7 : sl a5 7 = (.int .i64 (s.size)) := e7
  have e8 : sl a5 8 = (.int .i64 (0)) := e8
  replace kw := kw.x hk
  clear hR hk hg hP
  refine tail_nil (hK4 _ _ ?_)
  refine wp_block ?_
  refine wp_for (s.size) (fun k a W => a.tmps.size = 20 ∧ a.defers = [] ∧ Keeps All w W ∧ sl a 0 = (.string (s)) ∧ sl a 7 = (.int .i64 (s.size)) ∧ sl a 8 = (.int .i64 ((k : Nat))) ∧ (∀ i (h : i < s.size), i < k → hexB (s[i]'h).toNat = true)) ⟨y5, zz5, kw, e0, e7, (e8.trans (congrArg (Value.int .i64) (rfl))), fun i h hi => absurd hi (by omega)⟩ ?_
  clear kw e0 e7 e8
  rintro k a6 W6 hkk ⟨y6, zz6, kw, e0, e7, e8, hinv⟩
  refine wp_seq_k fun K7 hK7 => ?_
  refine rg mixed y6 zz6 ?_
  refine .i (sp_lss (hbs rfl e8) (hbs rfl e7)) ?_
  refine .done ⟨by kernel_rfl, fun a8 g W8 y8 zz8 hk hg hV hR hP => ?_⟩
  obtain ⟨e9, -⟩ := hV
  replace e0 := (hR 0 rfl).trans e0
  replace e7 := (hR 7 rfl).trans e7
  replace e8 := (hR 8 rfl).trans e8
  replace e9 := e9.q
  replace kw := kw.x hk
  clear hR hk hg hP
  refine tail_nil (hK7 _ _ ?_)
  refine wp_seq_k fun K9 hK9 => ?_
  refine wp_cond_split e9 (fun hc => ?_) (fun hc => ?_)
  ·
   have hlt : k < s.size := by simpa using hc
   refine wp_skip (hK9 _ _ ?_)
   refine wp_seq_k fun K10 hK10 => ?_
   refine wp_block ?_
   refine wp_seq_k fun K11 hK11 => ?_
   refine rg mixed y8 zz8 ?_
   refine .i (sp_move (hbs rfl e8)) ?_
   refine .i (sp_assign (hlc rfl)) ?_
   refine .done ⟨by kernel_rfl, fun a12 g W12 y12 zz12 hk hg hV hR hP => ?_⟩
   obtain ⟨e3, -, -⟩ := hV
   replace e0 := (hR 0 rfl).trans e0
   replace e7 := (hR 7 rfl).trans e7
   replace e8 := (hR 8 rfl).trans e8
   have e3 : sl a12 3 = (.int .i64 ((k : Nat))) := e3
   replace kw := kw.x hk
   clear hR hk hg hP
   refine tail_nil (hK11 _ _ ?_)
   refine wp_seq_k fun K13 hK13 => ?_
   refine rg mixed y12 zz12 ?_
   refine .i (sp_move (hbs rfl e0)) ?_
   refine .i (sp_move (hbs rfl e3)) ?_
   refine .i (v := (.tuple #[(.int .i64 (hexV (s[k]'hlt).toNat)), (.bool (hexB (s[k]'hlt).toNat))])) (sp_call2 (φ1 := Is (.string (s))) (φ2 := Is (.int .i64 ((k : Nat)))) ent152 (hlc rfl) (hlc rfl) (fun g u1 u2 W hk hgk h1 h2 => by have h1 : u1 = _ := h1; subst u1; have h2 : u2 = _ := h2; subst u2; exact digit_ok (s) k hlt hm W)) ?_
   refine .i (sp_move (hlc rfl)) ?_
   refine .i (v := (.int .i64 (hexV (s[k]'hlt).toNat))) (sp_extT (hlc rfl) rfl) ?_
   refine .i (v := (.bool (hexB (s[k]'hlt).toNat))) (sp_extT (hlc rfl) rfl) ?_
   refine .i (sp_assign (hlc rfl)) ?_
   refine .i (sp_assign (hlc rfl)) ?_
   refine .done ⟨by kernel_rfl, fun a14 g W14 y14 zz14 hk hg hV hR hP => ?_⟩
   obtain ⟨e5, -, -, -, -, -, -, -, -⟩ := hV
   replace e0 := (hR 0 rfl).trans e0
   replace e7 := (hR 7 rfl).trans e7
   replace e8 := (hR 8 rfl).trans e8
   have e5 : sl a14 5 = (.bool (hexB (s[k]'hlt).toNat)) := e5
   replace kw := kw.x hk
   clear hR hk hg hP
   refine tail_nil (hK13 _ _ ?_)
   refine wp_seq_k fun K15 hK15 => ?_
   refine rg mixed y14 zz14 ?_
   refine .i (sp_move (hbs rfl e5)) ?_
   refine .i (sp_not (hlc rfl)) ?_
   refine .done ⟨by kernel_rfl, fun a16 g W16 y16 zz16 hk hg hV hR hP => ?_⟩
   obtain ⟨e18, -, -⟩ := hV
   replace e0 := (hR 0 rfl).trans e0
   replace e7 := (hR 7 rfl).trans e7
   replace e8 := (hR 8 rfl).trans e8
   have e18 : sl a16 18 = (.bool (!(hexB (s[k]'hlt).toNat))) := e18
   replace kw := kw.x hk
   clear hR hk hg hP
   refine tail_nil (hK15 _ _ ?_)
   refine wp_cond_split e18 (fun hc => ?_) (fun hc => ?_)
   ·
    have hfin : hexIs s = false := hexIs_false hlt (by simpa using hc)
    refine wp_seq_k fun K17 hK17 => ?_
    refine rg mixed y16 zz16 ?_
    refine .i (sp_assign Has.cst) ?_
    refine .done ⟨by kernel_rfl, fun a18 g W18 y18 zz18 hk hg hV hR hP => ?_⟩
    obtain ⟨e2, -⟩ := hV
    have e2 : sl a18 2 = (.bool (false)) := e2
    replace kw := kw.x hk
    clear hR hk hg hP
    refine tail_nil (hK17 _ _ ?_)
    refine wp_ret ?_
    refine (show bodyPost Try.prog Try.f135 _ .ret _ _ from ret1 rfl zz18 e2 ⟨_, rfl, kw, ?_⟩)
    rw [hfin]
   ·
    have hk1 : hexB (s[k]'hlt).toNat = true := by simpa using hc
    refine wp_skip (hK10 _ _ ?_)
    refine rg mixed y16 zz16 ?_
    refine .i (sp_add (hbs rfl e8) Has.cst (i64_in (by omega))) ?_
    refine .i (sp_move (hlc rfl)) ?_
    refine .done ⟨by kernel_rfl, fun a19 g W19 y19 zz19 hk hg hV hR hP => ?_⟩
    obtain ⟨e8, -, -⟩ := hV
    replace e0 := (hR 0 rfl).trans e0
    replace e7 := (hR 7 rfl).trans e7
    replace e8 := e8.q
    replace kw := kw.x hk
    clear hR hk hg hP
    exact tail_nil ⟨hlt, y19, zz19, kw, e0, e7, (e8.trans (congrArg (Value.int .i64) (by simp))), fun i h hi => by rcases Nat.lt_succ_iff_lt_or_eq.1 hi with h1 | h1; exact hinv i h h1; subst h1; exact hk1⟩
  ·
   have hge0 : ¬ k < s.size := by simpa using hc
   have hge : k = s.size := by omega
   have hfin : hexIs s = true := (hexIs_iff s).2 fun i h => hinv i h (by omega)
   refine wp_exit (hK3 _ _ ?_)
   refine wp_seq_k fun K20 hK20 => ?_
   refine rg mixed y8 zz8 ?_
   refine .i (sp_assign Has.cst) ?_
   refine .done ⟨by kernel_rfl, fun a21 g W21 y21 zz21 hk hg hV hR hP => ?_⟩
   obtain ⟨e2, -⟩ := hV
   have e2 : sl a21 2 = (.bool (true)) := e2
   replace kw := kw.x hk
   clear hR hk hg hP
   refine tail_nil (hK20 _ _ ?_)
   refine wp_ret ?_
   refine (show bodyPost Try.prog Try.f135 _ .ret _ _ from ret1 rfl zz21 e2 ⟨_, rfl, kw, ?_⟩)
   rw [hfin]

set_option maxRecDepth 100000 in
theorem wrong_ok (ns : List ByteArray) (w : World) (S : BSet) (v : Value) (hv : Rd w S (strsD ns) v) : Calls Try.prog 77 #[v] w (Ret w fun u _ => u = .int .i64 (wrongE [] ns)) := by
  have hmn : ns.length ≤ maxLen := rd_lenS hv
  simp only [maxLen] at hmn
  obtain ⟨va, vc, ev, D_v⟩ := rdS_out (rd_arg hv)
  subst ev
  refine enter Try.func77 rfl Try.ntmps77 (lbr rfl) fun a0 y0 zz0 harg => ?_
  have e0 : sl a0 0 = (.slice va (ns.length) vc) := harg 0 (lbr rfl)
  have kw := Keeps.refl All w
  clear harg
  refine wp_seq_k fun K1 hK1 => ?_
  refine rg mixed y0 zz0 ?_
  refine .i (sp_assign Has.cst) ?_
  refine .done ⟨by kernel_rfl, fun a2 g W2 y2 zz2 hk hg hV hR hP => ?_⟩
  obtain ⟨-, -⟩ := hV
  replace e0 := (hR 0 rfl).trans e0
  replace D_v := D_v.ext hk
  replace kw := kw.x hk
  clear hR hk hg hP
  refine tail_nil (hK1 _ _ ?_)
  refine wp_seq_k fun K3 hK3 => ?_
  refine rg mixed y2 zz2 ?_
  refine .mkMap ?_
  refine .done ⟨by kernel_rfl, fun a4 g W4 y4 zz4 hk hg hV hR hP => ?_⟩
  obtain ⟨⟨b6_4, e6, hb6, own_b6_4⟩, -⟩ := hV
  have lo_b6_4 : w.heap.size ≤ b6_4 := Nat.le_trans kw.size (hg.lo _ _ hb6)
  have own_b6_4 : OwnM W4 b6_4 ([]) := own_b6_4
  replace e0 := (hR 0 rfl).trans e0
  replace D_v := sa_more D_v hk [b6_4] (in_cons (hg.lo _ _ hb6) in_nil)
  replace kw := kw.x hk
  clear hR hk hg hP hb6
  refine tail_assign (v := (.map (some b6_4))) e6 (by rw [y4]; exact Nat.le_of_ble_eq_true rfl) (fun a5 y5 zz5 e3 hr => ?_)
  replace y5 := y5.trans y4; replace zz5 := zz5.trans zz4
  replace e0 := (hr 0 (by decide)).trans e0
  replace e6 := (hr 6 (by decide)).trans e6
  clear hr
  refine tail_nil (hK3 _ _ ?_)
  refine wp_seq_k fun K6 hK6 => ?_
  refine wp_seq_k fun K7 hK7 => ?_
  refine rg mixed y5 zz5 ?_
  refine .i (sp_move (hbs rfl e0)) ?_
  refine .i (sp_lenSs Try.underlying23 ((hlc rfl).dat D_v sub_all)) ?_
  refine .i (sp_move Has.cst) ?_
  refine .done ⟨by kernel_rfl, fun a8 g W8 y8 zz8 hk hg hV hR hP => ?_⟩
  obtain ⟨e9, e8, e7, -⟩ := hV
  replace e3 := (hR 3 rfl).trans e3
  replace D_v := D_v.ext hk
  have e7 : sl a8 7 = (.slice va (ns.length) vc) := e7
  have e8 : sl a8 8 = (.int .i64 (ns.length)) := e8
  have e9 : sl a8 9 = (.int .i64 (0)) := e9
  replace own_b6_4 := own_b6_4.ext hk
  replace kw := kw.x hk
  clear hR hk hg hP
  refine tail_nil (hK7 _ _ ?_)
  refine wp_block ?_
  rw [show [] = ones (ns.take 0) by rfl] at own_b6_4
  refine wp_for (ns.length) (fun k a W => a.tmps.size = 30 ∧ a.defers = [] ∧ Keeps All w W ∧ sl a 3 = (.map (some b6_4)) ∧ sl a 7 = (.slice va (ns.length) vc) ∧ sl a 8 = (.int .i64 (ns.length)) ∧ sl a 9 = (.int .i64 ((k : Nat))) ∧ OwnM W b6_4 (ones (ns.take k)) ∧ Rd W (SA w S [b6_4]) (strsD (ns)) (.slice va (ns.length) vc) ∧ (wrongE [] ns = wrongE (ns.take k) (ns.drop k))) ⟨y8, zz8, kw, e3, e7, e8, (e9.trans (congrArg (Value.int .i64) (rfl))), own_b6_4, D_v, rfl⟩ ?_
  clear kw e3 e7 e8 e9 own_b6_4 D_v
  rintro k a9 W9 hkk ⟨y9, zz9, kw, e3, e7, e8, e9, own_b6_4, D_v, hin⟩
  refine wp_seq_k fun K10 hK10 => ?_
  refine rg mixed y9 zz9 ?_
  refine .i (sp_lss (hbs rfl e9) (hbs rfl e8)) ?_
  refine .done ⟨by kernel_rfl, fun a11 g W11 y11 zz11 hk hg hV hR hP => ?_⟩
  obtain ⟨e10, -⟩ := hV
  replace e3 := (hR 3 rfl).trans e3
  replace e7 := (hR 7 rfl).trans e7
  replace e8 := (hR 8 rfl).trans e8
  replace e9 := (hR 9 rfl).trans e9
  replace D_v := D_v.ext hk
  replace e10 := e10.q
  replace own_b6_4 := own_b6_4.ext hk
  replace kw := kw.x hk
  clear hR hk hg hP
  refine tail_nil (hK10 _ _ ?_)
  refine wp_seq_k fun K12 hK12 => ?_
  refine wp_cond_split e10 (fun hc => ?_) (fun hc => ?_)
  ·
   have hlt : k < ns.length := by simpa using hc
   rw [List.drop_eq_getElem_cons hlt, wrongE] at hin
   refine wp_skip (hK12 _ _ ?_)
   refine wp_seq_k fun K13 hK13 => ?_
   refine wp_block ?_
   refine wp_seq_k fun K14 hK14 => ?_
   refine rg mixed y11 zz11 ?_
   refine .rf (sp_indexS (i := k) ((hbs rfl e7).dat D_v sub_all) (hbs rfl e9) Try.underlying23 sz9 rfl hlt) ?_
   refine .i (sp_loadStr (hlc rfl) agg9 sz9) ?_
   refine .i (sp_assign (hlc rfl)) ?_
   refine .done ⟨by kernel_rfl, fun a15 g W15 y15 zz15 hk hg hV hR hP => ?_⟩
   obtain ⟨e5, -, -, -⟩ := hV
   replace e3 := (hR 3 rfl).trans e3
   replace e7 := (hR 7 rfl).trans e7
   replace e8 := (hR 8 rfl).trans e8
   replace e9 := (hR 9 rfl).trans e9
   replace D_v := D_v.ext hk
   have e5 : sl a15 5 = (.string (ns[k]'hlt)) := e5
   replace own_b6_4 := own_b6_4.ext hk
   replace kw := kw.x hk
   clear hR hk hg hP
   refine tail_nil (hK14 _ _ ?_)
   refine wp_seq_k fun K16 hK16 => ?_
   refine wp_seq_k fun K17 hK17 => ?_
   refine rg mixed y15 zz15 ?_
   refine .i (sp_move (hbs rfl e5)) ?_
   refine .i (sp_lenS Try.underlying9 (hlc rfl)) ?_
   refine .i (sp_neq (hlc rfl) Has.cst) ?_
   refine .i (sp_move (hlc rfl)) ?_
   refine .e (t := 16) rfl (hlc rfl) (fun hg => sp_move (hbs rfl e5)) ?_
   refine .e (t := 16) (v := (.bool (hexIs (ns[k]'hlt)))) rfl (hlc rfl) (fun hg => sp_call1 (φ1 := Is (.string (ns[k]'hlt))) ent135 ((hlc rfl).undE hg) (fun g u1 W hk hgk h1 => by have h1 : u1 = _ := h1; subst u1; exact hexIs_ok (ns[k]'hlt) (rd_strAt D_v k hlt) W)) ?_
   refine .e (t := 16) rfl (hlc rfl) (fun hg => sp_not ((hlc rfl).undE hg)) ?_
   refine .i (sp_or (hlc rfl) ((hlc rfl).weak fun hq => hq)) ?_
   refine .done ⟨by kernel_rfl, fun a18 g W18 y18 zz18 hk hg hV hR hP => ?_⟩
   obtain ⟨e20, -, -, -, -, -, -, -, -⟩ := hV
   replace e3 := (hR 3 rfl).trans e3
   replace e7 := (hR 7 rfl).trans e7
   replace e8 := (hR 8 rfl).trans e8
   replace e9 := (hR 9 rfl).trans e9
   replace e5 := (hR 5 rfl).trans e5
   replace D_v := D_v.ext hk
   replace e20 := e20.q
   replace own_b6_4 := own_b6_4.ext hk
   replace kw := kw.x hk
   clear hR hk hg hP
   refine tail_nil (hK17 _ _ ?_)
   refine wp_cond_split e20 (fun hc => ?_) (fun hc => ?_)
   ·
    have hd : digB ns[k] = false := by rcases (Bool.or_eq_true _ _).mp hc with h | h; simp at h; simp [digB]; omega; simp [digB]; simp at h; simp [h]
    have hfin : wrongE [] ns = 3 := by rw [hin, if_pos hd]
    refine wp_seq_k fun K19 hK19 => ?_
    refine rg mixed y18 zz18 ?_
    refine .i (sp_assign Has.cst) ?_
    refine .done ⟨by kernel_rfl, fun a20 g W20 y20 zz20 hk hg hV hR hP => ?_⟩
    obtain ⟨e2, -⟩ := hV
    replace D_v := D_v.ext hk
    have e2 : sl a20 2 = (.int .i64 (3)) := e2
    replace own_b6_4 := own_b6_4.ext hk
    replace kw := kw.x hk
    clear hR hk hg hP
    refine tail_nil (hK19 _ _ ?_)
    refine wp_ret ?_
    refine (show bodyPost Try.prog Try.f77 _ .ret _ _ from ret1 rfl zz20 e2 ⟨_, rfl, kw, ?_⟩)
    rw [hfin]
   ·
    have hd : ¬ digB ns[k] = false := by have h1 := (Bool.or_eq_false_iff.1 hc).1; have h2 := (Bool.or_eq_false_iff.1 hc).2; simp at h1 h2; simp [digB, h2]; omega
    rw [if_neg hd] at hin
    refine wp_skip (hK16 _ _ ?_)
    refine wp_seq_k fun K21 hK21 => ?_
    refine wp_seq_k fun K22 hK22 => ?_
    refine rg mixed y18 zz18 ?_
    refine .i (sp_move (hbs rfl e3)) ?_
    refine .i (sp_move (hbs rfl e5)) ?_
    refine .i (sp_lookup Try.underlying72 Try.underlying9 z3 (hlc rfl) (hlc rfl) own_b6_4 trivial) ?_
    refine .i (sp_gtr (hlc rfl) Has.cst) ?_
    refine .done ⟨by kernel_rfl, fun a23 g W23 y23 zz23 hk hg hV hR hP => ?_⟩
    obtain ⟨e24, -, -, -, -⟩ := hV
    replace e3 := (hR 3 rfl).trans e3
    replace e7 := (hR 7 rfl).trans e7
    replace e8 := (hR 8 rfl).trans e8
    replace e9 := (hR 9 rfl).trans e9
    replace e5 := (hR 5 rfl).trans e5
    replace D_v := D_v.ext hk
    replace e24 := e24.q
    replace own_b6_4 := own_b6_4.ext hk
    replace kw := kw.x hk
    clear hR hk hg hP
    refine tail_nil (hK22 _ _ ?_)
    refine wp_cond_split e24 (fun hc => ?_) (fun hc => ?_)
    ·
     have hm : memB ns[k] (ns.take k) = true := by have h := of_decide_eq_true hc; rw [mget_ones] at h; split at h; assumption; omega
     have hfin : wrongE [] ns = 7 := by rw [hin, if_pos hm]
     refine wp_seq_k fun K24 hK24 => ?_
     refine rg mixed y23 zz23 ?_
     refine .i (sp_assign Has.cst) ?_
     refine .done ⟨by kernel_rfl, fun a25 g W25 y25 zz25 hk hg hV hR hP => ?_⟩
     obtain ⟨e2, -⟩ := hV
     replace D_v := D_v.ext hk
     have e2 : sl a25 2 = (.int .i64 (7)) := e2
     replace own_b6_4 := own_b6_4.ext hk
     replace kw := kw.x hk
     clear hR hk hg hP
     refine tail_nil (hK24 _ _ ?_)
     refine wp_ret ?_
     refine (show bodyPost Try.prog Try.f77 _ .ret _ _ from ret1 rfl zz25 e2 ⟨_, rfl, kw, ?_⟩)
     rw [hfin]
    ·
     have hm : memB ns[k] (ns.take k) = false := by have h := of_decide_eq_false hc; rw [mget_ones] at h; cases hq : memB ns[k] (ns.take k) with | false => rfl | true => rw [if_pos hq] at h; omega
     rw [if_neg (by rw [hm]; simp)] at hin
     have hmg : mget (ones (ns.take k)) ns[k] = 0 := by rw [mget_ones, if_neg (by rw [hm]; simp)]
     have hms := mset_ones hm
     refine wp_skip (hK21 _ _ ?_)
     refine rg mixed y23 zz23 ?_
     refine .i (sp_move (hbs rfl e3)) ?_
     refine .i (sp_move (hbs rfl e5)) ?_
     refine .i (sp_lookup Try.underlying72 Try.underlying9 z3 (hlc rfl) (hlc rfl) own_b6_4 trivial) ?_
     refine .i (sp_add (hlc rfl) Has.cst (i64_in (by omega))) ?_
     refine .done ⟨by kernel_rfl, fun a26 g W26 y26 zz26 hk hg hV hR hP => ?_⟩
     obtain ⟨e28, -, e26, e25, -⟩ := hV
     replace e3 := (hR 3 rfl).trans e3
     replace e7 := (hR 7 rfl).trans e7
     replace e8 := (hR 8 rfl).trans e8
     replace e9 := (hR 9 rfl).trans e9
     replace D_v := D_v.ext hk
     have e25 : sl a26 25 = (.map (some b6_4)) := e25
     have e26 : sl a26 26 = (.string (ns[k]'hlt)) := e26
     replace e28 := e28.q
     replace own_b6_4 := own_b6_4.ext hk
     replace kw := kw.x hk
     clear hR hk hg hP
     refine tail_updM Try.underlying72 Try.underlying9 e25 e26 e28 own_b6_4 (fun W27 hs own_b6_4 => ?_)
     have own_b6_4 : OwnM W27 b6_4 (mset (ones (ns.take k)) (ns[k]'hlt) ((mget (ones (ns.take k)) (ns[k]'hlt) : Int) + (1 : Int))) := own_b6_4
     replace D_v := sa_store D_v hs (by simp)
     replace kw := keeps_store kw hs lo_b6_4
     clear hs
     refine tail_nil (hK13 _ _ ?_)
     refine rg mixed y26 zz26 ?_
     refine .i (sp_add (hbs rfl e9) Has.cst (i64_in (by omega))) ?_
     refine .i (sp_move (hlc rfl)) ?_
     refine .done ⟨by kernel_rfl, fun a28 g W28 y28 zz28 hk hg hV hR hP => ?_⟩
     obtain ⟨e9, -, -⟩ := hV
     replace e3 := (hR 3 rfl).trans e3
     replace e7 := (hR 7 rfl).trans e7
     replace e8 := (hR 8 rfl).trans e8
     replace D_v := D_v.ext hk
     replace e9 := e9.q
     replace own_b6_4 := own_b6_4.ext hk
     replace kw := kw.x hk
     clear hR hk hg hP
     rw [show mset (ones (ns.take k)) (ns[k]'hlt) ((mget (ones (ns.take k)) (ns[k]'hlt) : Int) + (1 : Int)) = ones (ns.take (k + 1)) by rw [hmg, List.take_succ_eq_append_getElem hlt]; exact hms] at own_b6_4
     exact tail_nil ⟨hlt, y28, zz28, kw, e3, e7, e8, (e9.trans (congrArg (Value.int .i64) (by simp))), own_b6_4, D_v, (by rw [List.take_succ_eq_append_getElem hlt]; exact hin)⟩
  ·
   have hge0 : ¬ k < ns.length := by simpa using hc
   have hge : k = ns.length := by omega
   have hfin : wrongE [] ns = 0 := by rw [hin, hge, List.drop_length]; rfl
   refine wp_exit (hK6 _ _ ?_)
   refine wp_seq_k fun K29 hK29 => ?_
   refine rg mixed y11 zz11 ?_
   refine .i (sp_assign Has.cst) ?_
   refine .done ⟨by kernel_rfl, fun a30 g W30 y30 zz30 hk hg hV hR hP => ?_⟩
   obtain ⟨e2, -⟩ := hV
   replace D_v := D_v.ext hk
   have e2 : sl a30 2 = (.int .i64 (0)) := e2
   replace own_b6_4 := own_b6_4.ext hk
   replace kw := kw.x hk
   clear hR hk hg hP
   refine tail_nil (hK29 _ _ ?_)
   refine wp_ret ?_
   refine (show bodyPost Try.prog Try.f77 _ .ret _ _ from ret1 rfl zz30 e2 ⟨_, rfl, kw, ?_⟩)
   rw [hfin]

set_option maxRecDepth 100000 in
theorem mayA_ok (au : Au) (w : World) (S : BSet) (v : Value) (hv : Rd w S au.d v) : Calls Try.prog 18 #[v] w (Ret w fun u _ => u = .bool (mayA au)) := by
  obtain ⟨p0_1a, p0_1c, ev, D_p0_1⟩ := rdAu_out (rd_arg hv)
  subst ev
  refine enter Try.func18 rfl Try.ntmps18 (lbr rfl) fun a0 y0 zz0 harg => ?_
  have e0 : sl a0 0 = (.agg #[(.int .i64 (au.th)), (.slice p0_1a (au.ids.length) p0_1c)]) := harg 0 (lbr rfl)
  have kw := Keeps.refl All w
  clear harg
  refine wp_seq_k fun K1 hK1 => ?_
  refine rg mixed y0 zz0 ?_
  refine .boxOp (v := (.agg #[(.int .i64 (au.th)), (.slice p0_1a (au.ids.length) p0_1c)])) (hbs rfl e0) ?_
  refine .i (sp_assign Has.cst) ?_
  refine .done ⟨by kernel_rfl, fun a2 g W2 y2 zz2 hk hg hV hR hP => ?_⟩
  obtain ⟨-, ⟨b1_2, e1, hb1, own_b1_2⟩, -⟩ := hV
  have lo_b1_2 : w.heap.size ≤ b1_2 := Nat.le_trans kw.size (hg.lo _ _ hb1)
  have own_b1_2 : Own W2 b1_2 [(.int .i64 (au.th)), (.slice p0_1a (au.ids.length) p0_1c)] 27 := own_b1_2
  replace D_p0_1 := sa_more D_p0_1 hk [b1_2] (in_cons (hg.lo _ _ hb1) in_nil)
  replace kw := kw.x hk
  clear hR hk hg hP hb1
  refine tail_nil (hK1 _ _ ?_)
  refine wp_seq_k fun K3 hK3 => ?_
  refine rg mixed y2 zz2 ?_
  refine .i (fo 1 (hbs rfl e1) Try.underlying27 rfl sz23 rfl) ?_
  refine .i (lo1 (hlc rfl) own_b1_2 trivial agg23 sz23 rfl) ?_
  refine .i (sp_lenSs Try.underlying23 ((hlc rfl).dat D_p0_1 sub_all)) ?_
  refine .i (sp_assign (hlc rfl)) ?_
  refine .done ⟨by kernel_rfl, fun a4 g W4 y4 zz4 hk hg hV hR hP => ?_⟩
  obtain ⟨e3, -, -, -, -⟩ := hV
  replace e1 := (hR 1 rfl).trans e1
  replace D_p0_1 := D_p0_1.ext hk
  have e3 : sl a4 3 = (.int .i64 (au.ids.length)) := e3
  replace own_b1_2 := own_b1_2.ext hk
  replace kw := kw.x hk
  clear hR hk hg hP
  refine tail_nil (hK3 _ _ ?_)
  refine wp_seq_k fun K5 hK5 => ?_
  refine wp_seq_k fun K6 hK6 => ?_
  refine rg mixed y4 zz4 ?_
  refine .i (sp_move (hbs rfl e3)) ?_
  refine .i (sp_lss (hlc rfl) Has.cst) ?_
  refine .i (sp_move (hlc rfl)) ?_
  refine .e (t := 9) rfl (hlc rfl) (fun hg => sp_move (hbs rfl e3)) ?_
  refine .e (t := 9) rfl (hlc rfl) (fun hg => sp_gtr ((hlc rfl).undE hg) Has.cst) ?_
  refine .i (sp_or (hlc rfl) ((hlc rfl).weak fun hq => hq)) ?_
  refine .i (sp_move (hlc rfl)) ?_
  refine .e (t := 13) rfl (hlc rfl) (fun hg => fo 0 (hbs rfl e1) Try.underlying27 rfl sz3 rfl) ?_
  refine .e (t := 13) rfl (hlc rfl) (fun hg => lo1 ((hlc rfl).undE hg) own_b1_2 trivial agg3 sz3 rfl) ?_
  refine .e (t := 13) rfl (hlc rfl) (fun hg => sp_lss ((hlc rfl).undE hg) Has.cst) ?_
  refine .i (sp_or (hlc rfl) ((hlc rfl).weak fun hq => hq)) ?_
  refine .i (sp_move (hlc rfl)) ?_
  refine .e (t := 18) rfl (hlc rfl) (fun hg => fo 0 (hbs rfl e1) Try.underlying27 rfl sz3 rfl) ?_
  refine .e (t := 18) rfl (hlc rfl) (fun hg => lo1 ((hlc rfl).undE hg) own_b1_2 trivial agg3 sz3 rfl) ?_
  refine .e (t := 18) rfl (hlc rfl) (fun hg => sp_move (hbs rfl e3)) ?_
  refine .e (t := 18) rfl (hlc rfl) (fun hg => sp_gtr ((hlc rfl).undE hg) ((hlc rfl).undE hg)) ?_
  refine .i (sp_or (hlc rfl) ((hlc rfl).weak fun hq => hq)) ?_
  refine .done ⟨by kernel_rfl, fun a7 g W7 y7 zz7 hk hg hV hR hP => ?_⟩
  obtain ⟨e23, -, -, -, -, -, -, -, -, -, -, -, -, -, -, -, -, -⟩ := hV
  replace e1 := (hR 1 rfl).trans e1
  replace D_p0_1 := D_p0_1.ext hk
  replace e23 := e23.q
  replace own_b1_2 := own_b1_2.ext hk
  replace kw := kw.x hk
  clear hR hk hg hP
  refine tail_nil (hK6 _ _ ?_)
  refine wp_cond_split e23 (fun hc => ?_) (fun hc => ?_)
  ·
   have hfin : mayA au = false := by rw [mayA, if_pos]; simp at hc; omega
   refine wp_seq_k fun K8 hK8 => ?_
   refine rg mixed y7 zz7 ?_
   refine .i (sp_assign Has.cst) ?_
   refine .done ⟨by kernel_rfl, fun a9 g W9 y9 zz9 hk hg hV hR hP => ?_⟩
   obtain ⟨e2, -⟩ := hV
   replace D_p0_1 := D_p0_1.ext hk
   have e2 : sl a9 2 = (.bool (false)) := e2
   replace own_b1_2 := own_b1_2.ext hk
   replace kw := kw.x hk
   clear hR hk hg hP
   refine tail_nil (hK8 _ _ ?_)
   refine wp_ret ?_
   refine (show bodyPost Try.prog Try.f18 _ .ret _ _ from ret1 rfl zz9 e2 ⟨_, rfl, kw, ?_⟩)
   rw [hfin]
  ·
   have hfin : mayA au = decide (wrongE [] au.ids = 0) := by rw [mayA, if_neg]; simp at hc; omega
   refine wp_skip (hK5 _ _ ?_)
   refine wp_seq_k fun K10 hK10 => ?_
   refine rg mixed y7 zz7 ?_
   refine .i (fo 1 (hbs rfl e1) Try.underlying27 rfl sz23 rfl) ?_
   refine .i (lo1 (hlc rfl) own_b1_2 trivial agg23 sz23 rfl) ?_
   refine .i (v := (.int .i64 (wrongE [] au.ids))) (sp_call1 (φ1 := IsD (SA w S [b1_2]) (strsD (au.ids))) ent77 ((hlc rfl).dat D_p0_1 sub_all) (fun g u1 W hk hgk h1 => wrong_ok (au.ids) W _ _ h1)) ?_
   refine .i (sp_eql (hlc rfl) Has.cst) ?_
   refine .i (sp_assign (hlc rfl)) ?_
   refine .done ⟨by kernel_rfl, fun a11 g W11 y11 zz11 hk hg hV hR hP => ?_⟩
   obtain ⟨e2, -, -, -, -, -⟩ := hV
   replace D_p0_1 := D_p0_1.ext hk
   replace e2 := e2.q
   replace own_b1_2 := own_b1_2.ext hk
   replace kw := kw.x hk
   clear hR hk hg hP
   refine tail_nil (hK10 _ _ ?_)
   refine wp_ret ?_
   refine (show bodyPost Try.prog Try.f18 _ .ret _ _ from ret1 rfl zz11 e2 ⟨_, rfl, kw, ?_⟩)
   rw [hfin]
   exact congrArg Value.bool (by rw [Bool.eq_iff_iff]; simp)

set_option maxRecDepth 100000 in
theorem contains_ok (ns : List ByteArray) (name : ByteArray) (w : World) (S : BSet) (v : Value) (hv : Rd w S (strsD ns) v) : Calls Try.prog 80 #[v, .string name] w (Ret w fun u _ => u = .bool (memB name ns)) := by
  obtain ⟨va, vc, ev, D_v⟩ := rdS_out (rd_arg hv)
  subst ev
  refine enter Try.func80 rfl Try.ntmps80 (lbr rfl) fun a0 y0 zz0 harg => ?_
  have e0 : sl a0 0 = (.slice va (ns.length) vc) := harg 0 (lbr rfl)
  have e1 : sl a0 1 = (.string (name)) := harg 1 (lbr rfl)
  have kw := Keeps.refl All w
  clear harg
  refine wp_seq_k fun K1 hK1 => ?_
  refine rg mixed y0 zz0 ?_
  refine .i (sp_assign Has.cst) ?_
  refine .done ⟨by kernel_rfl, fun a2 g W2 y2 zz2 hk hg hV hR hP => ?_⟩
  obtain ⟨-, -⟩ := hV
  replace e0 := (hR 0 rfl).trans e0
  replace e1 := (hR 1 rfl).trans e1
  replace D_v := D_v.ext hk
  replace kw := kw.x hk
  clear hR hk hg hP
  refine tail_nil (hK1 _ _ ?_)
  refine wp_seq_k fun K3 hK3 => ?_
  refine rg mixed y2 zz2 ?_
  refine .i (sp_move (hbs rfl e0)) ?_
  refine .i (sp_move (hbs rfl e1)) ?_
  refine .i (v := (.int .i64 (idx name ns 0))) (sp_call2 (φ1 := IsD (SA w S []) (strsD (ns))) (φ2 := Is (.string (name))) ent139 ((hlc rfl).dat D_v sub_all) (hlc rfl) (fun g u1 u2 W hk hgk h1 h2 => by have h2 : u2 = _ := h2; subst u2; exact index_ok (ns) (name) W _ _ h1)) ?_
  refine .i (sp_geq (hlc rfl) Has.cst) ?_
  refine .i (sp_assign (hlc rfl)) ?_
  refine .done ⟨by kernel_rfl, fun a4 g W4 y4 zz4 hk hg hV hR hP => ?_⟩
  obtain ⟨e4, -, -, -, -, -⟩ := hV
  replace D_v := D_v.ext hk
  replace e4 := e4.q
  replace kw := kw.x hk
  clear hR hk hg hP
  refine tail_nil (hK3 _ _ ?_)
  refine wp_ret ?_
  refine (show bodyPost Try.prog Try.f80 _ .ret _ _ from ret1 rfl zz4 e4 ⟨_, rfl, kw, ?_⟩)
  rw [idx_mem]

set_option maxRecDepth 100000 in
theorem hasA_ok (au : Au) (name : ByteArray) (w : World) (S : BSet) (v : Value) (hv : Rd w S au.d v) : Calls Try.prog 25 #[v, .string name] w (Ret w fun u _ => u = .bool (hasA au name)) := by
  obtain ⟨p0_1a, p0_1c, ev, D_p0_1⟩ := rdAu_out (rd_arg hv)
  subst ev
  refine enter Try.func25 rfl Try.ntmps25 (lbr rfl) fun a0 y0 zz0 harg => ?_
  have e0 : sl a0 0 = (.agg #[(.int .i64 (au.th)), (.slice p0_1a (au.ids.length) p0_1c)]) := harg 0 (lbr rfl)
  have e1 : sl a0 1 = (.string (name)) := harg 1 (lbr rfl)
  have kw := Keeps.refl All w
  clear harg
  refine wp_seq_k fun K1 hK1 => ?_
  refine rg mixed y0 zz0 ?_
  refine .boxOp (v := (.agg #[(.int .i64 (au.th)), (.slice p0_1a (au.ids.length) p0_1c)])) (hbs rfl e0) ?_
  refine .i (sp_assign Has.cst) ?_
  refine .done ⟨by kernel_rfl, fun a2 g W2 y2 zz2 hk hg hV hR hP => ?_⟩
  obtain ⟨-, ⟨b2_2, e2, hb2, own_b2_2⟩, -⟩ := hV
  have lo_b2_2 : w.heap.size ≤ b2_2 := Nat.le_trans kw.size (hg.lo _ _ hb2)
  have own_b2_2 : Own W2 b2_2 [(.int .i64 (au.th)), (.slice p0_1a (au.ids.length) p0_1c)] 27 := own_b2_2
  replace e1 := (hR 1 rfl).trans e1
  replace D_p0_1 := sa_more D_p0_1 hk [b2_2] (in_cons (hg.lo _ _ hb2) in_nil)
  replace kw := kw.x hk
  clear hR hk hg hP hb2
  refine tail_nil (hK1 _ _ ?_)
  refine wp_seq_k fun K3 hK3 => ?_
  refine rg mixed y2 zz2 ?_
  refine .i (fo 1 (hbs rfl e2) Try.underlying27 rfl sz23 rfl) ?_
  refine .i (lo1 (hlc rfl) own_b2_2 trivial agg23 sz23 rfl) ?_
  refine .i (sp_move (hbs rfl e1)) ?_
  refine .i (v := (.bool (memB name au.ids))) (sp_call2 (φ1 := IsD (SA w S [b2_2]) (strsD (au.ids))) (φ2 := Is (.string (name))) ent80 ((hlc rfl).dat D_p0_1 sub_all) (hlc rfl) (fun g u1 u2 W hk hgk h1 h2 => by have h2 : u2 = _ := h2; subst u2; exact contains_ok (au.ids) (name) W _ _ h1)) ?_
  refine .i (sp_assign (hlc rfl)) ?_
  refine .done ⟨by kernel_rfl, fun a4 g W4 y4 zz4 hk hg hV hR hP => ?_⟩
  obtain ⟨e4, -, -, -, -, -⟩ := hV
  replace D_p0_1 := D_p0_1.ext hk
  have e4 : sl a4 4 = (.bool (memB name au.ids)) := e4
  replace own_b2_2 := own_b2_2.ext hk
  replace kw := kw.x hk
  clear hR hk hg hP
  refine tail_nil (hK3 _ _ ?_)
  refine wp_ret ?_
  refine (show bodyPost Try.prog Try.f25 _ .ret _ _ from ret1 rfl zz4 e4 ⟨_, rfl, kw, ?_⟩)
  exact rfl

set_option maxRecDepth 100000 in
theorem refSameA_ok (au bu : Au) (w : World) (S : BSet) (v u : Value) (hv : Rd w S au.d v) (hu : Rd w S bu.d u) : Calls Try.prog 20 #[v, u] w (Ret w fun u _ => u = .bool (sameA au bu)) := by
  obtain ⟨p0_1a, p0_1c, ev, D_p0_1⟩ := rdAu_out (rd_arg hv)
  subst ev
  obtain ⟨p1_1a, p1_1c, ev, D_p1_1⟩ := rdAu_out (rd_arg hu)
  subst ev
  refine enter Try.func20 rfl Try.ntmps20 (lbr rfl) fun a0 y0 zz0 harg => ?_
  have e0 : sl a0 0 = (.agg #[(.int .i64 (au.th)), (.slice p0_1a (au.ids.length) p0_1c)]) := harg 0 (lbr rfl)
  have e1 : sl a0 1 = (.agg #[(.int .i64 (bu.th)), (.slice p1_1a (bu.ids.length) p1_1c)]) := harg 1 (lbr rfl)
  have kw := Keeps.refl All w
  clear harg
  refine wp_seq_k fun K1 hK1 => ?_
  refine rg mixed y0 zz0 ?_
  refine .boxOp (v := (.agg #[(.int .i64 (au.th)), (.slice p0_1a (au.ids.length) p0_1c)])) (hbs rfl e0) ?_
  refine .boxOp (v := (.agg #[(.int .i64 (bu.th)), (.slice p1_1a (bu.ids.length) p1_1c)])) (hbs rfl e1) ?_
  refine .i (sp_assign Has.cst) ?_
  refine .done ⟨by kernel_rfl, fun a2 g W2 y2 zz2 hk hg hV hR hP => ?_⟩
  obtain ⟨-, ⟨b3_2, e3, hb3, own_b3_2⟩, ⟨b2_2, e2, hb2, own_b2_2⟩, -⟩ := hV
  have lo_b3_2 : w.heap.size ≤ b3_2 := Nat.le_trans kw.size (hg.lo _ _ hb3)
  have own_b3_2 : Own W2 b3_2 [(.int .i64 (bu.th)), (.slice p1_1a (bu.ids.length) p1_1c)] 27 := own_b3_2
  have lo_b2_2 : w.heap.size ≤ b2_2 := Nat.le_trans kw.size (hg.lo _ _ hb2)
  have own_b2_2 : Own W2 b2_2 [(.int .i64 (au.th)), (.slice p0_1a (au.ids.length) p0_1c)] 27 := own_b2_2
  have ne_b3_2_b2_2 : b3_2 ≠ b2_2 := fun h => by have := hg.inj _ _ _ hb3 (h ▸ hb2); cases this
  replace D_p0_1 := sa_more D_p0_1 hk [b3_2, b2_2] (in_cons (hg.lo _ _ hb3) (in_cons (hg.lo _ _ hb2) in_nil))
  replace D_p1_1 := sa_more D_p1_1 hk [b3_2, b2_2] (in_cons (hg.lo _ _ hb3) (in_cons (hg.lo _ _ hb2) in_nil))
  replace kw := kw.x hk
  clear hR hk hg hP hb3 hb2
  refine tail_nil (hK1 _ _ ?_)
  refine wp_seq_k fun K3 hK3 => ?_
  refine wp_seq_k fun K4 hK4 => ?_
  refine rg mixed y2 zz2 ?_
  refine .i (fo 0 (hbs rfl e2) Try.underlying27 rfl sz3 rfl) ?_
  refine .i (lo1 (hlc rfl) own_b2_2 trivial agg3 sz3 rfl) ?_
  refine .i (fo 0 (hbs rfl e3) Try.underlying27 rfl sz3 rfl) ?_
  refine .i (lo1 (hlc rfl) own_b3_2 trivial agg3 sz3 rfl) ?_
  refine .i (sp_neq (hlc rfl) (hlc rfl)) ?_
  refine .i (sp_move (hlc rfl)) ?_
  refine .e (t := 11) rfl (hlc rfl) (fun hg => fo 1 (hbs rfl e2) Try.underlying27 rfl sz23 rfl) ?_
  refine .e (t := 11) rfl (hlc rfl) (fun hg => lo1 ((hlc rfl).undE hg) own_b2_2 trivial agg23 sz23 rfl) ?_
  refine .e (t := 11) rfl (hlc rfl) (fun hg => sp_lenSs Try.underlying23 (((hlc rfl).undE hg).dat D_p0_1 sub_all)) ?_
  refine .e (t := 11) rfl (hlc rfl) (fun hg => fo 1 (hbs rfl e3) Try.underlying27 rfl sz23 rfl) ?_
  refine .e (t := 11) rfl (hlc rfl) (fun hg => lo1 ((hlc rfl).undE hg) own_b3_2 trivial agg23 sz23 rfl) ?_
  refine .e (t := 11) rfl (hlc rfl) (fun hg => sp_lenSs Try.underlying23 (((hlc rfl).undE hg).dat D_p1_1 sub_all)) ?_
  refine .e (t := 11) rfl (hlc rfl) (fun hg => sp_neq ((hlc rfl).undE hg) ((hlc rfl).undE hg)) ?_
  refine .i (sp_or (hlc rfl) ((hlc rfl).weak fun hq => hq)) ?_
  refine .done ⟨by kernel_rfl, fun a5 g W5 y5 zz5 hk hg hV hR hP => ?_⟩
  obtain ⟨e19, -, -, -, -, -, -, -, -, -, -, -, -, -, -⟩ := hV
  replace e3 := (hR 3 rfl).trans e3
  replace e2 := (hR 2 rfl).trans e2
  replace D_p0_1 := D_p0_1.ext hk
  replace D_p1_1 := D_p1_1.ext hk
  replace e19 := e19.q
  replace own_b3_2 := own_b3_2.ext hk
  replace own_b2_2 := own_b2_2.ext hk
  replace kw := kw.x hk
  clear hR hk hg hP
  refine tail_nil (hK4 _ _ ?_)
  refine wp_cond_split e19 (fun hc => ?_) (fun hc => ?_)
  ·
   have hfin : sameA au bu = false := by cases hq : sameA au bu with | false => rfl | true => have := (sameA_iff au bu).1 hq; subst this; simp at hc
   refine wp_seq_k fun K6 hK6 => ?_
   refine rg mixed y5 zz5 ?_
   refine .i (sp_assign Has.cst) ?_
   refine .done ⟨by kernel_rfl, fun a7 g W7 y7 zz7 hk hg hV hR hP => ?_⟩
   obtain ⟨e4, -⟩ := hV
   replace D_p0_1 := D_p0_1.ext hk
   replace D_p1_1 := D_p1_1.ext hk
   have e4 : sl a7 4 = (.bool (false)) := e4
   replace own_b3_2 := own_b3_2.ext hk
   replace own_b2_2 := own_b2_2.ext hk
   replace kw := kw.x hk
   clear hR hk hg hP
   refine tail_nil (hK6 _ _ ?_)
   refine wp_ret ?_
   refine (show bodyPost Try.prog Try.f20 _ .ret _ _ from ret1 rfl zz7 e4 ⟨_, rfl, kw, ?_⟩)
   rw [hfin]
  ·
   simp at hc
   obtain ⟨q1, q2⟩ := hc
   have hl1 := rd_lenS D_p0_1
   simp only [maxLen] at hl1
   refine wp_skip (hK3 _ _ ?_)
   refine wp_seq_k fun K8 hK8 => ?_
   refine wp_seq_k fun K9 hK9 => ?_
   refine rg mixed y5 zz5 ?_
   refine .i (sp_assign Has.cst) ?_
   refine .done ⟨by kernel_rfl, fun a10 g W10 y10 zz10 hk hg hV hR hP => ?_⟩
   obtain ⟨e5, -⟩ := hV
   replace e3 := (hR 3 rfl).trans e3
   replace e2 := (hR 2 rfl).trans e2
   replace D_p0_1 := D_p0_1.ext hk
   replace D_p1_1 := D_p1_1.ext hk
   have e5 : sl a10 5 = (.int .i64 (0)) := e5
   replace own_b3_2 := own_b3_2.ext hk
   replace own_b2_2 := own_b2_2.ext hk
   replace kw := kw.x hk
   clear hR hk hg hP
   refine tail_nil (hK9 _ _ ?_)
   refine wp_block ?_
   refine wp_for (au.ids.length) (fun k a W => a.tmps.size = 38 ∧ a.defers = [] ∧ Keeps All w W ∧ sl a 2 = (.pointer (some ⟨b2_2, 0, none⟩)) ∧ sl a 3 = (.pointer (some ⟨b3_2, 0, none⟩)) ∧ sl a 5 = (.int .i64 ((k : Nat))) ∧ Own W b3_2 [(.int .i64 (bu.th)), (.slice p1_1a (bu.ids.length) p1_1c)] 27 ∧ Own W b2_2 [(.int .i64 (au.th)), (.slice p0_1a (au.ids.length) p0_1c)] 27 ∧ Rd W (SA w S [b3_2, b2_2]) (strsD (au.ids)) (.slice p0_1a (au.ids.length) p0_1c) ∧ Rd W (SA w S [b3_2, b2_2]) (strsD (bu.ids)) (.slice p1_1a (bu.ids.length) p1_1c) ∧ (∀ i (h1 : i < au.ids.length) (h2 : i < bu.ids.length), i < k → au.ids[i] = bu.ids[i])) ⟨y10, zz10, kw, e2, e3, (e5.trans (congrArg (Value.int .i64) (rfl))), own_b3_2, own_b2_2, D_p0_1, D_p1_1, fun i h1 h2 hi => absurd hi (by omega)⟩ ?_
   clear kw e2 e3 e5 own_b3_2 own_b2_2 D_p0_1 D_p1_1
   rintro k a11 W11 hkk ⟨y11, zz11, kw, e2, e3, e5, own_b3_2, own_b2_2, D_p0_1, D_p1_1, hinv⟩
   refine wp_seq_k fun K12 hK12 => ?_
   refine wp_seq_k fun K13 hK13 => ?_
   refine rg mixed y11 zz11 ?_
   refine .i (sp_move (hbs rfl e5)) ?_
   refine .i (fo 1 (hbs rfl e2) Try.underlying27 rfl sz23 rfl) ?_
   refine .i (lo1 (hlc rfl) own_b2_2 trivial agg23 sz23 rfl) ?_
   refine .i (sp_lenSs Try.underlying23 ((hlc rfl).dat D_p0_1 sub_all)) ?_
   refine .i (sp_lss (hlc rfl) (hlc rfl)) ?_
   refine .done ⟨by kernel_rfl, fun a14 g W14 y14 zz14 hk hg hV hR hP => ?_⟩
   obtain ⟨e24, -, -, -, -, -⟩ := hV
   replace e3 := (hR 3 rfl).trans e3
   replace e2 := (hR 2 rfl).trans e2
   replace e5 := (hR 5 rfl).trans e5
   replace D_p0_1 := D_p0_1.ext hk
   replace D_p1_1 := D_p1_1.ext hk
   replace e24 := e24.q
   replace own_b3_2 := own_b3_2.ext hk
   replace own_b2_2 := own_b2_2.ext hk
   replace kw := kw.x hk
   clear hR hk hg hP
   refine tail_nil (hK13 _ _ ?_)
   refine wp_cond_split e24 (fun hc => ?_) (fun hc => ?_)
   ·
    have hlt : k < au.ids.length := by simpa using hc
    refine wp_skip (hK12 _ _ ?_)
    refine wp_seq_k fun K15 hK15 => ?_
    refine wp_block ?_
    refine wp_seq_k fun K16 hK16 => ?_
    refine rg mixed y14 zz14 ?_
    refine .i (fo 1 (hbs rfl e2) Try.underlying27 rfl sz23 rfl) ?_
    refine .i (lo1 (hlc rfl) own_b2_2 trivial agg23 sz23 rfl) ?_
    refine .i (sp_move (hbs rfl e5)) ?_
    refine .rf (sp_indexS (i := k) ((hlc rfl).dat D_p0_1 sub_all) (hlc rfl) Try.underlying23 sz9 rfl hlt) ?_
    refine .i (sp_loadStr (hlc rfl) agg9 sz9) ?_
    refine .i (fo 1 (hbs rfl e3) Try.underlying27 rfl sz23 rfl) ?_
    refine .i (lo1 (hlc rfl) own_b3_2 trivial agg23 sz23 rfl) ?_
    refine .i (sp_move (hbs rfl e5)) ?_
    refine .rf (sp_indexS (i := k) ((hlc rfl).dat D_p1_1 sub_all) (hlc rfl) Try.underlying23 sz9 rfl (by omega)) ?_
    refine .i (sp_loadStr (hlc rfl) agg9 sz9) ?_
    refine .i (sp_sNeq (hlc rfl) (hlc rfl)) ?_
    refine .done ⟨by kernel_rfl, fun a17 g W17 y17 zz17 hk hg hV hR hP => ?_⟩
    obtain ⟨e37, -, -, -, -, -, -, -, -, -, -, -⟩ := hV
    replace e3 := (hR 3 rfl).trans e3
    replace e2 := (hR 2 rfl).trans e2
    replace e5 := (hR 5 rfl).trans e5
    replace D_p0_1 := D_p0_1.ext hk
    replace D_p1_1 := D_p1_1.ext hk
    replace e37 := e37.q
    replace own_b3_2 := own_b3_2.ext hk
    replace own_b2_2 := own_b2_2.ext hk
    replace kw := kw.x hk
    clear hR hk hg hP
    refine tail_nil (hK16 _ _ ?_)
    refine wp_cond_split e37 (fun hc => ?_) (fun hc => ?_)
    ·
     have hfin : sameA au bu = false := by cases hq : sameA au bu with | false => rfl | true => have := (sameA_iff au bu).1 hq; subst this; simp at hc
     refine wp_seq_k fun K18 hK18 => ?_
     refine rg mixed y17 zz17 ?_
     refine .i (sp_assign Has.cst) ?_
     refine .done ⟨by kernel_rfl, fun a19 g W19 y19 zz19 hk hg hV hR hP => ?_⟩
     obtain ⟨e4, -⟩ := hV
     replace D_p0_1 := D_p0_1.ext hk
     replace D_p1_1 := D_p1_1.ext hk
     have e4 : sl a19 4 = (.bool (false)) := e4
     replace own_b3_2 := own_b3_2.ext hk
     replace own_b2_2 := own_b2_2.ext hk
     replace kw := kw.x hk
     clear hR hk hg hP
     refine tail_nil (hK18 _ _ ?_)
     refine wp_ret ?_
     refine (show bodyPost Try.prog Try.f20 _ .ret _ _ from ret1 rfl zz19 e4 ⟨_, rfl, kw, ?_⟩)
     rw [hfin]
    ·
     have hk1 : au.ids[k] = bu.ids[k] := by simpa using hc
     refine wp_skip (hK15 _ _ ?_)
     refine rg mixed y17 zz17 ?_
     refine .i (sp_move (hbs rfl e5)) ?_
     refine .i (sp_add (hlc rfl) Has.cst (i64_in (by omega))) ?_
     refine .i (sp_assign (hlc rfl)) ?_
     refine .done ⟨by kernel_rfl, fun a20 g W20 y20 zz20 hk hg hV hR hP => ?_⟩
     obtain ⟨e5, -, -, -⟩ := hV
     replace e3 := (hR 3 rfl).trans e3
     replace e2 := (hR 2 rfl).trans e2
     replace D_p0_1 := D_p0_1.ext hk
     replace D_p1_1 := D_p1_1.ext hk
     replace e5 := e5.q
     replace own_b3_2 := own_b3_2.ext hk
     replace own_b2_2 := own_b2_2.ext hk
     replace kw := kw.x hk
     clear hR hk hg hP
     exact tail_nil ⟨hlt, y20, zz20, kw, e2, e3, (e5.trans (congrArg (Value.int .i64) (by simp))), own_b3_2, own_b2_2, D_p0_1, D_p1_1, fun i h1 h2 hi => by rcases Nat.lt_succ_iff_lt_or_eq.1 hi with h | h; exact hinv i h1 h2 h; subst h; exact hk1⟩
   ·
    have hge0 : ¬ k < au.ids.length := by simpa using hc
    have hge : k = au.ids.length := by omega
    have hfin : sameA au bu = true := (sameA_iff au bu).2 (Au.ext' q1 (List.ext_getElem (by omega) fun i h1 h2 => hinv i h1 h2 (by omega)))
    refine wp_exit (hK8 _ _ ?_)
    refine wp_seq_k fun K21 hK21 => ?_
    refine rg mixed y14 zz14 ?_
    refine .i (sp_assign Has.cst) ?_
    refine .done ⟨by kernel_rfl, fun a22 g W22 y22 zz22 hk hg hV hR hP => ?_⟩
    obtain ⟨e4, -⟩ := hV
    replace D_p0_1 := D_p0_1.ext hk
    replace D_p1_1 := D_p1_1.ext hk
    have e4 : sl a22 4 = (.bool (true)) := e4
    replace own_b3_2 := own_b3_2.ext hk
    replace own_b2_2 := own_b2_2.ext hk
    replace kw := kw.x hk
    clear hR hk hg hP
    refine tail_nil (hK21 _ _ ?_)
    refine wp_ret ?_
    refine (show bodyPost Try.prog Try.f20 _ .ret _ _ from ret1 rfl zz22 e4 ⟨_, rfl, kw, ?_⟩)
    rw [hfin]

end Go.Proofs.Ytnobijngkpflcaa
