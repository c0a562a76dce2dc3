/-
  The law PickPlays of package legatelaw11 returns true for every input, and leaves its arguments as they were. No condition beyond the row's own.
-/
import Derived.Test.YtnobijngkpflcaaPp5
namespace Go.Proofs.Ytnobijngkpflcaa
open Go.Eng
abbrev tkO (x : V) (c : Cl) : V := if tkB x 0 c.nm (obE c.mo) then obV c.mo (getV x c.nm) else ⟨0, 0, ⟨#[]⟩, [], []⟩
abbrev tkN (x : V) (c : Cl) : V := if tkB x 0 c.nm anyE then getV x c.nm else ⟨0, 0, ⟨#[]⟩, [], []⟩
set_option maxRecDepth 100000 in
set_option maxHeartbeats 4000000 in
theorem asksA_ok (x : V) (A : As) (hA : AB 1000000 A) (hx : x.wt ≤ 1073741824) (hxt : x.t.size ≤ maxLen) (c : Cl) (hnm : c.nm.size ≤ maxLen) (w : World) (S G : BSet) (cn ci dn di : Value) (bo bm bx lo : Nat) (av : Value) (hd : Option Nat) (L : List ByteArray) (hL : L.length ≤ 100000) (hG : ∀ b o, G b o → Cln o) (hM : ∀ b ∈ (bo :: bm :: bx :: (blks hd ++ [])), ∀ o, ¬ S b o) (hMG : ∀ b ∈ (bo :: bm :: bx :: (blks hd ++ [])), ∀ o, ¬ G b o) (hne : bo ≠ bm) (hn1 : bo ≠ bx) (hn2 : bm ≠ bx) (nb : bx ∉ blks hd) (nb1 : bo ∉ blks hd) (nb2 : bm ∉ blks hd) (hv : Rd w G (strsD x.ns) cn) (hu : Rd w G (valsD x.xs) ci) (hv2 : Rd w S (strsD x.ns) dn) (hu2 : Rd w S (valsD x.xs) di) (own_bo : Own w bo [.int .u8 x.k, .int .i64 x.n, .string x.t, cn, ci, .map (some bm), .int .i64 (0)] 74) (own_bm : OwnM w bm A) (own_bx : Own w bx [.int .u8 x.k, .int .i64 x.n, .string x.t, dn, di, av, .int .i64 (0)] 56) (A_ar : Arr w lo 9 1 (SA w G (bo :: bm :: bx :: (blks hd ++ []))) (List.map D.str L) av hd) (hlo : lo ≤ w.heap.size) (hrl : (rlL x c.nm c.mo).length ≤ 1073741824) (vc : Value) (hc : Rd w S c.d vc) : Calls Try.prog 31 #[.pointer (some ⟨bo, 0, none⟩), .pointer (some ⟨bx, 0, none⟩), vc] w (RetL w (bo :: bm :: bx :: (blks hd ++ [])) fun u W => u = .bool (aR x 0 x c) ∧ Own W bo [.int .u8 x.k, .int .i64 x.n, .string x.t, cn, ci, .map (some bm), .int .i64 (qE x 0 c)] 74 ∧ OwnM W bm (qA x A 0 c) ∧ ∃ hd2, RowP 56 9 W lo bx (fun av => [.int .u8 x.k, .int .i64 x.n, .string x.t, dn, di, av, .int .i64 (rqE x c)]) (rqL c L) hd2 ∧ ∀ b ∈ blks hd2, b ∈ blks hd ∨ w.heap.size ≤ b) := by
 have hwg := Nat.le_trans (getV_wt x c.nm) hx
 obtain ⟨ev, hb_p2_1⟩ := rdCl_out (rd_argM (M := (bo :: (bm :: (bx :: (blks hd ++ []))))) hc hM)
 subst ev
 obtain ⟨cna, cnc, ev, D_cn⟩ := rdS_out (rd_argM (M := (bo :: (bm :: (bx :: (blks hd ++ []))))) hv hMG)
 subst ev
 obtain ⟨cia, cic, ev, D_ci⟩ := rdVs_out (rd_argM (M := (bo :: (bm :: (bx :: (blks hd ++ []))))) hu hMG)
 subst ev
 obtain ⟨dna, dnc, ev, D_dn⟩ := rdS_out (rd_argM (M := (bo :: (bm :: (bx :: (blks hd ++ []))))) hv2 hM)
 subst ev
 obtain ⟨dia, dic, ev, D_di⟩ := rdVs_out (rd_argM (M := (bo :: (bm :: (bx :: (blks hd ++ []))))) hu2 hM)
 subst ev
 refine enter Try.func31 rfl Try.ntmps31 (lbr rfl) fun a0 y0 zz0 harg => ?_
 have e0 : sl a0 0 = (.pointer (some ⟨bo, 0, none⟩)) := harg 0 (lbr rfl)
 have e1 : sl a0 1 = (.pointer (some ⟨bx, 0, none⟩)) := harg 1 (lbr rfl)
 have e2 : sl a0 2 = (.agg #[(.int .u8 (c.wh)), (.string (c.nm)), (.int .i64 (c.lo)), (.int .i64 (c.hi)), (.int .i64 (c.mo)), (.int .i64 (c.er))]) := harg 2 (lbr rfl)
 have kw := Keeps.refl (fun k => k ∉ (bo :: (bm :: (bx :: (blks hd ++ []))))) w
 clear harg
 refine zq fun K1 hK1 => ?_
 refine rg mixed y0 zz0 ?_
 refine .boxOp (v := (.agg #[(.int .u8 (c.wh)), (.string (c.nm)), (.int .i64 (c.lo)), (.int .i64 (c.hi)), (.int .i64 (c.mo)), (.int .i64 (c.er))])) (hbs rfl e2) ?_
 refine .ac ?_
 refine .dn fun a2 g W2 y2 zz2 hk hg hV hR hP => ?_
 obtain ⟨-, ⟨b5_2, e5, hb5, own_b5_2⟩, -⟩ := hV
 have lo_b5_2 : w.heap.size ≤ b5_2 := Nat.le_trans kw.size (hg.lo _ _ hb5)
 have ne_bo_b5_2 : bo ≠ b5_2 := Nat.ne_of_lt (Nat.lt_of_lt_of_le own_bo.lt (hg.lo _ _ hb5))
 have ne_bm_b5_2 : bm ≠ b5_2 := Nat.ne_of_lt (Nat.lt_of_lt_of_le own_bm.lt (hg.lo _ _ hb5))
 have ne_bx_b5_2 : bx ≠ b5_2 := Nat.ne_of_lt (Nat.lt_of_lt_of_le own_bx.lt (hg.lo _ _ hb5))
 have own_b5_2 : Own W2 b5_2 [(.int .u8 (c.wh)), (.string (c.nm)), (.int .i64 (c.lo)), (.int .i64 (c.hi)), (.int .i64 (c.mo)), (.int .i64 (c.er))] 54 := own_b5_2
 replace e0 := ft hR e0
 replace e1 := ft hR e1
 have nb_b5_2_ar : b5_2 ∉ blks hd := nb_lt A_ar.lt (hg.lo _ _ hb5)
 replace A_ar : Arr W2 lo 9 1 (SA w G (b5_2 :: (bo :: (bm :: (bx :: (blks hd ++ [])))))) (List.map D.str (L)) av hd := arrA_more A_ar hk [b5_2] (in_cons (hg.lo _ _ hb5) in_nil)
 replace D_cn : Rd W2 (SA w G (b5_2 :: (bo :: (bm :: (bx :: (blks hd ++ [])))))) (strsD (x.ns)) (.slice cna (x.ns.length) cnc) := sa_more D_cn hk [b5_2] (in_cons (hg.lo _ _ hb5) in_nil)
 replace D_ci : Rd W2 (SA w G (b5_2 :: (bo :: (bm :: (bx :: (blks hd ++ [])))))) (valsD (x.xs)) (.slice cia (x.xs.length) cic) := sa_more D_ci hk [b5_2] (in_cons (hg.lo _ _ hb5) in_nil)
 replace D_dn : Rd W2 (SA w S (b5_2 :: (bo :: (bm :: (bx :: (blks hd ++ [])))))) (strsD (x.ns)) (.slice dna (x.ns.length) dnc) := sa_more D_dn hk [b5_2] (in_cons (hg.lo _ _ hb5) in_nil)
 replace D_di : Rd W2 (SA w S (b5_2 :: (bo :: (bm :: (bx :: (blks hd ++ [])))))) (valsD (x.xs)) (.slice dia (x.xs.length) dic) := sa_more D_di hk [b5_2] (in_cons (hg.lo _ _ hb5) in_nil)
 replace own_bo := own_bo.ext hk
 replace own_bm := own_bm.ext hk
 replace own_bx := own_bx.ext hk
 replace kw := kw.x hk
 clear hR hk hg hP hb5
 refine zn (hK1 _ _ ?_)
 refine zq fun K3 hK3 => ?_
 refine zq fun K4 hK4 => ?_
 refine rg mixed y2 zz2 ?_
 refine .i (fo 0 (hbs rfl e5) Try.underlying54 rfl sz5 rfl) ?_
 refine .i (lo1 (hlc rfl) own_b5_2 trivial agg5 sz5 rfl) ?_
 refine .dn fun a5 g W5 y5 zz5 hk hg hV hR hP => ?_
 obtain ⟨e17, -, -⟩ := hV
 replace e0 := ft hR e0
 replace e1 := ft hR e1
 replace e5 := ft hR e5
 replace A_ar := A_ar.ext hk
 replace D_cn := D_cn.ext hk
 replace D_ci := D_ci.ext hk
 replace D_dn := D_dn.ext hk
 replace D_di := D_di.ext hk
 replace e17 := e17.q
 replace own_bo := own_bo.ext hk
 replace own_bm := own_bm.ext hk
 replace own_bx := own_bx.ext hk
 replace own_b5_2 := own_b5_2.ext hk
 replace kw := kw.x hk
 clear hR hk hg hP
 refine zn (hK4 _ _ ?_)
 refine wp_block ?_
 refine zq fun K6 hK6 => ?_
 refine rg mixed y5 zz5 ?_
 refine .i (sp_eql (hbs rfl e17) Has.cst) ?_
 refine .al rfl ?_
 refine .dn fun a7 g W7 y7 zz7 hk hg hV hR hP => ?_
 obtain ⟨e18, -, -⟩ := hV
 replace e0 := ft hR e0
 replace e1 := ft hR e1
 replace e5 := ft hR e5
 replace e17 := ft hR e17
 replace A_ar := A_ar.ext hk
 replace D_cn := D_cn.ext hk
 replace D_ci := D_ci.ext hk
 replace D_dn := D_dn.ext hk
 replace D_di := D_di.ext hk
 replace e18 := e18.q
 replace own_bo := own_bo.ext hk
 replace own_bm := own_bm.ext hk
 replace own_bx := own_bx.ext hk
 replace own_b5_2 := own_b5_2.ext hk
 replace kw := kw.x hk
 clear hR hk hg hP
 refine zn (hK6 _ _ ?_)
 refine zc e18 (fun hc => ?_) (fun hc => ?_)
 ·
  have hw : c.wh = 0 := by have := eq_of_beq hc; omega
  have hR : aR x 0 x c = ((decide (errK x.k 0 = 0) && getB x c.nm) == grB x c.nm) := by rw [aR, if_pos hw]
  have hE1 : qE x 0 c = 0 := by rw [qE, if_pos hw]
  have hA1 : qA x A 0 c = A := by rw [qA, if_pos hw]
  have hE2 : rqE x c = 0 := by rw [rqE, if_pos hw]
  have hL2 : rqL c L = L := by rw [rqL, if_pos hw]
  refine zq fun K8 hK8 => ?_
  refine rg mixed y7 zz7 ?_
  refine .mb rfl e0 ?_
  refine .i (fo 1 (hbs rfl e5) Try.underlying54 rfl sz9 rfl) ?_
  refine .i (lo1 (hlc rfl) own_b5_2 trivial agg9 sz9 rfl) ?_
  refine .i (v := (.bool (decide (errK x.k 0 = 0) && getB x c.nm))) (sp_call2 (φ1 := Is (.pointer (some ⟨bo, 0, none⟩))) (φ2 := Is (.string (c.nm))) ent42 (hlc rfl) (hlc rfl) (fun g u1 u2 W hk hgk h1 h2 => by have h1 : u1 = _ := h1; subst u1; have h2 : u2 = _ := h2; subst u2; exact HasO_ok (x) (0) hx hxt (c.nm) W _ _ _ _ _ (sa_cln hG) (D_cn.ext hk) (D_ci.ext hk) (own_bo.ext hk))) ?_
  refine .mb rfl e1 ?_
  refine .i (fo 1 (hbs rfl e5) Try.underlying54 rfl sz9 rfl) ?_
  refine .i (lo1 (hlc rfl) own_b5_2 trivial agg9 sz9 rfl) ?_
  refine .i (v := (.bool (grB x c.nm))) (sp_call2 (φ1 := Is (.pointer (some ⟨bx, 0, none⟩))) (φ2 := Is (.string (c.nm))) ent82 (hlc rfl) (hlc rfl) (fun g u1 u2 W hk hgk h1 h2 => by have h1 : u1 = _ := h1; subst u1; have h2 : u2 = _ := h2; subst u2; exact yHas_ok (c.nm) (x) hxt W _ _ _ _ _ (rd_base D_dn hk hgk sub_all) (rd_base D_di hk hgk sub_all) (own_bx.ext hk))) ?_
  refine .i (sp_bEql Try.underlying4 (hlc rfl) (hlc rfl)) ?_
  refine .al rfl ?_
  refine .dn fun a9 g W9 y9 zz9 hk hg hV hR hP => ?_
  obtain ⟨e6, -, -, -, -, -, -, -, -, -, -⟩ := hV
  replace A_ar := A_ar.ext hk
  replace D_cn := D_cn.ext hk
  replace D_ci := D_ci.ext hk
  replace D_dn := D_dn.ext hk
  replace D_di := D_di.ext hk
  replace e6 := e6.q
  replace own_bo := own_bo.ext hk
  replace own_bm := own_bm.ext hk
  replace own_bx := own_bx.ext hk
  replace own_b5_2 := own_b5_2.ext hk
  replace kw := kw.x hk
  clear hR hk hg hP
  refine zn (hK8 _ _ ?_)
  refine wp_ret ?_
  refine ret1 rfl zz9 e6 ⟨_, rfl, kw, ?_⟩
  have own_bx : RowP 56 9 W9 lo bx (fun av => [(.int .u8 (x.k)), (.int .i64 (x.n)), (.string (x.t)), (.slice dna (x.ns.length) dnc), (.slice dia (x.xs.length) dic), av, (.int .i64 (0))]) (L) hd := ⟨_, own_bx, arr_str A_ar, nb⟩
  rw [hR, hE1, hA1, hE2, hL2]
  exact ⟨rfl, own_bo, own_bm, _, own_bx, fun b hb => .inl hb⟩
 have n0 : ¬ c.wh = 0 := by have := ne_of_beq_false hc; omega
 refine zq fun K10 hK10 => ?_
 refine rg mixed y7 zz7 ?_
 refine .i (sp_eql (hbs rfl e17) Has.cst) ?_
 refine .al rfl ?_
 refine .dn fun a11 g W11 y11 zz11 hk hg hV hR hP => ?_
 obtain ⟨e29, -, -⟩ := hV
 replace e0 := ft hR e0
 replace e1 := ft hR e1
 replace e5 := ft hR e5
 replace e17 := ft hR e17
 replace A_ar := A_ar.ext hk
 replace D_cn := D_cn.ext hk
 replace D_ci := D_ci.ext hk
 replace D_dn := D_dn.ext hk
 replace D_di := D_di.ext hk
 replace e29 := e29.q
 replace own_bo := own_bo.ext hk
 replace own_bm := own_bm.ext hk
 replace own_bx := own_bx.ext hk
 replace own_b5_2 := own_b5_2.ext hk
 replace kw := kw.x hk
 clear hR hk hg hP
 refine zn (hK10 _ _ ?_)
 refine zc e29 (fun hc => ?_) (fun hc => ?_)
 ·
  have hw : c.wh = 1 := by have := eq_of_beq hc; omega
  have hR : aR x 0 x c = (decide ((if tkB x 0 c.nm textE then textV (getV x c.nm) else ⟨#[]⟩) = (rtV x c.nm 3).t)) := by rw [aR, if_neg n0, if_pos hw]
  have hE1 : qE x 0 c = tkE x 0 c.nm textE := by rw [qE, if_neg n0, if_pos hw]
  have hA1 : qA x A 0 c = tkA x A 0 c.nm textE := by rw [qA, if_neg n0, if_pos hw]
  have hE2 : rqE x c = rtE x c.nm 3 := by rw [rqE, if_neg n0, if_pos hw]
  have hL2 : rqL c L = L ++ [c.nm] := by rw [rqL, if_neg n0, if_pos hw]
  refine zq fun K12 hK12 => ?_
  have hws : w.heap.size ≤ W11.heap.size := kw.size
  have hmR : ∀ b, b ∈ (bo :: bm :: bx :: (blks hd ++ [])) → b ∈ (b5_2 :: (bo :: (bm :: (bx :: (blks hd ++ []))))) := (fun b hb => by first | exact hb | (simp only [List.mem_cons, List.mem_append, List.not_mem_nil, or_false] at hb ⊢; rcases hb with h | h | h | h <;> simp [h]))
  have hmX : ∀ b, b ∈ (bx :: (blks hd ++ [])) → b ∈ (b5_2 :: (bo :: (bm :: (bx :: (blks hd ++ []))))) := (fun b hb => by first | exact hb | (simp only [List.mem_cons, List.mem_append, List.not_mem_nil, or_false] at hb ⊢; rcases hb with h | h <;> simp [h]))
  refine wp_reg (fun k => k ∉ (bo :: bm :: bx :: (blks hd ++ []))) (Ψ := fun W => (Own W bo [(.int .u8 (x.k)), (.int .i64 (x.n)), (.string (x.t)), (.slice cna (x.ns.length) cnc), (.slice cia (x.xs.length) cic), (.map (some bm)), (.int .i64 (0))] 74 ∧ OwnM W bm (A)) ∧ Own W bx [(.int .u8 (x.k)), (.int .i64 (x.n)), (.string (x.t)), (.slice dna (x.ns.length) dnc), (.slice dia (x.xs.length) dic), av, (.int .i64 (0))] 56 ∧ Arr W lo 9 1 (SA w G (b5_2 :: (bo :: (bm :: (bx :: (blks hd ++ [])))))) (List.map D.str (L)) av hd) mixed y11 zz11 (stE_and (stE_and stE_own stE_ownM) stE_boxR) ⟨⟨own_bo, own_bm⟩, own_bx, A_ar⟩ ?_
  refine .mb rfl e0 ?_
  refine .i (fo 1 (hbs rfl e5) Try.underlying54 rfl sz9 rfl) ?_
  refine .i (lo1 (hlc rfl) own_b5_2 (by simp [ne_bo_b5_2.symm, ne_bm_b5_2.symm, ne_bx_b5_2.symm, nb_b5_2_ar]) agg9 sz9 rfl) ?_
  refine .callL2 (φ1 := Is (.pointer (some ⟨bo, 0, none⟩))) (φ2 := Is (.string (c.nm))) (φ := Is (.string (if tkB x 0 c.nm textE then textV (getV x c.nm) else ⟨#[]⟩))) (Ψ' := fun W => (Own W bo [(.int .u8 (x.k)), (.int .i64 (x.n)), (.string (x.t)), (.slice cna (x.ns.length) cnc), (.slice cia (x.xs.length) cic), (.map (some bm)), (.int .i64 (tkE x 0 c.nm textE))] 74 ∧ OwnM W bm (tkA x A 0 c.nm textE)) ∧ Own W bx [(.int .u8 (x.k)), (.int .i64 (x.n)), (.string (x.t)), (.slice dna (x.ns.length) dnc), (.slice dia (x.xs.length) dic), av, (.int .i64 (0))] 56 ∧ Arr W lo 9 1 (SA w G (b5_2 :: (bo :: (bm :: (bx :: (blks hd ++ [])))))) (List.map D.str (L)) av hd) ent43 (hlc rfl) (hlc rfl) (st_is _) (stE_and (stE_and stE_own stE_ownM) stE_boxR) (fun g u1 u2 W hk hg h1 h2 hP => by have h1 : u1 = _ := h1; subst u1; have h2 : u2 = _ := h2; subst u2; have hq := hP.1; have hin : Calls _ _ _ W (fun ee W' => ∃ v, ee = .returned v ∧ Keeps (fun k => k ∉ [bo, bm]) W W' ∧ (Is (.string (if tkB x 0 c.nm textE then textV (getV x c.nm) else ⟨#[]⟩))) g v W' ∧ (Own W' bo [(.int .u8 (x.k)), (.int .i64 (x.n)), (.string (x.t)), (.slice cna (x.ns.length) cnc), (.slice cia (x.xs.length) cic), (.map (some bm)), (.int .i64 (tkE x 0 c.nm textE))] 74 ∧ OwnM W' bm (tkA x A 0 c.nm textE))) := (Text_ok (x) (A) (0) hA hx hxt c.nm W _ _ _ _ _ (sa_cln hG) (sa_notin (by simp)) hne (sa_keepL D_cn hk hmR) (sa_keepL D_ci hk hmR) hq.1 hq.2); exact hin.mono fun ee W' ⟨v, k1, k2, k3, k4⟩ => ⟨v, k1, k2.mono (fun k h hm => h (by simp only [List.mem_cons, List.not_mem_nil, or_false] at hm; simp only [List.mem_cons]; rcases hm with hm | hm <;> simp [hm])), k3, k4, hP.2.1.keeps k2 (by simp [hn1.symm, hn2.symm]), arr_strK hP.2.2 k2 (fun b hb hm => by simp only [List.mem_cons, List.not_mem_nil, or_false] at hm; rcases hm with hm | hm <;> subst hm <;> first | exact nb1 hb | exact nb2 hb)⟩) ?_
  refine .mb rfl e1 ?_
  refine .i (fo 1 (hbs rfl e5) Try.underlying54 rfl sz9 rfl) ?_
  refine .i (lo1 (hlc rfl) own_b5_2 (by simp [ne_bo_b5_2.symm, ne_bm_b5_2.symm, ne_bx_b5_2.symm, nb_b5_2_ar]) agg9 sz9 rfl) ?_
  refine .callL2 (φ1 := Is (.pointer (some ⟨bx, 0, none⟩))) (φ2 := Is (.string (c.nm))) (φ := Is (.string ((rtV x c.nm 3).t))) (Ψ' := fun W => (Own W bo [(.int .u8 (x.k)), (.int .i64 (x.n)), (.string (x.t)), (.slice cna (x.ns.length) cnc), (.slice cia (x.xs.length) cic), (.map (some bm)), (.int .i64 (tkE x 0 c.nm textE))] 74 ∧ OwnM W bm (tkA x A 0 c.nm textE)) ∧ RowX 56 9 W11 W lo (SA w S (b5_2 :: (bo :: (bm :: (bx :: (blks hd ++ [])))))) (SA w G (b5_2 :: (bo :: (bm :: (bx :: (blks hd ++ [])))))) bx ((fun av => [(.int .u8 (x.k)), (.int .i64 (x.n)), (.string (x.t)), (.slice dna (x.ns.length) dnc), (.slice dia (x.xs.length) dic), av, (.int .i64 (rtE x c.nm 3))])) (L ++ [c.nm]) hd PhX undef) ent83 (hlc rfl) (hlc rfl) (st_is _) (stE_and (stE_and stE_own stE_ownM) stE_rowX) (fun g u1 u2 W hk hg h1 h2 hpsi0 => by have h1 : u1 = _ := h1; subst u1; have h2 : u2 = _ := h2; subst u2; have hP := hpsi0.2; exact (yText_ok c.nm hnm  (x) hxt W (SA w S (b5_2 :: (bo :: (bm :: (bx :: (blks hd ++ [])))))) (SA w G (b5_2 :: (bo :: (bm :: (bx :: (blks hd ++ [])))))) _ _ bx lo _ hd L hL (fun b hb o h => h.2.2 (hmX b hb)) (D_dn.keeps hk (fun b o h hm => h.2.2 (hmR b hm))) (D_di.keeps hk (fun b o h hm => h.2.2 (hmR b hm))) hP.1 (row_inA hG hP.2 hmX) nb (Nat.le_trans hlo (Nat.le_trans kw.size hk.size)) (sa_cln hG)).mono fun e W' ⟨v, k1, k2, k3⟩ => ⟨v, k1, k2.mono (fun k h hm => h (List.mem_cons_of_mem _ (List.mem_cons_of_mem _ (hm)))), (rowR_I k3).1, ⟨hpsi0.1.1.keeps k2 (nin_boxA hn1 nb1), hpsi0.1.2.keeps k2 (nin_boxA hn2 nb2)⟩, W, hk.size, (rowR_I k3).2⟩) ?_
  refine .i (sp_sEql (hlc rfl) (hlc rfl)) ?_
  refine .al rfl ?_
  refine .dn fun a13 g W13 y13 zz13 hk hg hV hR hP => ?_
  obtain ⟨e6, -, -, -, -, -, -, -, -, -, -⟩ := hV
  obtain ⟨hp1, hrw⟩ := hP
  have hMlt : ∀ b ∈ (b5_2 :: (bo :: (bm :: (bx :: (blks hd ++ []))))), b < W11.heap.size := (in_cons own_b5_2.lt (in_cons own_bo.lt (in_cons own_bm.lt (in_cons own_bx.lt (in_app A_ar.lt in_nil)))))
  obtain ⟨W1, hW1, v_13, hd_13, hphi, own_bx, A_13, nb_13, hf_13⟩ := hrw
  replace hf_13 : ∀ b ∈ blks hd_13, b ∈ blks hd ∨ W11.heap.size ≤ b := fun b hb => (hf_13 b hb).imp id (Nat.le_trans hW1)
  obtain ⟨v_13a, v_13n, v_13c, ev⟩ := arr_sl A_13; subst ev
  replace A_13 : Arr W13 lo 9 1 (SA w G (b5_2 :: (bo :: (bm :: (bx :: (blks hd_13 ++ [])))))) (List.map D.str (L ++ [c.nm])) (.slice v_13a v_13n v_13c) hd_13 := row_outA A_13 (Nat.le_trans kw.size hW1) (fun b hb => Nat.lt_of_lt_of_le (hMlt b hb) hW1) (fun b hb => by simp only [List.mem_cons, List.mem_append, List.not_mem_nil, or_false] at hb ⊢; rcases hb with h | h | h | h | h <;> simp [h])
  replace e6 := e6.q
  replace D_cn := sa_appL (M' := (b5_2 :: (bo :: (bm :: (bx :: (blks hd_13 ++ [])))))) D_cn hk hmR (rep_cons (rep_cons (rep_cons (rep_cons (rep_app hf_13 rep_nil)))))
  replace D_ci := sa_appL (M' := (b5_2 :: (bo :: (bm :: (bx :: (blks hd_13 ++ [])))))) D_ci hk hmR (rep_cons (rep_cons (rep_cons (rep_cons (rep_app hf_13 rep_nil)))))
  replace D_dn := sa_appL (M' := (b5_2 :: (bo :: (bm :: (bx :: (blks hd_13 ++ [])))))) D_dn hk hmR (rep_cons (rep_cons (rep_cons (rep_cons (rep_app hf_13 rep_nil)))))
  replace D_di := sa_appL (M' := (b5_2 :: (bo :: (bm :: (bx :: (blks hd_13 ++ [])))))) D_di hk hmR (rep_cons (rep_cons (rep_cons (rep_cons (rep_app hf_13 rep_nil)))))
  have nb_bo_13 : bo ∉ blks hd_13 := nb_new nb1 own_bo.lt hf_13
  have nb_bm_13 : bm ∉ blks hd_13 := nb_new nb2 own_bm.lt hf_13
  have nb_b5_2_13 : b5_2 ∉ blks hd_13 := nb_new nb_b5_2_ar own_b5_2.lt hf_13
  replace own_b5_2 := own_keepL own_b5_2 hk (by simp [ne_bo_b5_2.symm, ne_bm_b5_2.symm, ne_bx_b5_2.symm, nb_b5_2_ar])
  obtain ⟨own_bo, own_bm⟩ := hp1
  replace own_bo : Own W13 bo [(.int .u8 (x.k)), (.int .i64 (x.n)), (.string (x.t)), (.slice cna (x.ns.length) cnc), (.slice cia (x.xs.length) cic), (.map (some bm)), (.int .i64 (tkE x 0 c.nm textE))] 74 := own_bo
  replace own_bm : OwnM W13 bm (tkA x A 0 c.nm textE) := own_bm
  replace own_bx : Own W13 bx [(.int .u8 (x.k)), (.int .i64 (x.n)), (.string (x.t)), (.slice dna (x.ns.length) dnc), (.slice dia (x.xs.length) dic), (.slice v_13a v_13n v_13c), (.int .i64 (rtE x c.nm 3))] 56 := own_bx
  replace kw := keeps_L kw hk (fun b hb => .inr (fun hn => hn (by first | exact hb | (simp only [List.mem_cons, List.mem_append, List.not_mem_nil, or_false] at hb ⊢; rcases hb with h | h | h | h <;> simp [h]))))
  clear hmR hmX hR hk hg hMlt hW1 A_ar
  refine zn (hK12 _ _ ?_)
  refine wp_ret ?_
  refine ret1 rfl zz13 e6 ⟨_, rfl, kw, ?_⟩
  have own_bx : RowP 56 9 W13 lo bx (fun av => [(.int .u8 (x.k)), (.int .i64 (x.n)), (.string (x.t)), (.slice dna (x.ns.length) dnc), (.slice dia (x.xs.length) dic), av, (.int .i64 (rtE x c.nm 3))]) (L ++ [c.nm]) hd_13 := ⟨_, own_bx, arr_str A_13, nb_13⟩
  rw [hR, hE1, hA1, hE2, hL2]
  exact ⟨rfl, own_bo, own_bm, _, own_bx, fun b hb => (hf_13 b hb).imp id (Nat.le_trans hws)⟩
 have n1 : ¬ c.wh = 1 := by have := ne_of_beq_false hc; omega
 refine zq fun K14 hK14 => ?_
 refine rg mixed y11 zz11 ?_
 refine .i (sp_eql (hbs rfl e17) Has.cst) ?_
 refine .al rfl ?_
 refine .dn fun a15 g W15 y15 zz15 hk hg hV hR hP => ?_
 obtain ⟨e40, -, -⟩ := hV
 replace e0 := ft hR e0
 replace e1 := ft hR e1
 replace e5 := ft hR e5
 replace e17 := ft hR e17
 replace A_ar := A_ar.ext hk
 replace D_cn := D_cn.ext hk
 replace D_ci := D_ci.ext hk
 replace D_dn := D_dn.ext hk
 replace D_di := D_di.ext hk
 replace e40 := e40.q
 replace own_bo := own_bo.ext hk
 replace own_bm := own_bm.ext hk
 replace own_bx := own_bx.ext hk
 replace own_b5_2 := own_b5_2.ext hk
 replace kw := kw.x hk
 clear hR hk hg hP
 refine zn (hK14 _ _ ?_)
 refine zc e40 (fun hc => ?_) (fun hc => ?_)
 ·
  have hw : c.wh = 2 := by have := eq_of_beq hc; omega
  have hR : aR x 0 x c = ((if tkB x 0 c.nm (numE c.lo c.hi) then numV c.lo c.hi (getV x c.nm) else 0) == rnN' x c.nm c.lo c.hi) := by rw [aR, if_neg n0, if_neg n1, if_pos hw]
  have hE1 : qE x 0 c = tkE x 0 c.nm (numE c.lo c.hi) := by rw [qE, if_neg n0, if_neg n1, if_pos hw]
  have hA1 : qA x A 0 c = tkA x A 0 c.nm (numE c.lo c.hi) := by rw [qA, if_neg n0, if_neg n1, if_pos hw]
  have hE2 : rqE x c = rnE x c.nm c.lo c.hi := by rw [rqE, if_neg n0, if_neg n1, if_pos hw]
  have hL2 : rqL c L = L ++ [c.nm] := by rw [rqL, if_neg n0, if_neg n1, if_pos hw]
  refine zq fun K16 hK16 => ?_
  have hws : w.heap.size ≤ W15.heap.size := kw.size
  have hmR : ∀ b, b ∈ (bo :: bm :: bx :: (blks hd ++ [])) → b ∈ (b5_2 :: (bo :: (bm :: (bx :: (blks hd ++ []))))) := (fun b hb => by first | exact hb | (simp only [List.mem_cons, List.mem_append, List.not_mem_nil, or_false] at hb ⊢; rcases hb with h | h | h | h <;> simp [h]))
  have hmX : ∀ b, b ∈ (bx :: (blks hd ++ [])) → b ∈ (b5_2 :: (bo :: (bm :: (bx :: (blks hd ++ []))))) := (fun b hb => by first | exact hb | (simp only [List.mem_cons, List.mem_append, List.not_mem_nil, or_false] at hb ⊢; rcases hb with h | h <;> simp [h]))
  refine wp_reg (fun k => k ∉ (bo :: bm :: bx :: (blks hd ++ []))) (Ψ := fun W => (Own W bo [(.int .u8 (x.k)), (.int .i64 (x.n)), (.string (x.t)), (.slice cna (x.ns.length) cnc), (.slice cia (x.xs.length) cic), (.map (some bm)), (.int .i64 (0))] 74 ∧ OwnM W bm (A)) ∧ Own W bx [(.int .u8 (x.k)), (.int .i64 (x.n)), (.string (x.t)), (.slice dna (x.ns.length) dnc), (.slice dia (x.xs.length) dic), av, (.int .i64 (0))] 56 ∧ Arr W lo 9 1 (SA w G (b5_2 :: (bo :: (bm :: (bx :: (blks hd ++ [])))))) (List.map D.str (L)) av hd) mixed y15 zz15 (stE_and (stE_and stE_own stE_ownM) stE_boxR) ⟨⟨own_bo, own_bm⟩, own_bx, A_ar⟩ ?_
  refine .mb rfl e0 ?_
  refine .i (fo 1 (hbs rfl e5) Try.underlying54 rfl sz9 rfl) ?_
  refine .i (lo1 (hlc rfl) own_b5_2 (by simp [ne_bo_b5_2.symm, ne_bm_b5_2.symm, ne_bx_b5_2.symm, nb_b5_2_ar]) agg9 sz9 rfl) ?_
  refine .i (fo 2 (hbs rfl e5) Try.underlying54 rfl sz2 rfl) ?_
  refine .i (lo1 (hlc rfl) own_b5_2 (by simp [ne_bo_b5_2.symm, ne_bm_b5_2.symm, ne_bx_b5_2.symm, nb_b5_2_ar]) agg2 sz2 rfl) ?_
  refine .i (fo 3 (hbs rfl e5) Try.underlying54 rfl sz2 rfl) ?_
  refine .i (lo1 (hlc rfl) own_b5_2 (by simp [ne_bo_b5_2.symm, ne_bm_b5_2.symm, ne_bx_b5_2.symm, nb_b5_2_ar]) agg2 sz2 rfl) ?_
  refine .callL4 (φ1 := Is (.pointer (some ⟨bo, 0, none⟩))) (φ2 := Is (.string (c.nm))) (φ3 := Is (.int .i64 (c.lo))) (φ4 := Is (.int .i64 (c.hi))) (φ := Is (.int .i64 (if tkB x 0 c.nm (numE c.lo c.hi) then numV c.lo c.hi (getV x c.nm) else 0))) (Ψ' := fun W => (Own W bo [(.int .u8 (x.k)), (.int .i64 (x.n)), (.string (x.t)), (.slice cna (x.ns.length) cnc), (.slice cia (x.xs.length) cic), (.map (some bm)), (.int .i64 (tkE x 0 c.nm (numE c.lo c.hi)))] 74 ∧ OwnM W bm (tkA x A 0 c.nm (numE c.lo c.hi))) ∧ Own W bx [(.int .u8 (x.k)), (.int .i64 (x.n)), (.string (x.t)), (.slice dna (x.ns.length) dnc), (.slice dia (x.xs.length) dic), av, (.int .i64 (0))] 56 ∧ Arr W lo 9 1 (SA w G (b5_2 :: (bo :: (bm :: (bx :: (blks hd ++ [])))))) (List.map D.str (L)) av hd) ent44 (hlc rfl) (hlc rfl) (hlc rfl) (hlc rfl) (st_is _) (stE_and (stE_and stE_own stE_ownM) stE_boxR) (fun g u1 u2 u3 u4 W hk hg h1 h2 h3 h4 hP => by have h1 : u1 = _ := h1; subst u1; have h2 : u2 = _ := h2; subst u2; have h3 : u3 = _ := h3; subst u3; have h4 : u4 = _ := h4; subst u4; have hq := hP.1; have hin : Calls _ _ _ W (fun ee W' => ∃ v, ee = .returned v ∧ Keeps (fun k => k ∉ [bo, bm]) W W' ∧ (Is (.int .i64 (if tkB x 0 c.nm (numE c.lo c.hi) then numV c.lo c.hi (getV x c.nm) else 0))) g v W' ∧ (Own W' bo [(.int .u8 (x.k)), (.int .i64 (x.n)), (.string (x.t)), (.slice cna (x.ns.length) cnc), (.slice cia (x.xs.length) cic), (.map (some bm)), (.int .i64 (tkE x 0 c.nm (numE c.lo c.hi)))] 74 ∧ OwnM W' bm (tkA x A 0 c.nm (numE c.lo c.hi)))) := (Num_ok (x) (A) (0) hA hx hxt c.nm c.lo c.hi W _ _ _ _ _ (sa_cln hG) (sa_notin (by simp)) hne (sa_keepL D_cn hk hmR) (sa_keepL D_ci hk hmR) hq.1 hq.2); exact hin.mono fun ee W' ⟨v, k1, k2, k3, k4⟩ => ⟨v, k1, k2.mono (fun k h hm => h (by simp only [List.mem_cons, List.not_mem_nil, or_false] at hm; simp only [List.mem_cons]; rcases hm with hm | hm <;> simp [hm])), k3, k4, hP.2.1.keeps k2 (by simp [hn1.symm, hn2.symm]), arr_strK hP.2.2 k2 (fun b hb hm => by simp only [List.mem_cons, List.not_mem_nil, or_false] at hm; rcases hm with hm | hm <;> subst hm <;> first | exact nb1 hb | exact nb2 hb)⟩) ?_
  refine .mb rfl e1 ?_
  refine .i (fo 1 (hbs rfl e5) Try.underlying54 rfl sz9 rfl) ?_
  refine .i (lo1 (hlc rfl) own_b5_2 (by simp [ne_bo_b5_2.symm, ne_bm_b5_2.symm, ne_bx_b5_2.symm, nb_b5_2_ar]) agg9 sz9 rfl) ?_
  refine .i (fo 2 (hbs rfl e5) Try.underlying54 rfl sz2 rfl) ?_
  refine .i (lo1 (hlc rfl) own_b5_2 (by simp [ne_bo_b5_2.symm, ne_bm_b5_2.symm, ne_bx_b5_2.symm, nb_b5_2_ar]) agg2 sz2 rfl) ?_
  refine .i (fo 3 (hbs rfl e5) Try.underlying54 rfl sz2 rfl) ?_
  refine .i (lo1 (hlc rfl) own_b5_2 (by simp [ne_bo_b5_2.symm, ne_bm_b5_2.symm, ne_bx_b5_2.symm, nb_b5_2_ar]) agg2 sz2 rfl) ?_
  refine .callL4 (φ1 := Is (.pointer (some ⟨bx, 0, none⟩))) (φ2 := Is (.string (c.nm))) (φ3 := Is (.int .i64 (c.lo))) (φ4 := Is (.int .i64 (c.hi))) (φ := Is (.int .i64 (rnN' x c.nm c.lo c.hi))) (Ψ' := fun W => (Own W bo [(.int .u8 (x.k)), (.int .i64 (x.n)), (.string (x.t)), (.slice cna (x.ns.length) cnc), (.slice cia (x.xs.length) cic), (.map (some bm)), (.int .i64 (tkE x 0 c.nm (numE c.lo c.hi)))] 74 ∧ OwnM W bm (tkA x A 0 c.nm (numE c.lo c.hi))) ∧ RowX 56 9 W15 W lo (SA w S (b5_2 :: (bo :: (bm :: (bx :: (blks hd ++ [])))))) (SA w G (b5_2 :: (bo :: (bm :: (bx :: (blks hd ++ [])))))) bx ((fun av => [(.int .u8 (x.k)), (.int .i64 (x.n)), (.string (x.t)), (.slice dna (x.ns.length) dnc), (.slice dia (x.xs.length) dic), av, (.int .i64 (rnE x c.nm c.lo c.hi))])) (L ++ [c.nm]) hd PhX undef) ent84 (hlc rfl) (hlc rfl) (hlc rfl) (hlc rfl) (st_is _) (stE_and (stE_and stE_own stE_ownM) stE_rowX) (fun g u1 u2 u3 u4 W hk hg h1 h2 h3 h4 hpsi0 => by have h1 : u1 = _ := h1; subst u1; have h2 : u2 = _ := h2; subst u2; have h3 : u3 = _ := h3; subst u3; have h4 : u4 = _ := h4; subst u4; have hP := hpsi0.2; exact (yNum_ok c.nm hnm c.lo c.hi (x) hxt W (SA w S (b5_2 :: (bo :: (bm :: (bx :: (blks hd ++ [])))))) (SA w G (b5_2 :: (bo :: (bm :: (bx :: (blks hd ++ [])))))) _ _ bx lo _ hd L hL (fun b hb o h => h.2.2 (hmX b hb)) (D_dn.keeps hk (fun b o h hm => h.2.2 (hmR b hm))) (D_di.keeps hk (fun b o h hm => h.2.2 (hmR b hm))) hP.1 (row_inA hG hP.2 hmX) nb (Nat.le_trans hlo (Nat.le_trans kw.size hk.size)) (sa_cln hG)).mono fun e W' ⟨v, k1, k2, k3⟩ => ⟨v, k1, k2.mono (fun k h hm => h (List.mem_cons_of_mem _ (List.mem_cons_of_mem _ (hm)))), (rowR_I k3).1, ⟨hpsi0.1.1.keeps k2 (nin_boxA hn1 nb1), hpsi0.1.2.keeps k2 (nin_boxA hn2 nb2)⟩, W, hk.size, (rowR_I k3).2⟩) ?_
  refine .i (sp_eql (hlc rfl) (hlc rfl)) ?_
  refine .al rfl ?_
  refine .dn fun a17 g W17 y17 zz17 hk hg hV hR hP => ?_
  obtain ⟨e6, -, -, -, -, -, -, -, -, -, -, -, -, -, -, -, -, -, -⟩ := hV
  obtain ⟨hp1, hrw⟩ := hP
  have hMlt : ∀ b ∈ (b5_2 :: (bo :: (bm :: (bx :: (blks hd ++ []))))), b < W15.heap.size := (in_cons own_b5_2.lt (in_cons own_bo.lt (in_cons own_bm.lt (in_cons own_bx.lt (in_app A_ar.lt in_nil)))))
  obtain ⟨W1, hW1, v_17, hd_17, hphi, own_bx, A_17, nb_17, hf_17⟩ := hrw
  replace hf_17 : ∀ b ∈ blks hd_17, b ∈ blks hd ∨ W15.heap.size ≤ b := fun b hb => (hf_17 b hb).imp id (Nat.le_trans hW1)
  obtain ⟨v_17a, v_17n, v_17c, ev⟩ := arr_sl A_17; subst ev
  replace A_17 : Arr W17 lo 9 1 (SA w G (b5_2 :: (bo :: (bm :: (bx :: (blks hd_17 ++ [])))))) (List.map D.str (L ++ [c.nm])) (.slice v_17a v_17n v_17c) hd_17 := row_outA A_17 (Nat.le_trans kw.size hW1) (fun b hb => Nat.lt_of_lt_of_le (hMlt b hb) hW1) (fun b hb => by simp only [List.mem_cons, List.mem_append, List.not_mem_nil, or_false] at hb ⊢; rcases hb with h | h | h | h | h <;> simp [h])
  replace e6 := e6.q
  replace D_cn := sa_appL (M' := (b5_2 :: (bo :: (bm :: (bx :: (blks hd_17 ++ [])))))) D_cn hk hmR (rep_cons (rep_cons (rep_cons (rep_cons (rep_app hf_17 rep_nil)))))
  replace D_ci := sa_appL (M' := (b5_2 :: (bo :: (bm :: (bx :: (blks hd_17 ++ [])))))) D_ci hk hmR (rep_cons (rep_cons (rep_cons (rep_cons (rep_app hf_17 rep_nil)))))
  replace D_dn := sa_appL (M' := (b5_2 :: (bo :: (bm :: (bx :: (blks hd_17 ++ [])))))) D_dn hk hmR (rep_cons (rep_cons (rep_cons (rep_cons (rep_app hf_17 rep_nil)))))
  replace D_di := sa_appL (M' := (b5_2 :: (bo :: (bm :: (bx :: (blks hd_17 ++ [])))))) D_di hk hmR (rep_cons (rep_cons (rep_cons (rep_cons (rep_app hf_17 rep_nil)))))
  have nb_bo_17 : bo ∉ blks hd_17 := nb_new nb1 own_bo.lt hf_17
  have nb_bm_17 : bm ∉ blks hd_17 := nb_new nb2 own_bm.lt hf_17
  have nb_b5_2_17 : b5_2 ∉ blks hd_17 := nb_new nb_b5_2_ar own_b5_2.lt hf_17
  replace own_b5_2 := own_keepL own_b5_2 hk (by simp [ne_bo_b5_2.symm, ne_bm_b5_2.symm, ne_bx_b5_2.symm, nb_b5_2_ar])
  obtain ⟨own_bo, own_bm⟩ := hp1
  replace own_bo : Own W17 bo [(.int .u8 (x.k)), (.int .i64 (x.n)), (.string (x.t)), (.slice cna (x.ns.length) cnc), (.slice cia (x.xs.length) cic), (.map (some bm)), (.int .i64 (tkE x 0 c.nm (numE c.lo c.hi)))] 74 := own_bo
  replace own_bm : OwnM W17 bm (tkA x A 0 c.nm (numE c.lo c.hi)) := own_bm
  replace own_bx : Own W17 bx [(.int .u8 (x.k)), (.int .i64 (x.n)), (.string (x.t)), (.slice dna (x.ns.length) dnc), (.slice dia (x.xs.length) dic), (.slice v_17a v_17n v_17c), (.int .i64 (rnE x c.nm c.lo c.hi))] 56 := own_bx
  replace kw := keeps_L kw hk (fun b hb => .inr (fun hn => hn (by first | exact hb | (simp only [List.mem_cons, List.mem_append, List.not_mem_nil, or_false] at hb ⊢; rcases hb with h | h | h | h <;> simp [h]))))
  clear hmR hmX hR hk hg hMlt hW1 A_ar
  refine zn (hK16 _ _ ?_)
  refine wp_ret ?_
  refine ret1 rfl zz17 e6 ⟨_, rfl, kw, ?_⟩
  have own_bx : RowP 56 9 W17 lo bx (fun av => [(.int .u8 (x.k)), (.int .i64 (x.n)), (.string (x.t)), (.slice dna (x.ns.length) dnc), (.slice dia (x.xs.length) dic), av, (.int .i64 (rnE x c.nm c.lo c.hi))]) (L ++ [c.nm]) hd_17 := ⟨_, own_bx, arr_str A_17, nb_17⟩
  rw [hR, hE1, hA1, hE2, hL2]
  exact ⟨rfl, own_bo, own_bm, _, own_bx, fun b hb => (hf_17 b hb).imp id (Nat.le_trans hws)⟩
 have n2 : ¬ c.wh = 2 := by have := ne_of_beq_false hc; omega
 refine zq fun K18 hK18 => ?_
 refine rg mixed y15 zz15 ?_
 refine .i (sp_eql (hbs rfl e17) Has.cst) ?_
 refine .al rfl ?_
 refine .dn fun a19 g W19 y19 zz19 hk hg hV hR hP => ?_
 obtain ⟨e59, -, -⟩ := hV
 replace e0 := ft hR e0
 replace e1 := ft hR e1
 replace e5 := ft hR e5
 replace e17 := ft hR e17
 replace A_ar := A_ar.ext hk
 replace D_cn := D_cn.ext hk
 replace D_ci := D_ci.ext hk
 replace D_dn := D_dn.ext hk
 replace D_di := D_di.ext hk
 replace e59 := e59.q
 replace own_bo := own_bo.ext hk
 replace own_bm := own_bm.ext hk
 replace own_bx := own_bx.ext hk
 replace own_b5_2 := own_b5_2.ext hk
 replace kw := kw.x hk
 clear hR hk hg hP
 refine zn (hK18 _ _ ?_)
 refine zc e59 (fun hc => ?_) (fun hc => ?_)
 ·
  have hw : c.wh = 3 := by have := eq_of_beq hc; omega
  have hR : aR x 0 x c = ((if tkB x 0 c.nm boolE then boolV (getV x c.nm) else false) == ((rtV x c.nm 1).n == 1)) := by rw [aR, if_neg n0, if_neg n1, if_neg n2, if_pos hw]
  have hE1 : qE x 0 c = tkE x 0 c.nm boolE := by rw [qE, if_neg n0, if_neg n1, if_neg n2, if_pos hw]
  have hA1 : qA x A 0 c = tkA x A 0 c.nm boolE := by rw [qA, if_neg n0, if_neg n1, if_neg n2, if_pos hw]
  have hE2 : rqE x c = rtE x c.nm 1 := by rw [rqE, if_neg n0, if_neg n1, if_neg n2, if_pos hw]
  have hL2 : rqL c L = L ++ [c.nm] := by rw [rqL, if_neg n0, if_neg n1, if_neg n2, if_pos hw]
  refine zq fun K20 hK20 => ?_
  have hws : w.heap.size ≤ W19.heap.size := kw.size
  have hmR : ∀ b, b ∈ (bo :: bm :: bx :: (blks hd ++ [])) → b ∈ (b5_2 :: (bo :: (bm :: (bx :: (blks hd ++ []))))) := (fun b hb => by first | exact hb | (simp only [List.mem_cons, List.mem_append, List.not_mem_nil, or_false] at hb ⊢; rcases hb with h | h | h | h <;> simp [h]))
  have hmX : ∀ b, b ∈ (bx :: (blks hd ++ [])) → b ∈ (b5_2 :: (bo :: (bm :: (bx :: (blks hd ++ []))))) := (fun b hb => by first | exact hb | (simp only [List.mem_cons, List.mem_append, List.not_mem_nil, or_false] at hb ⊢; rcases hb with h | h <;> simp [h]))
  refine wp_reg (fun k => k ∉ (bo :: bm :: bx :: (blks hd ++ []))) (Ψ := fun W => (Own W bo [(.int .u8 (x.k)), (.int .i64 (x.n)), (.string (x.t)), (.slice cna (x.ns.length) cnc), (.slice cia (x.xs.length) cic), (.map (some bm)), (.int .i64 (0))] 74 ∧ OwnM W bm (A)) ∧ Own W bx [(.int .u8 (x.k)), (.int .i64 (x.n)), (.string (x.t)), (.slice dna (x.ns.length) dnc), (.slice dia (x.xs.length) dic), av, (.int .i64 (0))] 56 ∧ Arr W lo 9 1 (SA w G (b5_2 :: (bo :: (bm :: (bx :: (blks hd ++ [])))))) (List.map D.str (L)) av hd) mixed y19 zz19 (stE_and (stE_and stE_own stE_ownM) stE_boxR) ⟨⟨own_bo, own_bm⟩, own_bx, A_ar⟩ ?_
  refine .mb rfl e0 ?_
  refine .i (fo 1 (hbs rfl e5) Try.underlying54 rfl sz9 rfl) ?_
  refine .i (lo1 (hlc rfl) own_b5_2 (by simp [ne_bo_b5_2.symm, ne_bm_b5_2.symm, ne_bx_b5_2.symm, nb_b5_2_ar]) agg9 sz9 rfl) ?_
  refine .callL2 (φ1 := Is (.pointer (some ⟨bo, 0, none⟩))) (φ2 := Is (.string (c.nm))) (φ := Is (.bool (if tkB x 0 c.nm boolE then boolV (getV x c.nm) else false))) (Ψ' := fun W => (Own W bo [(.int .u8 (x.k)), (.int .i64 (x.n)), (.string (x.t)), (.slice cna (x.ns.length) cnc), (.slice cia (x.xs.length) cic), (.map (some bm)), (.int .i64 (tkE x 0 c.nm boolE))] 74 ∧ OwnM W bm (tkA x A 0 c.nm boolE)) ∧ Own W bx [(.int .u8 (x.k)), (.int .i64 (x.n)), (.string (x.t)), (.slice dna (x.ns.length) dnc), (.slice dia (x.xs.length) dic), av, (.int .i64 (0))] 56 ∧ Arr W lo 9 1 (SA w G (b5_2 :: (bo :: (bm :: (bx :: (blks hd ++ [])))))) (List.map D.str (L)) av hd) ent45 (hlc rfl) (hlc rfl) (st_is _) (stE_and (stE_and stE_own stE_ownM) stE_boxR) (fun g u1 u2 W hk hg h1 h2 hP => by have h1 : u1 = _ := h1; subst u1; have h2 : u2 = _ := h2; subst u2; have hq := hP.1; have hin : Calls _ _ _ W (fun ee W' => ∃ v, ee = .returned v ∧ Keeps (fun k => k ∉ [bo, bm]) W W' ∧ (Is (.bool (if tkB x 0 c.nm boolE then boolV (getV x c.nm) else false))) g v W' ∧ (Own W' bo [(.int .u8 (x.k)), (.int .i64 (x.n)), (.string (x.t)), (.slice cna (x.ns.length) cnc), (.slice cia (x.xs.length) cic), (.map (some bm)), (.int .i64 (tkE x 0 c.nm boolE))] 74 ∧ OwnM W' bm (tkA x A 0 c.nm boolE))) := (Bool_ok (x) (A) (0) hA hx hxt c.nm W _ _ _ _ _ (sa_cln hG) (sa_notin (by simp)) hne (sa_keepL D_cn hk hmR) (sa_keepL D_ci hk hmR) hq.1 hq.2); exact hin.mono fun ee W' ⟨v, k1, k2, k3, k4⟩ => ⟨v, k1, k2.mono (fun k h hm => h (by simp only [List.mem_cons, List.not_mem_nil, or_false] at hm; simp only [List.mem_cons]; rcases hm with hm | hm <;> simp [hm])), k3, k4, hP.2.1.keeps k2 (by simp [hn1.symm, hn2.symm]), arr_strK hP.2.2 k2 (fun b hb hm => by simp only [List.mem_cons, List.not_mem_nil, or_false] at hm; rcases hm with hm | hm <;> subst hm <;> first | exact nb1 hb | exact nb2 hb)⟩) ?_
  refine .mb rfl e1 ?_
  refine .i (fo 1 (hbs rfl e5) Try.underlying54 rfl sz9 rfl) ?_
  refine .i (lo1 (hlc rfl) own_b5_2 (by simp [ne_bo_b5_2.symm, ne_bm_b5_2.symm, ne_bx_b5_2.symm, nb_b5_2_ar]) agg9 sz9 rfl) ?_
  refine .callL2 (φ1 := Is (.pointer (some ⟨bx, 0, none⟩))) (φ2 := Is (.string (c.nm))) (φ := Is (.bool ((rtV x c.nm 1).n == 1))) (Ψ' := fun W => (Own W bo [(.int .u8 (x.k)), (.int .i64 (x.n)), (.string (x.t)), (.slice cna (x.ns.length) cnc), (.slice cia (x.xs.length) cic), (.map (some bm)), (.int .i64 (tkE x 0 c.nm boolE))] 74 ∧ OwnM W bm (tkA x A 0 c.nm boolE)) ∧ RowX 56 9 W19 W lo (SA w S (b5_2 :: (bo :: (bm :: (bx :: (blks hd ++ [])))))) (SA w G (b5_2 :: (bo :: (bm :: (bx :: (blks hd ++ [])))))) bx ((fun av => [(.int .u8 (x.k)), (.int .i64 (x.n)), (.string (x.t)), (.slice dna (x.ns.length) dnc), (.slice dia (x.xs.length) dic), av, (.int .i64 (rtE x c.nm 1))])) (L ++ [c.nm]) hd PhX undef) ent85 (hlc rfl) (hlc rfl) (st_is _) (stE_and (stE_and stE_own stE_ownM) stE_rowX) (fun g u1 u2 W hk hg h1 h2 hpsi0 => by have h1 : u1 = _ := h1; subst u1; have h2 : u2 = _ := h2; subst u2; have hP := hpsi0.2; exact (yBool_ok c.nm hnm  (x) hxt W (SA w S (b5_2 :: (bo :: (bm :: (bx :: (blks hd ++ [])))))) (SA w G (b5_2 :: (bo :: (bm :: (bx :: (blks hd ++ [])))))) _ _ bx lo _ hd L hL (fun b hb o h => h.2.2 (hmX b hb)) (D_dn.keeps hk (fun b o h hm => h.2.2 (hmR b hm))) (D_di.keeps hk (fun b o h hm => h.2.2 (hmR b hm))) hP.1 (row_inA hG hP.2 hmX) nb (Nat.le_trans hlo (Nat.le_trans kw.size hk.size)) (sa_cln hG)).mono fun e W' ⟨v, k1, k2, k3⟩ => ⟨v, k1, k2.mono (fun k h hm => h (List.mem_cons_of_mem _ (List.mem_cons_of_mem _ (hm)))), (rowR_I k3).1, ⟨hpsi0.1.1.keeps k2 (nin_boxA hn1 nb1), hpsi0.1.2.keeps k2 (nin_boxA hn2 nb2)⟩, W, hk.size, (rowR_I k3).2⟩) ?_
  refine .i (sp_bEql Try.underlying4 (hlc rfl) (hlc rfl)) ?_
  refine .al rfl ?_
  refine .dn fun a21 g W21 y21 zz21 hk hg hV hR hP => ?_
  obtain ⟨e6, -, -, -, -, -, -, -, -, -, -⟩ := hV
  obtain ⟨hp1, hrw⟩ := hP
  have hMlt : ∀ b ∈ (b5_2 :: (bo :: (bm :: (bx :: (blks hd ++ []))))), b < W19.heap.size := (in_cons own_b5_2.lt (in_cons own_bo.lt (in_cons own_bm.lt (in_cons own_bx.lt (in_app A_ar.lt in_nil)))))
  obtain ⟨W1, hW1, v_21, hd_21, hphi, own_bx, A_21, nb_21, hf_21⟩ := hrw
  replace hf_21 : ∀ b ∈ blks hd_21, b ∈ blks hd ∨ W19.heap.size ≤ b := fun b hb => (hf_21 b hb).imp id (Nat.le_trans hW1)
  obtain ⟨v_21a, v_21n, v_21c, ev⟩ := arr_sl A_21; subst ev
  replace A_21 : Arr W21 lo 9 1 (SA w G (b5_2 :: (bo :: (bm :: (bx :: (blks hd_21 ++ [])))))) (List.map D.str (L ++ [c.nm])) (.slice v_21a v_21n v_21c) hd_21 := row_outA A_21 (Nat.le_trans kw.size hW1) (fun b hb => Nat.lt_of_lt_of_le (hMlt b hb) hW1) (fun b hb => by simp only [List.mem_cons, List.mem_append, List.not_mem_nil, or_false] at hb ⊢; rcases hb with h | h | h | h | h <;> simp [h])
  replace e6 := e6.q
  replace D_cn := sa_appL (M' := (b5_2 :: (bo :: (bm :: (bx :: (blks hd_21 ++ [])))))) D_cn hk hmR (rep_cons (rep_cons (rep_cons (rep_cons (rep_app hf_21 rep_nil)))))
  replace D_ci := sa_appL (M' := (b5_2 :: (bo :: (bm :: (bx :: (blks hd_21 ++ [])))))) D_ci hk hmR (rep_cons (rep_cons (rep_cons (rep_cons (rep_app hf_21 rep_nil)))))
  replace D_dn := sa_appL (M' := (b5_2 :: (bo :: (bm :: (bx :: (blks hd_21 ++ [])))))) D_dn hk hmR (rep_cons (rep_cons (rep_cons (rep_cons (rep_app hf_21 rep_nil)))))
  replace D_di := sa_appL (M' := (b5_2 :: (bo :: (bm :: (bx :: (blks hd_21 ++ [])))))) D_di hk hmR (rep_cons (rep_cons (rep_cons (rep_cons (rep_app hf_21 rep_nil)))))
  have nb_bo_21 : bo ∉ blks hd_21 := nb_new nb1 own_bo.lt hf_21
  have nb_bm_21 : bm ∉ blks hd_21 := nb_new nb2 own_bm.lt hf_21
  have nb_b5_2_21 : b5_2 ∉ blks hd_21 := nb_new nb_b5_2_ar own_b5_2.lt hf_21
  replace own_b5_2 := own_keepL own_b5_2 hk (by simp [ne_bo_b5_2.symm, ne_bm_b5_2.symm, ne_bx_b5_2.symm, nb_b5_2_ar])
  obtain ⟨own_bo, own_bm⟩ := hp1
  replace own_bo : Own W21 bo [(.int .u8 (x.k)), (.int .i64 (x.n)), (.string (x.t)), (.slice cna (x.ns.length) cnc), (.slice cia (x.xs.length) cic), (.map (some bm)), (.int .i64 (tkE x 0 c.nm boolE))] 74 := own_bo
  replace own_bm : OwnM W21 bm (tkA x A 0 c.nm boolE) := own_bm
  replace own_bx : Own W21 bx [(.int .u8 (x.k)), (.int .i64 (x.n)), (.string (x.t)), (.slice dna (x.ns.length) dnc), (.slice dia (x.xs.length) dic), (.slice v_21a v_21n v_21c), (.int .i64 (rtE x c.nm 1))] 56 := own_bx
  replace kw := keeps_L kw hk (fun b hb => .inr (fun hn => hn (by first | exact hb | (simp only [List.mem_cons, List.mem_append, List.not_mem_nil, or_false] at hb ⊢; rcases hb with h | h | h | h <;> simp [h]))))
  clear hmR hmX hR hk hg hMlt hW1 A_ar
  refine zn (hK20 _ _ ?_)
  refine wp_ret ?_
  refine ret1 rfl zz21 e6 ⟨_, rfl, kw, ?_⟩
  have own_bx : RowP 56 9 W21 lo bx (fun av => [(.int .u8 (x.k)), (.int .i64 (x.n)), (.string (x.t)), (.slice dna (x.ns.length) dnc), (.slice dia (x.xs.length) dic), av, (.int .i64 (rtE x c.nm 1))]) (L ++ [c.nm]) hd_21 := ⟨_, own_bx, arr_str A_21, nb_21⟩
  rw [hR, hE1, hA1, hE2, hL2]
  exact ⟨rfl, own_bo, own_bm, _, own_bx, fun b hb => (hf_21 b hb).imp id (Nat.le_trans hws)⟩
 have n3 : ¬ c.wh = 3 := by have := ne_of_beq_false hc; omega
 refine zq fun K22 hK22 => ?_
 refine rg mixed y19 zz19 ?_
 refine .i (sp_eql (hbs rfl e17) Has.cst) ?_
 refine .al rfl ?_
 refine .dn fun a23 g W23 y23 zz23 hk hg hV hR hP => ?_
 obtain ⟨e70, -, -⟩ := hV
 replace e0 := ft hR e0
 replace e1 := ft hR e1
 replace e5 := ft hR e5
 replace e17 := ft hR e17
 replace A_ar := A_ar.ext hk
 replace D_cn := D_cn.ext hk
 replace D_ci := D_ci.ext hk
 replace D_dn := D_dn.ext hk
 replace D_di := D_di.ext hk
 replace e70 := e70.q
 replace own_bo := own_bo.ext hk
 replace own_bm := own_bm.ext hk
 replace own_bx := own_bx.ext hk
 replace own_b5_2 := own_b5_2.ext hk
 replace kw := kw.x hk
 clear hR hk hg hP
 refine zn (hK22 _ _ ?_)
 refine zc e70 (fun hc => ?_) (fun hc => ?_)
 ·
  have hw : c.wh = 4 := by have := eq_of_beq hc; omega
  have hR : aR x 0 x c = (V.beq (V.mk 0 0 ⟨#[]⟩ [] (if tkB x 0 c.nm (listE c.mo) then listV c.mo (getV x c.nm) else [])) (V.mk 0 0 ⟨#[]⟩ [] (rlL x c.nm c.mo))) := by rw [aR, if_neg n0, if_neg n1, if_neg n2, if_neg n3, if_pos hw]
  have hE1 : qE x 0 c = tkE x 0 c.nm (listE c.mo) := by rw [qE, if_neg n0, if_neg n1, if_neg n2, if_neg n3, if_pos hw]
  have hA1 : qA x A 0 c = tkA x A 0 c.nm (listE c.mo) := by rw [qA, if_neg n0, if_neg n1, if_neg n2, if_neg n3, if_pos hw]
  have hE2 : rqE x c = rlE x c.nm c.mo := by rw [rqE, if_neg n0, if_neg n1, if_neg n2, if_neg n3, if_pos hw]
  have hL2 : rqL c L = L ++ [c.nm] := by rw [rqL, if_neg n0, if_neg n1, if_neg n2, if_neg n3, if_pos hw]
  have hcb : (V.mk 0 0 ⟨#[]⟩ [] (if tkB x 0 c.nm (listE c.mo) then listV c.mo (getV x c.nm) else [])).cnt ≤ 1073741824 := Nat.le_trans (lst_cnt _ _ _) (Nat.le_trans (cnt_wt _) hwg)
  refine zq fun K24 hK24 => ?_
  refine wp_reg (fun k => k ∉ [bo, bm]) (Ψ := fun W => Own W bo [(.int .u8 (x.k)), (.int .i64 (x.n)), (.string (x.t)), (.slice cna (x.ns.length) cnc), (.slice cia (x.xs.length) cic), (.map (some bm)), (.int .i64 (0))] 74 ∧ OwnM W bm (A)) mixed y23 zz23 (stE_and stE_own stE_ownM) ⟨own_bo, own_bm⟩ ?_
  refine .mb rfl e0 ?_
  refine .i (fo 1 (hbs rfl e5) Try.underlying54 rfl sz9 rfl) ?_
  refine .i (lo1 (hlc rfl) own_b5_2 (by simp [ne_bo_b5_2.symm, ne_bm_b5_2.symm]) agg9 sz9 rfl) ?_
  refine .i (fo 4 (hbs rfl e5) Try.underlying54 rfl sz3 rfl) ?_
  refine .i (lo1 (hlc rfl) own_b5_2 (by simp [ne_bo_b5_2.symm, ne_bm_b5_2.symm]) agg3 sz3 rfl) ?_
  refine .callL3 (φ1 := Is (.pointer (some ⟨bo, 0, none⟩))) (φ2 := Is (.string (c.nm))) (φ3 := Is (.int .i64 (c.mo))) (φ := IsD (Fr W23) (valsD (if tkB x 0 c.nm (listE c.mo) then listV c.mo (getV x c.nm) else []))) (Ψ' := fun W => Own W bo [(.int .u8 (x.k)), (.int .i64 (x.n)), (.string (x.t)), (.slice cna (x.ns.length) cnc), (.slice cia (x.xs.length) cic), (.map (some bm)), (.int .i64 (tkE x 0 c.nm (listE c.mo)))] 74 ∧ OwnM W bm (tkA x A 0 c.nm (listE c.mo))) ent46 (hlc rfl) (hlc rfl) (hlc rfl) (st_d (sub_frnl (in_cons own_bo.lt (in_cons own_bm.lt in_nil)))) (stE_and stE_own stE_ownM) (fun g u1 u2 u3 W hk hg h1 h2 h3 hP => by have h1 : u1 = _ := h1; subst u1; have h2 : u2 = _ := h2; subst u2; have h3 : u3 = _ := h3; subst u3; exact (List_ok (x) (A) (0) hA hx hxt c.nm c.mo W _ _ _ _ _ (sa_cln hG) (sa_notin (by simp)) hne (sa_keepL D_cn hk (by simp)) (sa_keepL D_ci hk (by simp)) hP.1 hP.2).mono (fun _ _ ⟨v, h1, h2, h3, h4⟩ => ⟨v, h1, h2, fresh_d hk hg h3, h4⟩)) ?_
  refine .op (φ := IsD (Fr W23) (valsD (if tkB x 0 c.nm (listE c.mo) then listV c.mo (getV x c.nm) else []))) (st_d (sub_frnl (in_cons own_bo.lt (in_cons own_bm.lt in_nil)))) (sp_assign (hlc rfl)) ?_
  refine .dn fun a25 g W25 y25 zz25 hk hg hV hR hP => ?_
  obtain ⟨e7, -, -, -, -, -, -, -⟩ := hV
  replace e1 := ft hR e1
  replace e5 := ft hR e5
  obtain ⟨v7_25, ev⟩ : ∃ v, sl a25 7 = v := ⟨_, rfl⟩
  rw [ev] at e7
  have D_v7_25 : Rd W25 (SF w (b5_2 :: (bo :: (bm :: (bx :: (blks hd ++ [])))))) (valsD (if tkB x 0 c.nm (listE c.mo) then listV c.mo (getV x c.nm) else [])) v7_25 := fr_end (M := (b5_2 :: (bo :: (bm :: (bx :: (blks hd ++ [])))))) e7 kw [] in_nil (in_cons own_b5_2.lt (in_cons own_bo.lt (in_cons own_bm.lt (in_cons own_bx.lt (in_app A_ar.lt in_nil)))))
  replace e7 := ev; clear ev
  obtain ⟨v7_25a, v7_25c, ev, D2⟩ := rdVs_out D_v7_25
  subst ev; replace D_v7_25 := D2; clear D2
  replace D_cn := sa_keepL D_cn hk (by simp)
  replace D_ci := sa_keepL D_ci hk (by simp)
  replace D_dn := sa_keepL D_dn hk (by simp)
  replace D_di := sa_keepL D_di hk (by simp)
  replace own_bx := own_keepL own_bx hk (by simp [hn1.symm, hn2.symm])
  replace own_b5_2 := own_keepL own_b5_2 hk (by simp [ne_bo_b5_2.symm, ne_bm_b5_2.symm])
  obtain ⟨own_bo, own_bm⟩ := hP
  replace own_bo : Own W25 bo [(.int .u8 (x.k)), (.int .i64 (x.n)), (.string (x.t)), (.slice cna (x.ns.length) cnc), (.slice cia (x.xs.length) cic), (.map (some bm)), (.int .i64 (tkE x 0 c.nm (listE c.mo)))] 74 := own_bo
  replace own_bm : OwnM W25 bm (tkA x A 0 c.nm (listE c.mo)) := own_bm
  replace A_ar := arr_strK A_ar hk (fun b hb hm => by simp only [List.mem_cons, List.not_mem_nil, or_false] at hm; rcases hm with hm | hm <;> subst hm <;> first | exact nb1 hb | exact nb2 hb)
  replace kw := keeps_L kw hk (in_cons (.inr (by simp)) (in_cons (.inr (by simp)) in_nil))
  clear hR hk hg
  refine zn (hK24 _ _ ?_)
  refine zq fun K26 hK26 => ?_
  have hws : w.heap.size ≤ W25.heap.size := kw.size
  have hmR : ∀ b, b ∈ (bx :: (blks hd ++ [])) → b ∈ (b5_2 :: (bo :: (bm :: (bx :: (blks hd ++ []))))) := (fun b hb => by first | exact hb | (simp only [List.mem_cons, List.mem_append, List.not_mem_nil, or_false] at hb ⊢; rcases hb with h | h <;> simp [h]))
  refine wp_reg (fun k => k ∉ (bx :: (blks hd ++ []))) (Ψ := fun W => Own W bx [(.int .u8 (x.k)), (.int .i64 (x.n)), (.string (x.t)), (.slice dna (x.ns.length) dnc), (.slice dia (x.xs.length) dic), av, (.int .i64 (0))] 56 ∧ Arr W lo 9 1 (SA w G (b5_2 :: (bo :: (bm :: (bx :: (blks hd ++ [])))))) (List.map D.str (L)) av hd) mixed y25 zz25 stE_boxR ⟨own_bx, A_ar⟩ ?_
  refine .mb rfl e7 ?_
  refine .mb rfl e1 ?_
  refine .i (fo 1 (hbs rfl e5) Try.underlying54 rfl sz9 rfl) ?_
  refine .i (lo1 (hlc rfl) own_b5_2 (nin_boxA ne_bx_b5_2.symm nb_b5_2_ar) agg9 sz9 rfl) ?_
  refine .i (fo 4 (hbs rfl e5) Try.underlying54 rfl sz3 rfl) ?_
  refine .i (lo1 (hlc rfl) own_b5_2 (nin_boxA ne_bx_b5_2.symm nb_b5_2_ar) agg3 sz3 rfl) ?_
  refine .callZ3 (φ1 := Is (.pointer (some ⟨bx, 0, none⟩))) (φ2 := Is (.string (c.nm))) (φ3 := Is (.int .i64 (c.mo))) (φ := IsRow 56 9 W25 lo (SA w S (b5_2 :: (bo :: (bm :: (bx :: (blks hd ++ [])))))) (SA w G (b5_2 :: (bo :: (bm :: (bx :: (blks hd ++ [])))))) bx (fun av => [(.int .u8 (x.k)), (.int .i64 (x.n)), (.string (x.t)), (.slice dna (x.ns.length) dnc), (.slice dia (x.xs.length) dic), av, (.int .i64 (rlE x c.nm c.mo))]) (L ++ [c.nm]) hd (PhD (valsD (rlL x c.nm c.mo)))) ent87 (hlc rfl) (hlc rfl) (hlc rfl) (st_row stp_D) (fun g u1 u2 u3 W hk hg h1 h2 h3 hP => by have h1 : u1 = _ := h1; subst u1; have h2 : u2 = _ := h2; subst u2; have h3 : u3 = _ := h3; subst u3; exact (yList_ok c.nm hnm c.mo (x) hxt W (SA w S (b5_2 :: (bo :: (bm :: (bx :: (blks hd ++ [])))))) (SA w G (b5_2 :: (bo :: (bm :: (bx :: (blks hd ++ [])))))) _ _ bx lo _ hd L hL (fun b hb o h => h.2.2 (hmR b hb)) (D_dn.keeps hk (fun b o h hm => h.2.2 (hmR b hm))) (D_di.keeps hk (fun b o h hm => h.2.2 (hmR b hm))) hP.1 (row_inA hG hP.2 hmR) nb (Nat.le_trans hlo (Nat.le_trans kw.size hk.size)) (sa_cln hG)).mono fun e W' ⟨u, h1, h2, h3⟩ => ⟨u, h1, h2, W, hk.size, h3⟩) ?_
  refine .dn fun a27 g W27 y27 zz27 hk hg hV hR hP => ?_
  obtain ⟨e84, -, -, -, -, -, e78, -⟩ := hV
  replace e7 := ft hR e7
  have hMlt : ∀ b ∈ (b5_2 :: (bo :: (bm :: (bx :: (blks hd ++ []))))), b < W25.heap.size := (in_cons own_b5_2.lt (in_cons own_bo.lt (in_cons own_bm.lt (in_cons own_bx.lt (in_app A_ar.lt in_nil)))))
  obtain ⟨W1, hW1, v_27, hd_27, hphi, own_bx, A_27, nb_27, hf_27⟩ := e84
  replace hf_27 : ∀ b ∈ blks hd_27, b ∈ blks hd ∨ W25.heap.size ≤ b := fun b hb => (hf_27 b hb).imp id (Nat.le_trans hW1)
  obtain ⟨v_27a, v_27n, v_27c, ev⟩ := arr_sl A_27; subst ev
  replace A_27 : Arr W27 lo 9 1 (SA w G (b5_2 :: (bo :: (bm :: (bx :: (blks hd_27 ++ [])))))) (List.map D.str (L ++ [c.nm])) (.slice v_27a v_27n v_27c) hd_27 := row_outA A_27 (Nat.le_trans kw.size hW1) (fun b hb => Nat.lt_of_lt_of_le (hMlt b hb) hW1) (fun b hb => by simp only [List.mem_cons, List.mem_append, List.not_mem_nil, or_false] at hb ⊢; rcases hb with h | h | h | h | h <;> simp [h])
  obtain ⟨u84_27, ev⟩ : ∃ v, sl a27 84 = v := ⟨_, rfl⟩
  rw [ev] at hphi; have D_u84_27 := hphi; clear hphi; have e84 := ev; clear ev
  replace D_u84_27 : Rd W27 (SA w S (b5_2 :: (bo :: (bm :: (bx :: (blks hd_27 ++ [])))))) (valsD (rlL x c.nm c.mo)) u84_27 := rd_outA D_u84_27 (Nat.le_trans kw.size hW1) (fun b hb => Nat.lt_of_lt_of_le (hMlt b hb) hW1) (fun b hb => by simp only [List.mem_cons, List.mem_append, List.not_mem_nil, or_false] at hb ⊢; rcases hb with h | h | h | h | h <;> simp [h])
  obtain ⟨u84_27a, u84_27c, ev, D2⟩ := rdVs_out D_u84_27
  subst ev; replace D_u84_27 := D2; clear D2
  replace e78 := e78.q
  replace D_cn := sa_appL (M' := (b5_2 :: (bo :: (bm :: (bx :: (blks hd_27 ++ [])))))) D_cn hk hmR (rep_cons (rep_cons (rep_cons (rep_cons (rep_app hf_27 rep_nil)))))
  replace D_ci := sa_appL (M' := (b5_2 :: (bo :: (bm :: (bx :: (blks hd_27 ++ [])))))) D_ci hk hmR (rep_cons (rep_cons (rep_cons (rep_cons (rep_app hf_27 rep_nil)))))
  replace D_dn := sa_appL (M' := (b5_2 :: (bo :: (bm :: (bx :: (blks hd_27 ++ [])))))) D_dn hk hmR (rep_cons (rep_cons (rep_cons (rep_cons (rep_app hf_27 rep_nil)))))
  replace D_di := sa_appL (M' := (b5_2 :: (bo :: (bm :: (bx :: (blks hd_27 ++ [])))))) D_di hk hmR (rep_cons (rep_cons (rep_cons (rep_cons (rep_app hf_27 rep_nil)))))
  replace D_v7_25 := sf_appL (M' := (b5_2 :: (bo :: (bm :: (bx :: (blks hd_27 ++ [])))))) D_v7_25 hk hmR (rep_cons (rep_cons (rep_cons (rep_cons (rep_app hf_27 rep_nil)))))
  have nb_bo_27 : bo ∉ blks hd_27 := nb_new nb1 own_bo.lt hf_27
  replace own_bo := own_keepL own_bo hk (nin_boxA hn1 nb1)
  have nb_bm_27 : bm ∉ blks hd_27 := nb_new nb2 own_bm.lt hf_27
  replace own_bm := ownM_keepL own_bm hk (nin_boxA hn2 nb2)
  have nb_b5_2_27 : b5_2 ∉ blks hd_27 := nb_new nb_b5_2_ar own_b5_2.lt hf_27
  replace own_b5_2 := own_keepL own_b5_2 hk (nin_boxA ne_bx_b5_2.symm nb_b5_2_ar)
  replace own_bx : Own W27 bx [(.int .u8 (x.k)), (.int .i64 (x.n)), (.string (x.t)), (.slice dna (x.ns.length) dnc), (.slice dia (x.xs.length) dic), (.slice v_27a v_27n v_27c), (.int .i64 (rlE x c.nm c.mo))] 56 := own_bx
  replace kw := keeps_L kw hk (fun b hb => .inr (fun hn => hn (by first | exact hb | (simp only [List.mem_cons, List.mem_append, List.not_mem_nil, or_false] at hb ⊢; rcases hb with h | h <;> simp [h]))))
  clear hmR hR hk hg hMlt hW1 hP A_ar
  refine tail_reg 2 All y27 zz27 st_tr trivial rfl ?_
  refine .i (v := (.bool (V.beq (V.mk 0 0 ⟨#[]⟩ [] (if tkB x 0 c.nm (listE c.mo) then listV c.mo (getV x c.nm) else [])) (V.mk 0 0 ⟨#[]⟩ [] (rlL x c.nm c.mo))))) (sp_call2 (φ1 := IsD (SA w S (b5_2 :: (bo :: (bm :: (bx :: (blks hd_27 ++ [])))))) (valsD (if tkB x 0 c.nm (listE c.mo) then listV c.mo (getV x c.nm) else []))) (φ2 := IsD (SA w S (b5_2 :: (bo :: (bm :: (bx :: (blks hd_27 ++ [])))))) (valsD (rlL x c.nm c.mo))) ent86 (((hbs rfl e78).dat D_v7_25 sub_all).sup sf_in_sa) ((hbs rfl e84).dat D_u84_27 sub_all) (fun g u1 u2 W hk hgk h1 h2 => SameAll_ok (if tkB x 0 c.nm (listE c.mo) then listV c.mo (getV x c.nm) else []) (rlL x c.nm c.mo) hcb W _ _ _ (rd_u h1) (rd_u h2))) ?_
  refine .al rfl ?_
  refine .dn fun a28 g W28 y28 zz28 hk hg hV hR hP => ?_
  refine tail_nil ?_
  show runTail _ _ _ _ _ _
  obtain ⟨e8, -, -⟩ := hV
  replace e7 := ft hR e7
  replace A_27 := A_27.ext hk
  replace D_cn := D_cn.ext hk
  replace D_ci := D_ci.ext hk
  replace D_dn := D_dn.ext hk
  replace D_di := D_di.ext hk
  replace D_v7_25 := D_v7_25.ext hk
  replace D_u84_27 := D_u84_27.ext hk
  replace e8 := e8.q
  replace own_bo := own_bo.ext hk
  replace own_bm := own_bm.ext hk
  replace own_bx := own_bx.ext hk
  replace own_b5_2 := own_b5_2.ext hk
  replace kw := kw.x hk
  clear hR hk hg hP
  refine zn (hK26 _ _ ?_)
  refine zq fun K29 hK29 => ?_
  have own_bx : RowP 56 9 W28 lo bx (fun av => [(.int .u8 (x.k)), (.int .i64 (x.n)), (.string (x.t)), (.slice dna (x.ns.length) dnc), (.slice dia (x.xs.length) dic), av, (.int .i64 (rlE x c.nm c.mo))]) (L ++ [c.nm]) hd_27 := ⟨_, own_bx, arr_str A_27, nb_27⟩
  have hml := rd_len D_v7_25
  refine wp_reg (fun k => ¬ (fun b => w.heap.size ≤ b ∧ b ∉ (b5_2 :: (bo :: (bm :: (bx :: (blks hd_27 ++ [])))))) k) (Ψ := fun W => Rd W (ZB (fun b => w.heap.size ≤ b ∧ b ∉ (b5_2 :: (bo :: (bm :: (bx :: (blks hd_27 ++ []))))))) (valsD (if tkB x 0 c.nm (listE c.mo) then listV c.mo (getV x c.nm) else [])) (.slice v7_25a ((if tkB x 0 c.nm (listE c.mo) then listV c.mo (getV x c.nm) else []).length) v7_25c)) mixed y28 zz28 (fun W W' k h => h.ext k) (D_v7_25.mono (fun b o h _ => ⟨⟨h.1, h.2.2⟩, h.2.1⟩)) ?_
  refine .mb rfl e7 ?_
  refine .callL1 (φ1 := Is (.slice v7_25a ((if tkB x 0 c.nm (listE c.mo) then listV c.mo (getV x c.nm) else []).length) v7_25c)) (φ := Any) (Ψ' := Tr) ent88 (hlc rfl) st_any st_tr (fun g u1 W hk hg h1 hP => by have h1 : u1 = _ := h1; subst h1; exact (spoilD_ok _ (if tkB x 0 c.nm (listE c.mo) then listV c.mo (getV x c.nm) else []) (Nat.lt_succ_self _) _ _ _ _ W hml hP).mono fun e W' ⟨v, h2, h3⟩ => ⟨v, h2, h3.keeps, trivial, trivial⟩) ?_
  refine .dn fun a31 g W31 y31 zz31 hk hg hV hR hP => ?_
  replace e8 := ft hR e8
  replace kw := keeps_Z kw hk (fun b z => z.1)
  replace own_bo := own_bo.keeps hk (fun z => z.2 (by simp))
  replace own_bm := own_bm.keeps hk (fun z => z.2 (by simp))
  replace own_bx := own_bx.keeps hk (fun z => z.2 (by simp)) (fun b hb z => z.2 (by simp [hb]))
  clear hR hk hg hV hP
  refine zn (hK29 _ _ ?_)
  refine zq fun K32 hK32 => ?_
  refine rg mixed y31 zz31 ?_
  refine .mb rfl e8 ?_
  refine .al rfl ?_
  refine .dn fun a33 g W33 y33 zz33 hk hg hV hR hP => ?_
  obtain ⟨e6, -, -⟩ := hV
  replace e6 := e6.q
  replace own_bo := own_bo.ext hk
  replace own_bm := own_bm.ext hk
  replace own_bx := own_bx.ext hk
  replace kw := kw.x hk
  clear hR hk hg hP
  refine zn (hK32 _ _ ?_)
  refine wp_ret ?_
  refine ret1 rfl zz33 e6 ⟨_, rfl, kw, ?_⟩
  rw [hR, hE1, hA1, hE2, hL2]
  exact ⟨rfl, own_bo, own_bm, _, own_bx, fun b hb => (hf_27 b hb).imp id (Nat.le_trans hws)⟩
 have n4 : ¬ c.wh = 4 := by have := ne_of_beq_false hc; omega
 refine zq fun K34 hK34 => ?_
 refine rg mixed y23 zz23 ?_
 refine .i (sp_eql (hbs rfl e17) Has.cst) ?_
 refine .al rfl ?_
 refine .dn fun a35 g W35 y35 zz35 hk hg hV hR hP => ?_
 obtain ⟨e89, -, -⟩ := hV
 replace e0 := ft hR e0
 replace e1 := ft hR e1
 replace e5 := ft hR e5
 replace e17 := ft hR e17
 replace A_ar := A_ar.ext hk
 replace D_cn := D_cn.ext hk
 replace D_ci := D_ci.ext hk
 replace D_dn := D_dn.ext hk
 replace D_di := D_di.ext hk
 replace e89 := e89.q
 replace own_bo := own_bo.ext hk
 replace own_bm := own_bm.ext hk
 replace own_bx := own_bx.ext hk
 replace own_b5_2 := own_b5_2.ext hk
 replace kw := kw.x hk
 clear hR hk hg hP
 refine zn (hK34 _ _ ?_)
 refine zc e89 (fun hc => ?_) (fun hc => ?_)
 ·
  have hw : c.wh = 5 := by have := eq_of_beq hc; omega
  have hR : aR x 0 x c = (decide ((if tkB x 0 c.nm (textsE c.mo) then textsL c.mo (getV x c.nm) else []) = rxT (rlL x c.nm c.mo))) := by rw [aR, if_neg n0, if_neg n1, if_neg n2, if_neg n3, if_neg n4, if_pos hw]
  have hE1 : qE x 0 c = tkE x 0 c.nm (textsE c.mo) := by rw [qE, if_neg n0, if_neg n1, if_neg n2, if_neg n3, if_neg n4, if_pos hw]
  have hA1 : qA x A 0 c = tkA x A 0 c.nm (textsE c.mo) := by rw [qA, if_neg n0, if_neg n1, if_neg n2, if_neg n3, if_neg n4, if_pos hw]
  have hE2 : rqE x c = rxE x c.nm c.mo := by rw [rqE, if_neg n0, if_neg n1, if_neg n2, if_neg n3, if_neg n4, if_pos hw]
  have hL2 : rqL c L = L ++ [c.nm] := by rw [rqL, if_neg n0, if_neg n1, if_neg n2, if_neg n3, if_neg n4, if_pos hw]
  refine zq fun K36 hK36 => ?_
  refine wp_reg (fun k => k ∉ [bo, bm]) (Ψ := fun W => Own W bo [(.int .u8 (x.k)), (.int .i64 (x.n)), (.string (x.t)), (.slice cna (x.ns.length) cnc), (.slice cia (x.xs.length) cic), (.map (some bm)), (.int .i64 (0))] 74 ∧ OwnM W bm (A)) mixed y35 zz35 (stE_and stE_own stE_ownM) ⟨own_bo, own_bm⟩ ?_
  refine .mb rfl e0 ?_
  refine .i (fo 1 (hbs rfl e5) Try.underlying54 rfl sz9 rfl) ?_
  refine .i (lo1 (hlc rfl) own_b5_2 (by simp [ne_bo_b5_2.symm, ne_bm_b5_2.symm]) agg9 sz9 rfl) ?_
  refine .i (fo 4 (hbs rfl e5) Try.underlying54 rfl sz3 rfl) ?_
  refine .i (lo1 (hlc rfl) own_b5_2 (by simp [ne_bo_b5_2.symm, ne_bm_b5_2.symm]) agg3 sz3 rfl) ?_
  refine .callL3 (φ1 := Is (.pointer (some ⟨bo, 0, none⟩))) (φ2 := Is (.string (c.nm))) (φ3 := Is (.int .i64 (c.mo))) (φ := IsD (Fr W35) (strsD (if tkB x 0 c.nm (textsE c.mo) then textsL c.mo (getV x c.nm) else []))) (Ψ' := fun W => Own W bo [(.int .u8 (x.k)), (.int .i64 (x.n)), (.string (x.t)), (.slice cna (x.ns.length) cnc), (.slice cia (x.xs.length) cic), (.map (some bm)), (.int .i64 (tkE x 0 c.nm (textsE c.mo)))] 74 ∧ OwnM W bm (tkA x A 0 c.nm (textsE c.mo))) ent41 (hlc rfl) (hlc rfl) (hlc rfl) (st_d (sub_frnl (in_cons own_bo.lt (in_cons own_bm.lt in_nil)))) (stE_and stE_own stE_ownM) (fun g u1 u2 u3 W hk hg h1 h2 h3 hP => by have h1 : u1 = _ := h1; subst u1; have h2 : u2 = _ := h2; subst u2; have h3 : u3 = _ := h3; subst u3; exact (Texts_ok (x) (A) (0) hA hx hxt c.nm c.mo W _ _ _ _ _ (sa_cln hG) (sa_notin (by simp)) hne (sa_keepL D_cn hk (by simp)) (sa_keepL D_ci hk (by simp)) hP.1 hP.2).mono (fun _ _ ⟨v, h1, h2, h3, h4⟩ => ⟨v, h1, h2, fresh_d hk hg h3, h4⟩)) ?_
  refine .op (φ := IsD (Fr W35) (strsD (if tkB x 0 c.nm (textsE c.mo) then textsL c.mo (getV x c.nm) else []))) (st_d (sub_frnl (in_cons own_bo.lt (in_cons own_bm.lt in_nil)))) (sp_assign (hlc rfl)) ?_
  refine .dn fun a37 g W37 y37 zz37 hk hg hV hR hP => ?_
  obtain ⟨e9, -, -, -, -, -, -, -⟩ := hV
  replace e1 := ft hR e1
  replace e5 := ft hR e5
  obtain ⟨v9_37, ev⟩ : ∃ v, sl a37 9 = v := ⟨_, rfl⟩
  rw [ev] at e9
  have D_v9_37 : Rd W37 (SF w (b5_2 :: (bo :: (bm :: (bx :: (blks hd ++ [])))))) (strsD (if tkB x 0 c.nm (textsE c.mo) then textsL c.mo (getV x c.nm) else [])) v9_37 := fr_end (M := (b5_2 :: (bo :: (bm :: (bx :: (blks hd ++ [])))))) e9 kw [] in_nil (in_cons own_b5_2.lt (in_cons own_bo.lt (in_cons own_bm.lt (in_cons own_bx.lt (in_app A_ar.lt in_nil)))))
  replace e9 := ev; clear ev
  obtain ⟨v9_37a, v9_37c, ev, D2⟩ := rdS_out D_v9_37
  subst ev; replace D_v9_37 := D2; clear D2
  replace D_cn := sa_keepL D_cn hk (by simp)
  replace D_ci := sa_keepL D_ci hk (by simp)
  replace D_dn := sa_keepL D_dn hk (by simp)
  replace D_di := sa_keepL D_di hk (by simp)
  replace own_bx := own_keepL own_bx hk (by simp [hn1.symm, hn2.symm])
  replace own_b5_2 := own_keepL own_b5_2 hk (by simp [ne_bo_b5_2.symm, ne_bm_b5_2.symm])
  obtain ⟨own_bo, own_bm⟩ := hP
  replace own_bo : Own W37 bo [(.int .u8 (x.k)), (.int .i64 (x.n)), (.string (x.t)), (.slice cna (x.ns.length) cnc), (.slice cia (x.xs.length) cic), (.map (some bm)), (.int .i64 (tkE x 0 c.nm (textsE c.mo)))] 74 := own_bo
  replace own_bm : OwnM W37 bm (tkA x A 0 c.nm (textsE c.mo)) := own_bm
  replace A_ar := arr_strK A_ar hk (fun b hb hm => by simp only [List.mem_cons, List.not_mem_nil, or_false] at hm; rcases hm with hm | hm <;> subst hm <;> first | exact nb1 hb | exact nb2 hb)
  replace kw := keeps_L kw hk (in_cons (.inr (by simp)) (in_cons (.inr (by simp)) in_nil))
  clear hR hk hg
  refine zn (hK36 _ _ ?_)
  refine zq fun K38 hK38 => ?_
  have hws : w.heap.size ≤ W37.heap.size := kw.size
  have hmR : ∀ b, b ∈ (bx :: (blks hd ++ [])) → b ∈ (b5_2 :: (bo :: (bm :: (bx :: (blks hd ++ []))))) := (fun b hb => by first | exact hb | (simp only [List.mem_cons, List.mem_append, List.not_mem_nil, or_false] at hb ⊢; rcases hb with h | h <;> simp [h]))
  refine wp_reg (fun k => k ∉ (bx :: (blks hd ++ []))) (Ψ := fun W => Own W bx [(.int .u8 (x.k)), (.int .i64 (x.n)), (.string (x.t)), (.slice dna (x.ns.length) dnc), (.slice dia (x.xs.length) dic), av, (.int .i64 (0))] 56 ∧ Arr W lo 9 1 (SA w G (b5_2 :: (bo :: (bm :: (bx :: (blks hd ++ [])))))) (List.map D.str (L)) av hd) mixed y37 zz37 stE_boxR ⟨own_bx, A_ar⟩ ?_
  refine .mb rfl e9 ?_
  refine .mb rfl e1 ?_
  refine .i (fo 1 (hbs rfl e5) Try.underlying54 rfl sz9 rfl) ?_
  refine .i (lo1 (hlc rfl) own_b5_2 (nin_boxA ne_bx_b5_2.symm nb_b5_2_ar) agg9 sz9 rfl) ?_
  refine .i (fo 4 (hbs rfl e5) Try.underlying54 rfl sz3 rfl) ?_
  refine .i (lo1 (hlc rfl) own_b5_2 (nin_boxA ne_bx_b5_2.symm nb_b5_2_ar) agg3 sz3 rfl) ?_
  refine .callZ3 (φ1 := Is (.pointer (some ⟨bx, 0, none⟩))) (φ2 := Is (.string (c.nm))) (φ3 := Is (.int .i64 (c.mo))) (φ := IsRow 56 9 W37 lo (SA w S (b5_2 :: (bo :: (bm :: (bx :: (blks hd ++ [])))))) (SA w G (b5_2 :: (bo :: (bm :: (bx :: (blks hd ++ [])))))) bx (fun av => [(.int .u8 (x.k)), (.int .i64 (x.n)), (.string (x.t)), (.slice dna (x.ns.length) dnc), (.slice dia (x.xs.length) dic), av, (.int .i64 (rxE x c.nm c.mo))]) (L ++ [c.nm]) hd (PhD (strsD (rxT (rlL x c.nm c.mo))))) ent90 (hlc rfl) (hlc rfl) (hlc rfl) (st_row stp_D) (fun g u1 u2 u3 W hk hg h1 h2 h3 hP => by have h1 : u1 = _ := h1; subst u1; have h2 : u2 = _ := h2; subst u2; have h3 : u3 = _ := h3; subst u3; exact (yTexts_ok c.nm hnm c.mo (x) hxt W (SA w S (b5_2 :: (bo :: (bm :: (bx :: (blks hd ++ [])))))) (SA w G (b5_2 :: (bo :: (bm :: (bx :: (blks hd ++ [])))))) _ _ bx lo _ hd L hL (fun b hb o h => h.2.2 (hmR b hb)) (D_dn.keeps hk (fun b o h hm => h.2.2 (hmR b hm))) (D_di.keeps hk (fun b o h hm => h.2.2 (hmR b hm))) hP.1 (row_inA hG hP.2 hmR) nb (Nat.le_trans hlo (Nat.le_trans kw.size hk.size)) (sa_cln hG) hrl).mono fun e W' ⟨u, h1, h2, h3⟩ => ⟨u, h1, h2, W, hk.size, h3⟩) ?_
  refine .dn fun a39 g W39 y39 zz39 hk hg hV hR hP => ?_
  obtain ⟨e103, -, -, -, -, -, e97, -⟩ := hV
  replace e9 := ft hR e9
  have hMlt : ∀ b ∈ (b5_2 :: (bo :: (bm :: (bx :: (blks hd ++ []))))), b < W37.heap.size := (in_cons own_b5_2.lt (in_cons own_bo.lt (in_cons own_bm.lt (in_cons own_bx.lt (in_app A_ar.lt in_nil)))))
  obtain ⟨W1, hW1, v_39, hd_39, hphi, own_bx, A_39, nb_39, hf_39⟩ := e103
  replace hf_39 : ∀ b ∈ blks hd_39, b ∈ blks hd ∨ W37.heap.size ≤ b := fun b hb => (hf_39 b hb).imp id (Nat.le_trans hW1)
  obtain ⟨v_39a, v_39n, v_39c, ev⟩ := arr_sl A_39; subst ev
  replace A_39 : Arr W39 lo 9 1 (SA w G (b5_2 :: (bo :: (bm :: (bx :: (blks hd_39 ++ [])))))) (List.map D.str (L ++ [c.nm])) (.slice v_39a v_39n v_39c) hd_39 := row_outA A_39 (Nat.le_trans kw.size hW1) (fun b hb => Nat.lt_of_lt_of_le (hMlt b hb) hW1) (fun b hb => by simp only [List.mem_cons, List.mem_append, List.not_mem_nil, or_false] at hb ⊢; rcases hb with h | h | h | h | h <;> simp [h])
  obtain ⟨u103_39, ev⟩ : ∃ v, sl a39 103 = v := ⟨_, rfl⟩
  rw [ev] at hphi; have D_u103_39 := hphi; clear hphi; have e103 := ev; clear ev
  replace D_u103_39 : Rd W39 (SA w S (b5_2 :: (bo :: (bm :: (bx :: (blks hd_39 ++ [])))))) (strsD (rxT (rlL x c.nm c.mo))) u103_39 := rd_outA D_u103_39 (Nat.le_trans kw.size hW1) (fun b hb => Nat.lt_of_lt_of_le (hMlt b hb) hW1) (fun b hb => by simp only [List.mem_cons, List.mem_append, List.not_mem_nil, or_false] at hb ⊢; rcases hb with h | h | h | h | h <;> simp [h])
  obtain ⟨u103_39a, u103_39c, ev, D2⟩ := rdS_out D_u103_39
  subst ev; replace D_u103_39 := D2; clear D2
  replace e97 := e97.q
  replace D_cn := sa_appL (M' := (b5_2 :: (bo :: (bm :: (bx :: (blks hd_39 ++ [])))))) D_cn hk hmR (rep_cons (rep_cons (rep_cons (rep_cons (rep_app hf_39 rep_nil)))))
  replace D_ci := sa_appL (M' := (b5_2 :: (bo :: (bm :: (bx :: (blks hd_39 ++ [])))))) D_ci hk hmR (rep_cons (rep_cons (rep_cons (rep_cons (rep_app hf_39 rep_nil)))))
  replace D_dn := sa_appL (M' := (b5_2 :: (bo :: (bm :: (bx :: (blks hd_39 ++ [])))))) D_dn hk hmR (rep_cons (rep_cons (rep_cons (rep_cons (rep_app hf_39 rep_nil)))))
  replace D_di := sa_appL (M' := (b5_2 :: (bo :: (bm :: (bx :: (blks hd_39 ++ [])))))) D_di hk hmR (rep_cons (rep_cons (rep_cons (rep_cons (rep_app hf_39 rep_nil)))))
  replace D_v9_37 := sf_appL (M' := (b5_2 :: (bo :: (bm :: (bx :: (blks hd_39 ++ [])))))) D_v9_37 hk hmR (rep_cons (rep_cons (rep_cons (rep_cons (rep_app hf_39 rep_nil)))))
  have nb_bo_39 : bo ∉ blks hd_39 := nb_new nb1 own_bo.lt hf_39
  replace own_bo := own_keepL own_bo hk (nin_boxA hn1 nb1)
  have nb_bm_39 : bm ∉ blks hd_39 := nb_new nb2 own_bm.lt hf_39
  replace own_bm := ownM_keepL own_bm hk (nin_boxA hn2 nb2)
  have nb_b5_2_39 : b5_2 ∉ blks hd_39 := nb_new nb_b5_2_ar own_b5_2.lt hf_39
  replace own_b5_2 := own_keepL own_b5_2 hk (nin_boxA ne_bx_b5_2.symm nb_b5_2_ar)
  replace own_bx : Own W39 bx [(.int .u8 (x.k)), (.int .i64 (x.n)), (.string (x.t)), (.slice dna (x.ns.length) dnc), (.slice dia (x.xs.length) dic), (.slice v_39a v_39n v_39c), (.int .i64 (rxE x c.nm c.mo))] 56 := own_bx
  replace kw := keeps_L kw hk (fun b hb => .inr (fun hn => hn (by first | exact hb | (simp only [List.mem_cons, List.mem_append, List.not_mem_nil, or_false] at hb ⊢; rcases hb with h | h <;> simp [h]))))
  clear hmR hR hk hg hMlt hW1 hP A_ar
  refine tail_reg 2 All y39 zz39 st_tr trivial rfl ?_
  refine .i (v := (.bool (decide ((if tkB x 0 c.nm (textsE c.mo) then textsL c.mo (getV x c.nm) else []) = (rxT (rlL x c.nm c.mo)))))) (sp_call2 (φ1 := IsD (SA w S (b5_2 :: (bo :: (bm :: (bx :: (blks hd_39 ++ [])))))) (strsD (if tkB x 0 c.nm (textsE c.mo) then textsL c.mo (getV x c.nm) else []))) (φ2 := IsD (SA w S (b5_2 :: (bo :: (bm :: (bx :: (blks hd_39 ++ [])))))) (strsD (rxT (rlL x c.nm c.mo)))) ent89 (((hbs rfl e97).dat D_v9_37 sub_all).sup sf_in_sa) ((hbs rfl e103).dat D_u103_39 sub_all) (fun g u1 u2 W hk hgk h1 h2 => texts11_ok (if tkB x 0 c.nm (textsE c.mo) then textsL c.mo (getV x c.nm) else []) (rxT (rlL x c.nm c.mo)) W _ _ _ (rd_u h1) (rd_u h2))) ?_
  refine .al rfl ?_
  refine .dn fun a40 g W40 y40 zz40 hk hg hV hR hP => ?_
  refine tail_nil ?_
  show runTail _ _ _ _ _ _
  obtain ⟨e10, -, -⟩ := hV
  replace e9 := ft hR e9
  replace A_39 := A_39.ext hk
  replace D_cn := D_cn.ext hk
  replace D_ci := D_ci.ext hk
  replace D_dn := D_dn.ext hk
  replace D_di := D_di.ext hk
  replace D_v9_37 := D_v9_37.ext hk
  replace D_u103_39 := D_u103_39.ext hk
  replace e10 := e10.q
  replace own_bo := own_bo.ext hk
  replace own_bm := own_bm.ext hk
  replace own_bx := own_bx.ext hk
  replace own_b5_2 := own_b5_2.ext hk
  replace kw := kw.x hk
  clear hR hk hg hP
  refine zn (hK38 _ _ ?_)
  refine zq fun K41 hK41 => ?_
  refine zq fun K42 hK42 => ?_
  have own_bx : RowP 56 9 W40 lo bx (fun av => [(.int .u8 (x.k)), (.int .i64 (x.n)), (.string (x.t)), (.slice dna (x.ns.length) dnc), (.slice dia (x.xs.length) dic), av, (.int .i64 (rxE x c.nm c.mo))]) (L ++ [c.nm]) hd_39 := ⟨_, own_bx, arr_str A_39, nb_39⟩
  have hml : (if tkB x 0 c.nm (textsE c.mo) then textsL c.mo (getV x c.nm) else []).length ≤ maxLen := rd_lenS D_v9_37
  simp only [maxLen] at hml
  have A_l : ZRow W40 (fun b => w.heap.size ≤ b ∧ b ∉ (b5_2 :: (bo :: (bm :: (bx :: (blks hd_39 ++ [])))))) 1 (if tkB x 0 c.nm (textsE c.mo) then textsL c.mo (getV x c.nm) else []).length (.slice v9_37a ((if tkB x 0 c.nm (textsE c.mo) then textsL c.mo (getV x c.nm) else []).length) v9_37c) := by have h := zrow_of (ds := List.map D.str (if tkB x 0 c.nm (textsE c.mo) then textsL c.mo (getV x c.nm) else [])) (Z := (fun b => w.heap.size ≤ b ∧ b ∉ (b5_2 :: (bo :: (bm :: (bx :: (blks hd_39 ++ []))))))) D_v9_37 (fun b o h => ⟨⟨h.1, h.2.2⟩, h.2.1⟩) (fun d hd => by obtain ⟨q, -, rfl⟩ := List.mem_map.1 hd; rfl) (by decide); rwa [List.length_map] at h
  obtain ⟨nl, hnl⟩ : ∃ nl, nl = (if tkB x 0 c.nm (textsE c.mo) then textsL c.mo (getV x c.nm) else []).length := ⟨_, rfl⟩
  rw [← hnl] at A_l e9 hml
  refine rg mixed y40 zz40 ?_
  refine .ac ?_
  refine .dn fun a43 g W43 y43 zz43 hk hg hV hR hP => ?_
  obtain ⟨e11, -⟩ := hV
  replace e9 := ft hR e9
  replace e10 := ft hR e10
  replace e11 := e11.q
  replace own_bo := own_bo.ext hk
  replace own_bm := own_bm.ext hk
  replace own_bx := own_bx.ext hk
  replace A_l := A_l.ext hk
  replace kw := kw.x hk
  clear hR hk hg hP
  refine zn (hK42 _ _ ?_)
  refine wp_block ?_
  refine wp_for (nl) (fun k a W => a.tmps.size = 161 ∧ a.defers = [] ∧ Keeps (fun k => k ∉ (bo :: (bm :: (bx :: (blks hd ++ []))))) w W ∧ sl a 9 = (.slice v9_37a nl v9_37c) ∧ sl a 10 = (.bool (decide ((if tkB x 0 c.nm (textsE c.mo) then textsL c.mo (getV x c.nm) else []) = (rxT (rlL x c.nm c.mo))))) ∧ sl a 11 = (.int .i64 ((k : Nat))) ∧ Own W bo [(.int .u8 (x.k)), (.int .i64 (x.n)), (.string (x.t)), (.slice cna (x.ns.length) cnc), (.slice cia (x.xs.length) cic), (.map (some bm)), (.int .i64 (tkE x 0 c.nm (textsE c.mo)))] 74 ∧ OwnM W bm (tkA x A 0 c.nm (textsE c.mo)) ∧ RowP 56 9 W lo bx (fun av => [(.int .u8 (x.k)), (.int .i64 (x.n)), (.string (x.t)), (.slice dna (x.ns.length) dnc), (.slice dia (x.xs.length) dic), av, (.int .i64 (rxE x c.nm c.mo))]) (L ++ [c.nm]) hd_39 ∧ (ZRow W (fun b => w.heap.size ≤ b ∧ b ∉ (b5_2 :: (bo :: (bm :: (bx :: (blks hd_39 ++ [])))))) 1 nl (.slice v9_37a nl v9_37c))) ⟨y43, zz43, kw, e9, e10, (e11.trans (congrArg (Value.int .i64) (rfl))), own_bo, own_bm, own_bx, A_l⟩ ?_
  clear kw e9 e10 e11 own_bo own_bm own_bx A_l
  rintro k a44 W44 hkk ⟨y44, zz44, kw, e9, e10, e11, own_bo, own_bm, own_bx, A_l⟩
  refine zq fun K45 hK45 => ?_
  refine zq fun K46 hK46 => ?_
  refine rg mixed y44 zz44 ?_
  refine .mb rfl e11 ?_
  refine .mb rfl e9 ?_
  refine .i (sp_lenV Try.underlying23 (hlc rfl)) ?_
  refine .i (sp_lss (hlc rfl) (hlc rfl)) ?_
  refine .dn fun a47 g W47 y47 zz47 hk hg hV hR hP => ?_
  obtain ⟨e108, -, -, -, -⟩ := hV
  replace e9 := ft hR e9
  replace e10 := ft hR e10
  replace e11 := ft hR e11
  replace e108 := e108.q
  replace own_bo := own_bo.ext hk
  replace own_bm := own_bm.ext hk
  replace own_bx := own_bx.ext hk
  replace A_l := A_l.ext hk
  replace kw := kw.x hk
  clear hR hk hg hP
  refine zn (hK46 _ _ ?_)
  refine zc e108 (fun hc => ?_) (fun hc => ?_)
  ·
   have hlt : k < nl := by simpa using hc
   obtain ⟨g0, o0, hva⟩ := zrow_some A_l hlt
   refine wp_skip (hK45 _ _ ?_)
   refine zq fun K48 hK48 => ?_
   refine wp_block ?_
   refine rg mixed y47 zz47 ?_
   refine .mb rfl e9 ?_
   refine .mb rfl e11 ?_
   refine .i (v := (.pointer (some ⟨g0, o0 + k * 1, none⟩))) (sp_indexRowO (i := k) (hlc rfl) (hlc rfl) Try.underlying23 sz9 hva rfl hlt) ?_
   refine .dn fun a49 g W49 y49 zz49 hk hg hV hR hP => ?_
   obtain ⟨e113, -, -, -⟩ := hV
   replace e9 := ft hR e9
   replace e10 := ft hR e10
   replace e11 := ft hR e11
   have e113 : sl a49 113 = (.pointer (some ⟨g0, o0 + k * 1, none⟩)) := e113
   replace own_bo := own_bo.ext hk
   replace own_bm := own_bm.ext hk
   replace own_bx := own_bx.ext hk
   replace A_l := A_l.ext hk
   replace kw := kw.x hk
   clear hR hk hg hP
   refine tail_storeZ (i := k) e113 rfl sz9 rfl (all_cons rfl all_nil) A_l hva hlt (fun W50 hs hng A_new => ?_)
   replace A_l := A_new; clear A_new
   replace own_bo := own_store own_bo hs (fun e => hng.2 (by rw [← e]; simp))
   replace own_bm := ownM_store own_bm hs (fun e => hng.2 (by rw [← e]; simp))
   replace own_bx := rowP_store own_bx hs ⟨fun e => hng.2 (by rw [← e]; simp), fun b hb e => hng.2 (by rw [← e]; simp [hb])⟩
   replace kw := keeps_store kw hs hng.1
   clear hs hng
   refine zn (hK48 _ _ ?_)
   refine rg mixed y49 zz49 ?_
   refine .mb rfl e11 ?_
   refine .i (sp_add (hlc rfl) Has.cst (i64_in (by omega))) ?_
   refine .al rfl ?_
   refine .dn fun a51 g W51 y51 zz51 hk hg hV hR hP => ?_
   obtain ⟨e11, -, -, -⟩ := hV
   replace e9 := ft hR e9
   replace e10 := ft hR e10
   replace e11 := e11.q
   replace own_bo := own_bo.ext hk
   replace own_bm := own_bm.ext hk
   replace own_bx := own_bx.ext hk
   replace A_l := A_l.ext hk
   replace kw := kw.x hk
   clear hR hk hg hP
   exact tail_nil ⟨hlt, y51, zz51, kw, e9, e10, (e11.trans (congrArg (Value.int .i64) (by simp))), own_bo, own_bm, own_bx, A_l⟩
  have hge0 : ¬ k < nl := by simpa using hc
  have hge : k = nl := by omega
  refine wp_exit (hK41 _ _ ?_)
  refine zq fun K52 hK52 => ?_
  refine rg mixed y47 zz47 ?_
  refine .mb rfl e10 ?_
  refine .al rfl ?_
  refine .dn fun a53 g W53 y53 zz53 hk hg hV hR hP => ?_
  obtain ⟨e6, -, -⟩ := hV
  replace e6 := e6.q
  replace own_bo := own_bo.ext hk
  replace own_bm := own_bm.ext hk
  replace own_bx := own_bx.ext hk
  replace A_l := A_l.ext hk
  replace kw := kw.x hk
  clear hR hk hg hP
  refine zn (hK52 _ _ ?_)
  refine wp_ret ?_
  refine ret1 rfl zz53 e6 ⟨_, rfl, kw, ?_⟩
  rw [hR, hE1, hA1, hE2, hL2]
  exact ⟨rfl, own_bo, own_bm, _, own_bx, fun b hb => (hf_39 b hb).imp id (Nat.le_trans hws)⟩
 have n5 : ¬ c.wh = 5 := by have := ne_of_beq_false hc; omega
 refine zq fun K54 hK54 => ?_
 refine rg mixed y35 zz35 ?_
 refine .i (sp_eql (hbs rfl e17) Has.cst) ?_
 refine .al rfl ?_
 refine .dn fun a55 g W55 y55 zz55 hk hg hV hR hP => ?_
 obtain ⟨e115, -, -⟩ := hV
 replace e0 := ft hR e0
 replace e1 := ft hR e1
 replace e5 := ft hR e5
 replace e17 := ft hR e17
 replace A_ar := A_ar.ext hk
 replace D_cn := D_cn.ext hk
 replace D_ci := D_ci.ext hk
 replace D_dn := D_dn.ext hk
 replace D_di := D_di.ext hk
 replace e115 := e115.q
 replace own_bo := own_bo.ext hk
 replace own_bm := own_bm.ext hk
 replace own_bx := own_bx.ext hk
 replace own_b5_2 := own_b5_2.ext hk
 replace kw := kw.x hk
 clear hR hk hg hP
 refine zn (hK54 _ _ ?_)
 refine zc e115 (fun hc => ?_) (fun hc => ?_)
 ·
  have hw : c.wh = 6 := by have := eq_of_beq hc; omega
  have hR : aR x 0 x c = (V.beq (if tkB x 0 c.nm (obE c.mo) then obV c.mo (getV x c.nm) else ⟨0, 0, ⟨#[]⟩, [], []⟩) (roV x c.nm c.mo)) := by rw [aR, if_neg n0, if_neg n1, if_neg n2, if_neg n3, if_neg n4, if_neg n5, if_pos hw]
  have hE1 : qE x 0 c = tkE x 0 c.nm (obE c.mo) := by rw [qE, if_neg n0, if_neg n1, if_neg n2, if_neg n3, if_neg n4, if_neg n5, if_pos hw]
  have hA1 : qA x A 0 c = tkA x A 0 c.nm (obE c.mo) := by rw [qA, if_neg n0, if_neg n1, if_neg n2, if_neg n3, if_neg n4, if_neg n5, if_pos hw]
  have hE2 : rqE x c = roE x c.nm c.mo := by rw [rqE, if_neg n0, if_neg n1, if_neg n2, if_neg n3, if_neg n4, if_neg n5, if_pos hw]
  have hL2 : rqL c L = L ++ [c.nm] := by rw [rqL, if_neg n0, if_neg n1, if_neg n2, if_neg n3, if_neg n4, if_neg n5, if_pos hw]
  have hcb : (if tkB x 0 c.nm (obE c.mo) then obV c.mo (getV x c.nm) else ⟨0, 0, ⟨#[]⟩, [], []⟩).cnt ≤ 1073741824 := by split; exact Nat.le_trans (cnt_wt _) (Nat.le_trans (obV_wt _ _) hwg); exact Nat.le_of_ble_eq_true (by kernel_rfl)
  refine zq fun K56 hK56 => ?_
  refine wp_reg (fun k => k ∉ [bo, bm]) (Ψ := fun W => Own W bo [(.int .u8 (x.k)), (.int .i64 (x.n)), (.string (x.t)), (.slice cna (x.ns.length) cnc), (.slice cia (x.xs.length) cic), (.map (some bm)), (.int .i64 (0))] 74 ∧ OwnM W bm (A)) mixed y55 zz55 (stE_and stE_own stE_ownM) ⟨own_bo, own_bm⟩ ?_
  refine .mb rfl e0 ?_
  refine .i (fo 1 (hbs rfl e5) Try.underlying54 rfl sz9 rfl) ?_
  refine .i (lo1 (hlc rfl) own_b5_2 (by simp [ne_bo_b5_2.symm, ne_bm_b5_2.symm]) agg9 sz9 rfl) ?_
  refine .i (fo 4 (hbs rfl e5) Try.underlying54 rfl sz3 rfl) ?_
  refine .i (lo1 (hlc rfl) own_b5_2 (by simp [ne_bo_b5_2.symm, ne_bm_b5_2.symm]) agg3 sz3 rfl) ?_
  refine .callL3 (φ1 := Is (.pointer (some ⟨bo, 0, none⟩))) (φ2 := Is (.string (c.nm))) (φ3 := Is (.int .i64 (c.mo))) (φ := IsD (Fr W55) (V.d (tkO x c))) (Ψ' := fun W => Own W bo [(.int .u8 (x.k)), (.int .i64 (x.n)), (.string (x.t)), (.slice cna (x.ns.length) cnc), (.slice cia (x.xs.length) cic), (.map (some bm)), (.int .i64 (tkE x 0 c.nm (obE c.mo)))] 74 ∧ OwnM W bm (tkA x A 0 c.nm (obE c.mo))) ent47 (hlc rfl) (hlc rfl) (hlc rfl) (st_d (sub_frnl (in_cons own_bo.lt (in_cons own_bm.lt in_nil)))) (stE_and stE_own stE_ownM) (fun g u1 u2 u3 W hk hg h1 h2 h3 hP => by have h1 : u1 = _ := h1; subst u1; have h2 : u2 = _ := h2; subst u2; have h3 : u3 = _ := h3; subst u3; exact (Object_ok (x) (A) (0) hA hx hxt c.nm c.mo W _ _ _ _ _ (sa_cln hG) (sa_notin (by simp)) hne (sa_keepL D_cn hk (by simp)) (sa_keepL D_ci hk (by simp)) hP.1 hP.2).mono (fun _ _ ⟨v, h1, h2, h3, h4⟩ => ⟨v, h1, h2, fresh_d hk hg h3, h4⟩)) ?_
  refine .dn fun a57 g W57 y57 zz57 hk hg hV hR hP => ?_
  obtain ⟨e122, -, -, -, -, -, -⟩ := hV
  replace e1 := ft hR e1
  replace e5 := ft hR e5
  obtain ⟨v122_57, ev⟩ : ∃ v, sl a57 122 = v := ⟨_, rfl⟩
  rw [ev] at e122
  have D_v122_57 : Rd W57 (SF w (b5_2 :: (bo :: (bm :: (bx :: (blks hd ++ [])))))) (V.d (tkO x c)) v122_57 := fr_end (M := (b5_2 :: (bo :: (bm :: (bx :: (blks hd ++ [])))))) e122 kw [] in_nil (in_cons own_b5_2.lt (in_cons own_bo.lt (in_cons own_bm.lt (in_cons own_bx.lt (in_app A_ar.lt in_nil)))))
  replace e122 := ev; clear ev
  obtain ⟨cn122_57a, cn122_57c, ci122_57a, ci122_57c, ev, ht_v122_57, D_cn122_57, D_ci122_57⟩ := rdV_out D_v122_57
  subst ev; clear D_v122_57
  replace D_cn := sa_keepL D_cn hk (by simp)
  replace D_ci := sa_keepL D_ci hk (by simp)
  replace D_dn := sa_keepL D_dn hk (by simp)
  replace D_di := sa_keepL D_di hk (by simp)
  replace own_bx := own_keepL own_bx hk (by simp [hn1.symm, hn2.symm])
  replace own_b5_2 := own_keepL own_b5_2 hk (by simp [ne_bo_b5_2.symm, ne_bm_b5_2.symm])
  obtain ⟨own_bo, own_bm⟩ := hP
  replace own_bo : Own W57 bo [(.int .u8 (x.k)), (.int .i64 (x.n)), (.string (x.t)), (.slice cna (x.ns.length) cnc), (.slice cia (x.xs.length) cic), (.map (some bm)), (.int .i64 (tkE x 0 c.nm (obE c.mo)))] 74 := own_bo
  replace own_bm : OwnM W57 bm (tkA x A 0 c.nm (obE c.mo)) := own_bm
  replace A_ar := arr_strK A_ar hk (fun b hb hm => by simp only [List.mem_cons, List.not_mem_nil, or_false] at hm; rcases hm with hm | hm <;> subst hm <;> first | exact nb1 hb | exact nb2 hb)
  replace kw := keeps_L kw hk (in_cons (.inr (by simp)) (in_cons (.inr (by simp)) in_nil))
  clear hR hk hg
  refine tail_reg 1 All y57 zz57 st_tr trivial rfl ?_
  refine .alloc z33 ?_
  refine .dn fun a58 g W58 y58 zz58 hk hg hV hR hP => ?_
  refine tail_nil ?_
  show runTail _ _ _ _ _ _
  obtain ⟨⟨b12_58, e12, hb12, own_b12_58⟩, -⟩ := hV
  have lo_b12_58 : w.heap.size ≤ b12_58 := Nat.le_trans kw.size (hg.lo _ _ hb12)
  have ne_bo_b12_58 : bo ≠ b12_58 := Nat.ne_of_lt (Nat.lt_of_lt_of_le own_bo.lt (hg.lo _ _ hb12))
  have ne_bm_b12_58 : bm ≠ b12_58 := Nat.ne_of_lt (Nat.lt_of_lt_of_le own_bm.lt (hg.lo _ _ hb12))
  have ne_bx_b12_58 : bx ≠ b12_58 := Nat.ne_of_lt (Nat.lt_of_lt_of_le own_bx.lt (hg.lo _ _ hb12))
  have ne_b5_2_b12_58 : b5_2 ≠ b12_58 := Nat.ne_of_lt (Nat.lt_of_lt_of_le own_b5_2.lt (hg.lo _ _ hb12))
  have own_b12_58 : Own W58 b12_58 z5C 33 := own_b12_58
  replace e1 := ft hR e1
  replace e5 := ft hR e5
  replace e122 := ft hR e122
  have nb_b12_58_ar : b12_58 ∉ blks hd := nb_lt A_ar.lt (hg.lo _ _ hb12)
  replace A_ar : Arr W58 lo 9 1 (SA w G (b12_58 :: (b5_2 :: (bo :: (bm :: (bx :: (blks hd ++ []))))))) (List.map D.str (L)) av hd := arrA_more A_ar hk [b12_58] (in_cons (hg.lo _ _ hb12) in_nil)
  replace D_cn : Rd W58 (SA w G (b12_58 :: (b5_2 :: (bo :: (bm :: (bx :: (blks hd ++ []))))))) (strsD (x.ns)) (.slice cna (x.ns.length) cnc) := sa_more D_cn hk [b12_58] (in_cons (hg.lo _ _ hb12) in_nil)
  replace D_ci : Rd W58 (SA w G (b12_58 :: (b5_2 :: (bo :: (bm :: (bx :: (blks hd ++ []))))))) (valsD (x.xs)) (.slice cia (x.xs.length) cic) := sa_more D_ci hk [b12_58] (in_cons (hg.lo _ _ hb12) in_nil)
  replace D_dn : Rd W58 (SA w S (b12_58 :: (b5_2 :: (bo :: (bm :: (bx :: (blks hd ++ []))))))) (strsD (x.ns)) (.slice dna (x.ns.length) dnc) := sa_more D_dn hk [b12_58] (in_cons (hg.lo _ _ hb12) in_nil)
  replace D_di : Rd W58 (SA w S (b12_58 :: (b5_2 :: (bo :: (bm :: (bx :: (blks hd ++ []))))))) (valsD (x.xs)) (.slice dia (x.xs.length) dic) := sa_more D_di hk [b12_58] (in_cons (hg.lo _ _ hb12) in_nil)
  replace D_cn122_57 : Rd W58 (SF w (b12_58 :: (b5_2 :: (bo :: (bm :: (bx :: (blks hd ++ []))))))) (strsD ((tkO x c).ns)) (.slice cn122_57a (((tkO x c).ns).length) cn122_57c) := sf_more D_cn122_57 hk [b12_58] (in_cons (hg.lo _ _ hb12) in_nil)
  replace D_ci122_57 : Rd W58 (SF w (b12_58 :: (b5_2 :: (bo :: (bm :: (bx :: (blks hd ++ []))))))) (valsD ((tkO x c).xs)) (.slice ci122_57a (((tkO x c).xs).length) ci122_57c) := sf_more D_ci122_57 hk [b12_58] (in_cons (hg.lo _ _ hb12) in_nil)
  replace own_bo := own_bo.ext hk
  replace own_bm := own_bm.ext hk
  replace own_bx := own_bx.ext hk
  replace own_b5_2 := own_b5_2.ext hk
  replace kw := kw.x hk
  clear hR hk hg hP hb12
  refine tail_store e12 e122 sz33 rfl own_b12_58 (lbr rfl) (all_cons rfl (all_cons rfl (all_cons rfl (all_cons rfl (all_cons rfl all_nil))))) (fun W59 hs own_b12_58 => ?_)
  have own_b12_58 : Own W59 b12_58 [(.int .u8 ((tkO x c).k)), (.int .i64 ((tkO x c).n)), (.string ((tkO x c).t)), (.slice cn122_57a (((tkO x c).ns).length) cn122_57c), (.slice ci122_57a (((tkO x c).xs).length) ci122_57c)] 33 := own_b12_58
  replace own_bo := own_store own_bo hs ne_bo_b12_58
  replace own_bm := ownM_store own_bm hs ne_bm_b12_58
  replace own_bx := own_store own_bx hs ne_bx_b12_58
  replace own_b5_2 := own_store own_b5_2 hs ne_b5_2_b12_58
  replace D_cn := sa_store D_cn hs (by simp)
  replace D_ci := sa_store D_ci hs (by simp)
  replace D_dn := sa_store D_dn hs (by simp)
  replace D_di := sa_store D_di hs (by simp)
  replace D_cn122_57 := sf_store D_cn122_57 hs (by simp)
  replace D_ci122_57 := sf_store D_ci122_57 hs (by simp)
  replace A_ar := arrA_store A_ar hs (by simp) nb_b12_58_ar
  replace kw := keeps_store kw hs lo_b12_58
  clear hs
  refine zn (hK56 _ _ ?_)
  refine zq fun K60 hK60 => ?_
  have hws : w.heap.size ≤ W59.heap.size := kw.size
  have hmR : ∀ b, b ∈ (bx :: (blks hd ++ [])) → b ∈ (b12_58 :: (b5_2 :: (bo :: (bm :: (bx :: (blks hd ++ [])))))) := (fun b hb => by first | exact hb | (simp only [List.mem_cons, List.mem_append, List.not_mem_nil, or_false] at hb ⊢; rcases hb with h | h <;> simp [h]))
  refine wp_reg2 (fun k => k ∉ (bx :: (blks hd ++ []))) (Ψ := fun W => Own W bx [(.int .u8 (x.k)), (.int .i64 (x.n)), (.string (x.t)), (.slice dna (x.ns.length) dnc), (.slice dia (x.xs.length) dic), av, (.int .i64 (0))] 56 ∧ Arr W lo 9 1 (SA w G (b12_58 :: (b5_2 :: (bo :: (bm :: (bx :: (blks hd ++ []))))))) (List.map D.str (L)) av hd) mixed y58 zz58 stE_boxR ⟨own_bx, A_ar⟩ ?_
  refine .i (v := (.agg #[(.int .u8 ((tkO x c).k)), (.int .i64 ((tkO x c).n)), (.string ((tkO x c).t)), (.slice cn122_57a (((tkO x c).ns).length) cn122_57c), (.slice ci122_57a (((tkO x c).xs).length) ci122_57c)])) (loA (hbs rfl e12) own_b12_58 (nin_boxA ne_bx_b12_58.symm nb_b12_58_ar) agg33 sz33 rfl rfl) ?_
  refine .mb rfl e1 ?_
  refine .i (fo 1 (hbs rfl e5) Try.underlying54 rfl sz9 rfl) ?_
  refine .i (lo1 (hlc rfl) own_b5_2 (nin_boxA ne_bx_b5_2.symm nb_b5_2_ar) agg9 sz9 rfl) ?_
  refine .i (fo 4 (hbs rfl e5) Try.underlying54 rfl sz3 rfl) ?_
  refine .i (lo1 (hlc rfl) own_b5_2 (nin_boxA ne_bx_b5_2.symm nb_b5_2_ar) agg3 sz3 rfl) ?_
  refine .callZ3 (φ1 := Is (.pointer (some ⟨bx, 0, none⟩))) (φ2 := Is (.string (c.nm))) (φ3 := Is (.int .i64 (c.mo))) (φ := IsRow 56 9 W59 lo (SA w S (b12_58 :: (b5_2 :: (bo :: (bm :: (bx :: (blks hd ++ []))))))) (SA w G (b12_58 :: (b5_2 :: (bo :: (bm :: (bx :: (blks hd ++ []))))))) bx (fun av => [(.int .u8 (x.k)), (.int .i64 (x.n)), (.string (x.t)), (.slice dna (x.ns.length) dnc), (.slice dia (x.xs.length) dic), av, (.int .i64 (roE x c.nm c.mo))]) (L ++ [c.nm]) hd (PhD (V.d (roV x c.nm c.mo)))) ent91 (hlc rfl) (hlc rfl) (hlc rfl) (st_row stp_D) (fun g u1 u2 u3 W hk hg h1 h2 h3 hP => by have h1 : u1 = _ := h1; subst u1; have h2 : u2 = _ := h2; subst u2; have h3 : u3 = _ := h3; subst u3; exact (yObject_ok c.nm hnm c.mo (x) hxt W (SA w S (b12_58 :: (b5_2 :: (bo :: (bm :: (bx :: (blks hd ++ []))))))) (SA w G (b12_58 :: (b5_2 :: (bo :: (bm :: (bx :: (blks hd ++ []))))))) _ _ bx lo _ hd L hL (fun b hb o h => h.2.2 (hmR b hb)) (D_dn.keeps hk (fun b o h hm => h.2.2 (hmR b hm))) (D_di.keeps hk (fun b o h hm => h.2.2 (hmR b hm))) hP.1 (row_inA hG hP.2 hmR) nb (Nat.le_trans hlo (Nat.le_trans kw.size hk.size)) (sa_cln hG)).mono fun e W' ⟨u, h1, h2, h3⟩ => ⟨u, h1, h2, W, hk.size, h3⟩) ?_
  refine .done ⟨by kernel_rfl, by kernel_rfl, fun a61 g W61 y61 zz61 hk hg hV hR hP => ?_⟩
  obtain ⟨e129, -, -, -, -, -, e123, -⟩ := hV
  replace e12 := ft hR e12
  have hMlt : ∀ b ∈ (b12_58 :: (b5_2 :: (bo :: (bm :: (bx :: (blks hd ++ [])))))), b < W59.heap.size := (in_cons own_b12_58.lt (in_cons own_b5_2.lt (in_cons own_bo.lt (in_cons own_bm.lt (in_cons own_bx.lt (in_app A_ar.lt in_nil))))))
  obtain ⟨W1, hW1, v_61, hd_61, hphi, own_bx, A_61, nb_61, hf_61⟩ := e129
  replace hf_61 : ∀ b ∈ blks hd_61, b ∈ blks hd ∨ W59.heap.size ≤ b := fun b hb => (hf_61 b hb).imp id (Nat.le_trans hW1)
  obtain ⟨v_61a, v_61n, v_61c, ev⟩ := arr_sl A_61; subst ev
  replace A_61 : Arr W61 lo 9 1 (SA w G (b12_58 :: (b5_2 :: (bo :: (bm :: (bx :: (blks hd_61 ++ []))))))) (List.map D.str (L ++ [c.nm])) (.slice v_61a v_61n v_61c) hd_61 := row_outA A_61 (Nat.le_trans kw.size hW1) (fun b hb => Nat.lt_of_lt_of_le (hMlt b hb) hW1) (fun b hb => by simp only [List.mem_cons, List.mem_append, List.not_mem_nil, or_false] at hb ⊢; rcases hb with h | h | h | h | h | h <;> simp [h])
  obtain ⟨u129_61, ev⟩ : ∃ v, sl a61 129 = v := ⟨_, rfl⟩
  rw [ev] at hphi; have D_u129_61 := hphi; clear hphi; have e129 := ev; clear ev
  replace D_u129_61 : Rd W61 (SA w S (b12_58 :: (b5_2 :: (bo :: (bm :: (bx :: (blks hd_61 ++ []))))))) (V.d (roV x c.nm c.mo)) u129_61 := rd_outA D_u129_61 (Nat.le_trans kw.size hW1) (fun b hb => Nat.lt_of_lt_of_le (hMlt b hb) hW1) (fun b hb => by simp only [List.mem_cons, List.mem_append, List.not_mem_nil, or_false] at hb ⊢; rcases hb with h | h | h | h | h | h <;> simp [h])
  obtain ⟨cn129_61a, cn129_61c, ci129_61a, ci129_61c, ev, ht_u129_61, D_cn129_61, D_ci129_61⟩ := rdV_out D_u129_61
  subst ev; clear D_u129_61
  replace e123 := e123.q
  replace D_cn := sa_appL (M' := (b12_58 :: (b5_2 :: (bo :: (bm :: (bx :: (blks hd_61 ++ []))))))) D_cn hk hmR (rep_cons (rep_cons (rep_cons (rep_cons (rep_cons (rep_app hf_61 rep_nil))))))
  replace D_ci := sa_appL (M' := (b12_58 :: (b5_2 :: (bo :: (bm :: (bx :: (blks hd_61 ++ []))))))) D_ci hk hmR (rep_cons (rep_cons (rep_cons (rep_cons (rep_cons (rep_app hf_61 rep_nil))))))
  replace D_dn := sa_appL (M' := (b12_58 :: (b5_2 :: (bo :: (bm :: (bx :: (blks hd_61 ++ []))))))) D_dn hk hmR (rep_cons (rep_cons (rep_cons (rep_cons (rep_cons (rep_app hf_61 rep_nil))))))
  replace D_di := sa_appL (M' := (b12_58 :: (b5_2 :: (bo :: (bm :: (bx :: (blks hd_61 ++ []))))))) D_di hk hmR (rep_cons (rep_cons (rep_cons (rep_cons (rep_cons (rep_app hf_61 rep_nil))))))
  replace D_cn122_57 := sf_appL (M' := (b12_58 :: (b5_2 :: (bo :: (bm :: (bx :: (blks hd_61 ++ []))))))) D_cn122_57 hk hmR (rep_cons (rep_cons (rep_cons (rep_cons (rep_cons (rep_app hf_61 rep_nil))))))
  replace D_ci122_57 := sf_appL (M' := (b12_58 :: (b5_2 :: (bo :: (bm :: (bx :: (blks hd_61 ++ []))))))) D_ci122_57 hk hmR (rep_cons (rep_cons (rep_cons (rep_cons (rep_cons (rep_app hf_61 rep_nil))))))
  have nb_bo_61 : bo ∉ blks hd_61 := nb_new nb1 own_bo.lt hf_61
  replace own_bo := own_keepL own_bo hk (nin_boxA hn1 nb1)
  have nb_bm_61 : bm ∉ blks hd_61 := nb_new nb2 own_bm.lt hf_61
  replace own_bm := ownM_keepL own_bm hk (nin_boxA hn2 nb2)
  have nb_b5_2_61 : b5_2 ∉ blks hd_61 := nb_new nb_b5_2_ar own_b5_2.lt hf_61
  replace own_b5_2 := own_keepL own_b5_2 hk (nin_boxA ne_bx_b5_2.symm nb_b5_2_ar)
  have nb_b12_58_61 : b12_58 ∉ blks hd_61 := nb_new nb_b12_58_ar own_b12_58.lt hf_61
  replace own_b12_58 := own_keepL own_b12_58 hk (nin_boxA ne_bx_b12_58.symm nb_b12_58_ar)
  replace own_bx : Own W61 bx [(.int .u8 (x.k)), (.int .i64 (x.n)), (.string (x.t)), (.slice dna (x.ns.length) dnc), (.slice dia (x.xs.length) dic), (.slice v_61a v_61n v_61c), (.int .i64 (roE x c.nm c.mo))] 56 := own_bx
  replace kw := keeps_L kw hk (fun b hb => .inr (fun hn => hn (by first | exact hb | (simp only [List.mem_cons, List.mem_append, List.not_mem_nil, or_false] at hb ⊢; rcases hb with h | h <;> simp [h]))))
  clear hmR hR hk hg hMlt hW1 hP A_ar
  simp only [shiftR, shiftO, List.length_cons, List.length_nil, Nat.reduceAdd, List.drop_succ_cons, List.drop_zero, List.map_cons, List.map_nil, Option.map_some, Option.map_none, Nat.reduceSub]
  refine reg_any All y61 zz61 st_tr trivial ?_
  refine .i (v := (.bool (V.beq (tkO x c) (roV x c.nm c.mo)))) (sp_call2 (φ1 := IsD (SA w S (b12_58 :: (b5_2 :: (bo :: (bm :: (bx :: (blks hd_61 ++ []))))))) (V.d (tkO x c))) (φ2 := IsD (SA w S (b12_58 :: (b5_2 :: (bo :: (bm :: (bx :: (blks hd_61 ++ []))))))) (V.d ((roV x c.nm c.mo)))) ent34 (((hbs rfl e123).dat (rdV_in (x := (tkO x c)) ht_v122_57 D_cn122_57 D_ci122_57 : Rd W61 (SF w (b12_58 :: (b5_2 :: (bo :: (bm :: (bx :: (blks hd_61 ++ []))))))) (V.d (tkO x c)) _) sub_all).sup sf_in_sa) ((hbs rfl e129).dat (rdV_in (x := (roV x c.nm c.mo)) ht_u129_61 D_cn129_61 D_ci129_61 : Rd W61 (SA w S (b12_58 :: (b5_2 :: (bo :: (bm :: (bx :: (blks hd_61 ++ []))))))) (V.d ((roV x c.nm c.mo))) _) sub_all) (fun g u1 u2 W hk hgk h1 h2 => refSame_all _ (tkO x c) ((roV x c.nm c.mo)) (Nat.le_refl _) hcb W _ _ _ (rd_u h1) (rd_u h2))) ?_
  refine .al rfl ?_
  refine .dn fun a62 g W62 y62 zz62 hk hg hV hR hP => ?_
  obtain ⟨e13, -, -⟩ := hV
  replace e12 := ft hR e12
  replace A_61 := A_61.ext hk
  replace D_cn := D_cn.ext hk
  replace D_ci := D_ci.ext hk
  replace D_dn := D_dn.ext hk
  replace D_di := D_di.ext hk
  replace D_cn122_57 := D_cn122_57.ext hk
  replace D_ci122_57 := D_ci122_57.ext hk
  replace D_cn129_61 := D_cn129_61.ext hk
  replace D_ci129_61 := D_ci129_61.ext hk
  replace e13 := e13.q
  replace own_bo := own_bo.ext hk
  replace own_bm := own_bm.ext hk
  replace own_bx := own_bx.ext hk
  replace own_b5_2 := own_b5_2.ext hk
  replace own_b12_58 := own_b12_58.ext hk
  replace kw := kw.x hk
  clear hR hk hg hP
  refine zn (hK60 _ _ ?_)
  refine zq fun K63 hK63 => ?_
  refine rg mixed y62 zz62 ?_
  refine .i (v := (.agg #[(.int .u8 ((tkO x c).k)), (.int .i64 ((tkO x c).n)), (.string ((tkO x c).t)), (.slice cn122_57a (((tkO x c).ns).length) cn122_57c), (.slice ci122_57a (((tkO x c).xs).length) ci122_57c)])) (loA (hbs rfl e12) own_b12_58 trivial agg33 sz33 rfl rfl) ?_
  refine .da (X := SF w (b12_58 :: (b5_2 :: (bo :: (bm :: (bx :: (blks hd_61 ++ []))))))) (e := valsD ([(tkO x c)])) (sp_bsl (ds := [V.d (tkO x c)]) Try.underlying31 sz33 z33 (lbr rfl) (lbr rfl) ⟨rfl, ((hlc rfl).dat (rdV_in (x := (tkO x c)) ht_v122_57 D_cn122_57 D_ci122_57 : Rd W62 (SF w (b12_58 :: (b5_2 :: (bo :: (bm :: (bx :: (blks hd_61 ++ []))))))) (V.d (tkO x c)) _) sub_all), trivial⟩ rfl (by intro e he; simp at he; rcases he with rfl <;> exact width_V _) (fr_sf kw (in_cons own_b12_58.lt (in_cons own_b5_2.lt (in_cons own_bo.lt (in_cons own_bm.lt (in_cons own_bx.lt (in_app A_61.lt in_nil)))))))) ?_
  refine .dn fun a64 g W64 y64 zz64 hk hg hV hR hP => ?_
  obtain ⟨e132, -, -⟩ := hV
  replace e13 := ft hR e13
  have hMx : ∀ b ∈ (b12_58 :: (b5_2 :: (bo :: (bm :: (bx :: (blks hd_61 ++ [])))))), b < W62.heap.size := (in_cons own_b12_58.lt (in_cons own_b5_2.lt (in_cons own_bo.lt (in_cons own_bm.lt (in_cons own_bx.lt (in_app A_61.lt in_nil))))))
  replace A_61 := A_61.ext hk
  replace D_cn := D_cn.ext hk
  replace D_ci := D_ci.ext hk
  replace D_dn := D_dn.ext hk
  replace D_di := D_di.ext hk
  replace D_cn122_57 := D_cn122_57.ext hk
  replace D_ci122_57 := D_ci122_57.ext hk
  obtain ⟨v132_64, ev⟩ : ∃ v, sl a64 132 = v := ⟨_, rfl⟩
  rw [ev] at e132
  have D_v132_64 : Rd W64 (SF w (b12_58 :: (b5_2 :: (bo :: (bm :: (bx :: (blks hd_61 ++ []))))))) (valsD ([(tkO x c)])) v132_64 := sf_end e132 hk [] in_nil
  replace e132 := ev; clear ev
  obtain ⟨v132_64a, v132_64c, ev, D2⟩ := rdVs_out D_v132_64
  subst ev; replace D_v132_64 := D2; clear D2
  replace own_bo := own_bo.ext hk
  replace own_bm := own_bm.ext hk
  replace own_bx := own_bx.ext hk
  replace own_b5_2 := own_b5_2.ext hk
  replace own_b12_58 := own_b12_58.ext hk
  replace kw := kw.x hk
  clear hR hk hg hP
  have own_bx : RowP 56 9 W64 lo bx (fun av => [(.int .u8 (x.k)), (.int .i64 (x.n)), (.string (x.t)), (.slice dna (x.ns.length) dnc), (.slice dia (x.xs.length) dic), av, (.int .i64 (roE x c.nm c.mo))]) (L ++ [c.nm]) hd_61 := ⟨_, own_bx, arr_str A_61, nb_61⟩
  have hml := rd_len D_v132_64
  refine tail_reg 1 (fun k => ¬ (fun b => w.heap.size ≤ b ∧ b ∉ (b12_58 :: (b5_2 :: (bo :: (bm :: (bx :: (blks hd_61 ++ []))))))) k) (Ψ := fun W => Rd W (ZB (fun b => w.heap.size ≤ b ∧ b ∉ (b12_58 :: (b5_2 :: (bo :: (bm :: (bx :: (blks hd_61 ++ [])))))))) (valsD ([(tkO x c)])) (.slice v132_64a (([(tkO x c)]).length) v132_64c)) y64 zz64 (fun W W' k h => h.ext k) (D_v132_64.mono (fun b o h _ => ⟨⟨h.1, h.2.2⟩, h.2.1⟩)) rfl ?_
  refine .callL1 (φ1 := Is (.slice v132_64a (([(tkO x c)]).length) v132_64c)) (φ := Any) (Ψ' := Tr) ent88 (hbs rfl e132) st_any st_tr (fun g u1 W hk hg h1 hP => by have h1 : u1 = _ := h1; subst h1; exact (spoilD_ok _ ([(tkO x c)]) (Nat.lt_succ_self _) _ _ _ _ W hml hP).mono fun e W' ⟨v, h2, h3⟩ => ⟨v, h2, h3.keeps, trivial, trivial⟩) ?_
  refine .dn fun a66 g W66 y66 zz66 hk hg hV hR hP => ?_
  refine tail_nil ?_
  show runTail _ _ _ _ _ _
  replace e13 := ft hR e13
  replace kw := keeps_Z kw hk (fun b z => z.1)
  replace own_bo := own_bo.keeps hk (fun z => z.2 (by simp))
  replace own_bm := own_bm.keeps hk (fun z => z.2 (by simp))
  replace own_bx := own_bx.keeps hk (fun z => z.2 (by simp)) (fun b hb z => z.2 (by simp [hb]))
  clear hR hk hg hV hP
  refine zn (hK63 _ _ ?_)
  refine zq fun K67 hK67 => ?_
  refine rg mixed y66 zz66 ?_
  refine .mb rfl e13 ?_
  refine .al rfl ?_
  refine .dn fun a68 g W68 y68 zz68 hk hg hV hR hP => ?_
  obtain ⟨e6, -, -⟩ := hV
  replace e6 := e6.q
  replace own_bo := own_bo.ext hk
  replace own_bm := own_bm.ext hk
  replace own_bx := own_bx.ext hk
  replace kw := kw.x hk
  clear hR hk hg hP
  refine zn (hK67 _ _ ?_)
  refine wp_ret ?_
  refine ret1 rfl zz68 e6 ⟨_, rfl, kw, ?_⟩
  rw [hR, hE1, hA1, hE2, hL2]
  exact ⟨rfl, own_bo, own_bm, _, own_bx, fun b hb => (hf_61 b hb).imp id (Nat.le_trans hws)⟩
 have n6 : ¬ c.wh = 6 := by have := ne_of_beq_false hc; omega
 refine zq fun K69 hK69 => ?_
 refine rg mixed y55 zz55 ?_
 refine .i (sp_eql (hbs rfl e17) Has.cst) ?_
 refine .al rfl ?_
 refine .dn fun a70 g W70 y70 zz70 hk hg hV hR hP => ?_
 obtain ⟨e135, -, -⟩ := hV
 replace e0 := ft hR e0
 replace e1 := ft hR e1
 replace e5 := ft hR e5
 replace e17 := ft hR e17
 replace A_ar := A_ar.ext hk
 replace D_cn := D_cn.ext hk
 replace D_ci := D_ci.ext hk
 replace D_dn := D_dn.ext hk
 replace D_di := D_di.ext hk
 replace e135 := e135.q
 replace own_bo := own_bo.ext hk
 replace own_bm := own_bm.ext hk
 replace own_bx := own_bx.ext hk
 replace own_b5_2 := own_b5_2.ext hk
 replace kw := kw.x hk
 clear hR hk hg hP
 refine zn (hK69 _ _ ?_)
 refine zc e135 (fun hc => ?_) (fun hc => ?_)
 ·
  have hw : c.wh = 7 := by have := eq_of_beq hc; omega
  have hR : aR x 0 x c = (V.beq (if tkB x 0 c.nm anyE then getV x c.nm else ⟨0, 0, ⟨#[]⟩, [], []⟩) (rtV x c.nm 0)) := by rw [aR, if_neg n0, if_neg n1, if_neg n2, if_neg n3, if_neg n4, if_neg n5, if_neg n6, if_pos hw]
  have hE1 : qE x 0 c = tkE x 0 c.nm anyE := by rw [qE, if_neg n0, if_neg n1, if_neg n2, if_neg n3, if_neg n4, if_neg n5, if_neg n6, if_pos hw]
  have hA1 : qA x A 0 c = tkA x A 0 c.nm anyE := by rw [qA, if_neg n0, if_neg n1, if_neg n2, if_neg n3, if_neg n4, if_neg n5, if_neg n6, if_pos hw]
  have hE2 : rqE x c = rtE x c.nm 0 := by rw [rqE, if_neg n0, if_neg n1, if_neg n2, if_neg n3, if_neg n4, if_neg n5, if_neg n6, if_pos hw]
  have hL2 : rqL c L = L ++ [c.nm] := by rw [rqL, if_neg n0, if_neg n1, if_neg n2, if_neg n3, if_neg n4, if_neg n5, if_neg n6, if_pos hw]
  have hcb : (if tkB x 0 c.nm anyE then getV x c.nm else ⟨0, 0, ⟨#[]⟩, [], []⟩).cnt ≤ 1073741824 := by split; exact Nat.le_trans (cnt_wt _) hwg; exact Nat.le_of_ble_eq_true (by kernel_rfl)
  refine zq fun K71 hK71 => ?_
  refine wp_reg (fun k => k ∉ [bo, bm]) (Ψ := fun W => Own W bo [(.int .u8 (x.k)), (.int .i64 (x.n)), (.string (x.t)), (.slice cna (x.ns.length) cnc), (.slice cia (x.xs.length) cic), (.map (some bm)), (.int .i64 (0))] 74 ∧ OwnM W bm (A)) mixed y70 zz70 (stE_and stE_own stE_ownM) ⟨own_bo, own_bm⟩ ?_
  refine .mb rfl e0 ?_
  refine .i (fo 1 (hbs rfl e5) Try.underlying54 rfl sz9 rfl) ?_
  refine .i (lo1 (hlc rfl) own_b5_2 (by simp [ne_bo_b5_2.symm, ne_bm_b5_2.symm]) agg9 sz9 rfl) ?_
  refine .callL2 (φ1 := Is (.pointer (some ⟨bo, 0, none⟩))) (φ2 := Is (.string (c.nm))) (φ := IsD (Fr W70) (V.d (tkN x c))) (Ψ' := fun W => Own W bo [(.int .u8 (x.k)), (.int .i64 (x.n)), (.string (x.t)), (.slice cna (x.ns.length) cnc), (.slice cia (x.xs.length) cic), (.map (some bm)), (.int .i64 (tkE x 0 c.nm anyE))] 74 ∧ OwnM W bm (tkA x A 0 c.nm anyE)) ent48 (hlc rfl) (hlc rfl) (st_d (sub_frnl (in_cons own_bo.lt (in_cons own_bm.lt in_nil)))) (stE_and stE_own stE_ownM) (fun g u1 u2 W hk hg h1 h2 hP => by have h1 : u1 = _ := h1; subst u1; have h2 : u2 = _ := h2; subst u2; exact (Any_ok (x) (A) (0) hA hx hxt c.nm W _ _ _ _ _ (sa_cln hG) (sa_notin (by simp)) hne (sa_keepL D_cn hk (by simp)) (sa_keepL D_ci hk (by simp)) hP.1 hP.2).mono (fun _ _ ⟨v, h1, h2, h3, h4⟩ => ⟨v, h1, h2, fresh_d hk hg h3, h4⟩)) ?_
  refine .dn fun a72 g W72 y72 zz72 hk hg hV hR hP => ?_
  obtain ⟨e140, -, -, -, -⟩ := hV
  replace e1 := ft hR e1
  replace e5 := ft hR e5
  obtain ⟨v140_72, ev⟩ : ∃ v, sl a72 140 = v := ⟨_, rfl⟩
  rw [ev] at e140
  have D_v140_72 : Rd W72 (SF w (b5_2 :: (bo :: (bm :: (bx :: (blks hd ++ [])))))) (V.d (tkN x c)) v140_72 := fr_end (M := (b5_2 :: (bo :: (bm :: (bx :: (blks hd ++ [])))))) e140 kw [] in_nil (in_cons own_b5_2.lt (in_cons own_bo.lt (in_cons own_bm.lt (in_cons own_bx.lt (in_app A_ar.lt in_nil)))))
  replace e140 := ev; clear ev
  obtain ⟨cn140_72a, cn140_72c, ci140_72a, ci140_72c, ev, ht_v140_72, D_cn140_72, D_ci140_72⟩ := rdV_out D_v140_72
  subst ev; clear D_v140_72
  replace D_cn := sa_keepL D_cn hk (by simp)
  replace D_ci := sa_keepL D_ci hk (by simp)
  replace D_dn := sa_keepL D_dn hk (by simp)
  replace D_di := sa_keepL D_di hk (by simp)
  replace own_bx := own_keepL own_bx hk (by simp [hn1.symm, hn2.symm])
  replace own_b5_2 := own_keepL own_b5_2 hk (by simp [ne_bo_b5_2.symm, ne_bm_b5_2.symm])
  obtain ⟨own_bo, own_bm⟩ := hP
  replace own_bo : Own W72 bo [(.int .u8 (x.k)), (.int .i64 (x.n)), (.string (x.t)), (.slice cna (x.ns.length) cnc), (.slice cia (x.xs.length) cic), (.map (some bm)), (.int .i64 (tkE x 0 c.nm anyE))] 74 := own_bo
  replace own_bm : OwnM W72 bm (tkA x A 0 c.nm anyE) := own_bm
  replace A_ar := arr_strK A_ar hk (fun b hb hm => by simp only [List.mem_cons, List.not_mem_nil, or_false] at hm; rcases hm with hm | hm <;> subst hm <;> first | exact nb1 hb | exact nb2 hb)
  replace kw := keeps_L kw hk (in_cons (.inr (by simp)) (in_cons (.inr (by simp)) in_nil))
  clear hR hk hg
  refine tail_reg 1 All y72 zz72 st_tr trivial rfl ?_
  refine .alloc z33 ?_
  refine .dn fun a73 g W73 y73 zz73 hk hg hV hR hP => ?_
  refine tail_nil ?_
  show runTail _ _ _ _ _ _
  obtain ⟨⟨b14_73, e14, hb14, own_b14_73⟩, -⟩ := hV
  have lo_b14_73 : w.heap.size ≤ b14_73 := Nat.le_trans kw.size (hg.lo _ _ hb14)
  have ne_bo_b14_73 : bo ≠ b14_73 := Nat.ne_of_lt (Nat.lt_of_lt_of_le own_bo.lt (hg.lo _ _ hb14))
  have ne_bm_b14_73 : bm ≠ b14_73 := Nat.ne_of_lt (Nat.lt_of_lt_of_le own_bm.lt (hg.lo _ _ hb14))
  have ne_bx_b14_73 : bx ≠ b14_73 := Nat.ne_of_lt (Nat.lt_of_lt_of_le own_bx.lt (hg.lo _ _ hb14))
  have ne_b5_2_b14_73 : b5_2 ≠ b14_73 := Nat.ne_of_lt (Nat.lt_of_lt_of_le own_b5_2.lt (hg.lo _ _ hb14))
  have own_b14_73 : Own W73 b14_73 z5C 33 := own_b14_73
  replace e1 := ft hR e1
  replace e5 := ft hR e5
  replace e140 := ft hR e140
  have nb_b14_73_ar : b14_73 ∉ blks hd := nb_lt A_ar.lt (hg.lo _ _ hb14)
  replace A_ar : Arr W73 lo 9 1 (SA w G (b14_73 :: (b5_2 :: (bo :: (bm :: (bx :: (blks hd ++ []))))))) (List.map D.str (L)) av hd := arrA_more A_ar hk [b14_73] (in_cons (hg.lo _ _ hb14) in_nil)
  replace D_cn : Rd W73 (SA w G (b14_73 :: (b5_2 :: (bo :: (bm :: (bx :: (blks hd ++ []))))))) (strsD (x.ns)) (.slice cna (x.ns.length) cnc) := sa_more D_cn hk [b14_73] (in_cons (hg.lo _ _ hb14) in_nil)
  replace D_ci : Rd W73 (SA w G (b14_73 :: (b5_2 :: (bo :: (bm :: (bx :: (blks hd ++ []))))))) (valsD (x.xs)) (.slice cia (x.xs.length) cic) := sa_more D_ci hk [b14_73] (in_cons (hg.lo _ _ hb14) in_nil)
  replace D_dn : Rd W73 (SA w S (b14_73 :: (b5_2 :: (bo :: (bm :: (bx :: (blks hd ++ []))))))) (strsD (x.ns)) (.slice dna (x.ns.length) dnc) := sa_more D_dn hk [b14_73] (in_cons (hg.lo _ _ hb14) in_nil)
  replace D_di : Rd W73 (SA w S (b14_73 :: (b5_2 :: (bo :: (bm :: (bx :: (blks hd ++ []))))))) (valsD (x.xs)) (.slice dia (x.xs.length) dic) := sa_more D_di hk [b14_73] (in_cons (hg.lo _ _ hb14) in_nil)
  replace D_cn140_72 : Rd W73 (SF w (b14_73 :: (b5_2 :: (bo :: (bm :: (bx :: (blks hd ++ []))))))) (strsD ((tkN x c).ns)) (.slice cn140_72a (((tkN x c).ns).length) cn140_72c) := sf_more D_cn140_72 hk [b14_73] (in_cons (hg.lo _ _ hb14) in_nil)
  replace D_ci140_72 : Rd W73 (SF w (b14_73 :: (b5_2 :: (bo :: (bm :: (bx :: (blks hd ++ []))))))) (valsD ((tkN x c).xs)) (.slice ci140_72a (((tkN x c).xs).length) ci140_72c) := sf_more D_ci140_72 hk [b14_73] (in_cons (hg.lo _ _ hb14) in_nil)
  replace own_bo := own_bo.ext hk
  replace own_bm := own_bm.ext hk
  replace own_bx := own_bx.ext hk
  replace own_b5_2 := own_b5_2.ext hk
  replace kw := kw.x hk
  clear hR hk hg hP hb14
  refine tail_store e14 e140 sz33 rfl own_b14_73 (lbr rfl) (all_cons rfl (all_cons rfl (all_cons rfl (all_cons rfl (all_cons rfl all_nil))))) (fun W74 hs own_b14_73 => ?_)
  have own_b14_73 : Own W74 b14_73 [(.int .u8 ((tkN x c).k)), (.int .i64 ((tkN x c).n)), (.string ((tkN x c).t)), (.slice cn140_72a (((tkN x c).ns).length) cn140_72c), (.slice ci140_72a (((tkN x c).xs).length) ci140_72c)] 33 := own_b14_73
  replace own_bo := own_store own_bo hs ne_bo_b14_73
  replace own_bm := ownM_store own_bm hs ne_bm_b14_73
  replace own_bx := own_store own_bx hs ne_bx_b14_73
  replace own_b5_2 := own_store own_b5_2 hs ne_b5_2_b14_73
  replace D_cn := sa_store D_cn hs (by simp)
  replace D_ci := sa_store D_ci hs (by simp)
  replace D_dn := sa_store D_dn hs (by simp)
  replace D_di := sa_store D_di hs (by simp)
  replace D_cn140_72 := sf_store D_cn140_72 hs (by simp)
  replace D_ci140_72 := sf_store D_ci140_72 hs (by simp)
  replace A_ar := arrA_store A_ar hs (by simp) nb_b14_73_ar
  replace kw := keeps_store kw hs lo_b14_73
  clear hs
  refine zn (hK71 _ _ ?_)
  refine zq fun K75 hK75 => ?_
  have hws : w.heap.size ≤ W74.heap.size := kw.size
  have hmR : ∀ b, b ∈ (bx :: (blks hd ++ [])) → b ∈ (b14_73 :: (b5_2 :: (bo :: (bm :: (bx :: (blks hd ++ [])))))) := (fun b hb => by first | exact hb | (simp only [List.mem_cons, List.mem_append, List.not_mem_nil, or_false] at hb ⊢; rcases hb with h | h <;> simp [h]))
  refine wp_reg2 (fun k => k ∉ (bx :: (blks hd ++ []))) (Ψ := fun W => Own W bx [(.int .u8 (x.k)), (.int .i64 (x.n)), (.string (x.t)), (.slice dna (x.ns.length) dnc), (.slice dia (x.xs.length) dic), av, (.int .i64 (0))] 56 ∧ Arr W lo 9 1 (SA w G (b14_73 :: (b5_2 :: (bo :: (bm :: (bx :: (blks hd ++ []))))))) (List.map D.str (L)) av hd) mixed y73 zz73 stE_boxR ⟨own_bx, A_ar⟩ ?_
  refine .i (v := (.agg #[(.int .u8 ((tkN x c).k)), (.int .i64 ((tkN x c).n)), (.string ((tkN x c).t)), (.slice cn140_72a (((tkN x c).ns).length) cn140_72c), (.slice ci140_72a (((tkN x c).xs).length) ci140_72c)])) (loA (hbs rfl e14) own_b14_73 (nin_boxA ne_bx_b14_73.symm nb_b14_73_ar) agg33 sz33 rfl rfl) ?_
  refine .mb rfl e1 ?_
  refine .i (fo 1 (hbs rfl e5) Try.underlying54 rfl sz9 rfl) ?_
  refine .i (lo1 (hlc rfl) own_b5_2 (nin_boxA ne_bx_b5_2.symm nb_b5_2_ar) agg9 sz9 rfl) ?_
  refine .callZ2 (φ1 := Is (.pointer (some ⟨bx, 0, none⟩))) (φ2 := Is (.string (c.nm))) (φ := IsRow 56 9 W74 lo (SA w S (b14_73 :: (b5_2 :: (bo :: (bm :: (bx :: (blks hd ++ []))))))) (SA w G (b14_73 :: (b5_2 :: (bo :: (bm :: (bx :: (blks hd ++ []))))))) bx (fun av => [(.int .u8 (x.k)), (.int .i64 (x.n)), (.string (x.t)), (.slice dna (x.ns.length) dnc), (.slice dia (x.xs.length) dic), av, (.int .i64 (rtE x c.nm 0))]) (L ++ [c.nm]) hd (PhD (V.d (rtV x c.nm 0)))) ent92 (hlc rfl) (hlc rfl) (st_row stp_D) (fun g u1 u2 W hk hg h1 h2 hP => by have h1 : u1 = _ := h1; subst u1; have h2 : u2 = _ := h2; subst u2; exact (yAny_ok c.nm hnm  (x) hxt W (SA w S (b14_73 :: (b5_2 :: (bo :: (bm :: (bx :: (blks hd ++ []))))))) (SA w G (b14_73 :: (b5_2 :: (bo :: (bm :: (bx :: (blks hd ++ []))))))) _ _ bx lo _ hd L hL (fun b hb o h => h.2.2 (hmR b hb)) (D_dn.keeps hk (fun b o h hm => h.2.2 (hmR b hm))) (D_di.keeps hk (fun b o h hm => h.2.2 (hmR b hm))) hP.1 (row_inA hG hP.2 hmR) nb (Nat.le_trans hlo (Nat.le_trans kw.size hk.size)) (sa_cln hG)).mono fun e W' ⟨u, h1, h2, h3⟩ => ⟨u, h1, h2, W, hk.size, h3⟩) ?_
  refine .done ⟨by kernel_rfl, by kernel_rfl, fun a76 g W76 y76 zz76 hk hg hV hR hP => ?_⟩
  obtain ⟨e145, -, -, -, e141, -⟩ := hV
  replace e14 := ft hR e14
  have hMlt : ∀ b ∈ (b14_73 :: (b5_2 :: (bo :: (bm :: (bx :: (blks hd ++ [])))))), b < W74.heap.size := (in_cons own_b14_73.lt (in_cons own_b5_2.lt (in_cons own_bo.lt (in_cons own_bm.lt (in_cons own_bx.lt (in_app A_ar.lt in_nil))))))
  obtain ⟨W1, hW1, v_76, hd_76, hphi, own_bx, A_76, nb_76, hf_76⟩ := e145
  replace hf_76 : ∀ b ∈ blks hd_76, b ∈ blks hd ∨ W74.heap.size ≤ b := fun b hb => (hf_76 b hb).imp id (Nat.le_trans hW1)
  obtain ⟨v_76a, v_76n, v_76c, ev⟩ := arr_sl A_76; subst ev
  replace A_76 : Arr W76 lo 9 1 (SA w G (b14_73 :: (b5_2 :: (bo :: (bm :: (bx :: (blks hd_76 ++ []))))))) (List.map D.str (L ++ [c.nm])) (.slice v_76a v_76n v_76c) hd_76 := row_outA A_76 (Nat.le_trans kw.size hW1) (fun b hb => Nat.lt_of_lt_of_le (hMlt b hb) hW1) (fun b hb => by simp only [List.mem_cons, List.mem_append, List.not_mem_nil, or_false] at hb ⊢; rcases hb with h | h | h | h | h | h <;> simp [h])
  obtain ⟨u145_76, ev⟩ : ∃ v, sl a76 145 = v := ⟨_, rfl⟩
  rw [ev] at hphi; have D_u145_76 := hphi; clear hphi; have e145 := ev; clear ev
  replace D_u145_76 : Rd W76 (SA w S (b14_73 :: (b5_2 :: (bo :: (bm :: (bx :: (blks hd_76 ++ []))))))) (V.d (rtV x c.nm 0)) u145_76 := rd_outA D_u145_76 (Nat.le_trans kw.size hW1) (fun b hb => Nat.lt_of_lt_of_le (hMlt b hb) hW1) (fun b hb => by simp only [List.mem_cons, List.mem_append, List.not_mem_nil, or_false] at hb ⊢; rcases hb with h | h | h | h | h | h <;> simp [h])
  obtain ⟨cn145_76a, cn145_76c, ci145_76a, ci145_76c, ev, ht_u145_76, D_cn145_76, D_ci145_76⟩ := rdV_out D_u145_76
  subst ev; clear D_u145_76
  replace e141 := e141.q
  replace D_cn := sa_appL (M' := (b14_73 :: (b5_2 :: (bo :: (bm :: (bx :: (blks hd_76 ++ []))))))) D_cn hk hmR (rep_cons (rep_cons (rep_cons (rep_cons (rep_cons (rep_app hf_76 rep_nil))))))
  replace D_ci := sa_appL (M' := (b14_73 :: (b5_2 :: (bo :: (bm :: (bx :: (blks hd_76 ++ []))))))) D_ci hk hmR (rep_cons (rep_cons (rep_cons (rep_cons (rep_cons (rep_app hf_76 rep_nil))))))
  replace D_dn := sa_appL (M' := (b14_73 :: (b5_2 :: (bo :: (bm :: (bx :: (blks hd_76 ++ []))))))) D_dn hk hmR (rep_cons (rep_cons (rep_cons (rep_cons (rep_cons (rep_app hf_76 rep_nil))))))
  replace D_di := sa_appL (M' := (b14_73 :: (b5_2 :: (bo :: (bm :: (bx :: (blks hd_76 ++ []))))))) D_di hk hmR (rep_cons (rep_cons (rep_cons (rep_cons (rep_cons (rep_app hf_76 rep_nil))))))
  replace D_cn140_72 := sf_appL (M' := (b14_73 :: (b5_2 :: (bo :: (bm :: (bx :: (blks hd_76 ++ []))))))) D_cn140_72 hk hmR (rep_cons (rep_cons (rep_cons (rep_cons (rep_cons (rep_app hf_76 rep_nil))))))
  replace D_ci140_72 := sf_appL (M' := (b14_73 :: (b5_2 :: (bo :: (bm :: (bx :: (blks hd_76 ++ []))))))) D_ci140_72 hk hmR (rep_cons (rep_cons (rep_cons (rep_cons (rep_cons (rep_app hf_76 rep_nil))))))
  have nb_bo_76 : bo ∉ blks hd_76 := nb_new nb1 own_bo.lt hf_76
  replace own_bo := own_keepL own_bo hk (nin_boxA hn1 nb1)
  have nb_bm_76 : bm ∉ blks hd_76 := nb_new nb2 own_bm.lt hf_76
  replace own_bm := ownM_keepL own_bm hk (nin_boxA hn2 nb2)
  have nb_b5_2_76 : b5_2 ∉ blks hd_76 := nb_new nb_b5_2_ar own_b5_2.lt hf_76
  replace own_b5_2 := own_keepL own_b5_2 hk (nin_boxA ne_bx_b5_2.symm nb_b5_2_ar)
  have nb_b14_73_76 : b14_73 ∉ blks hd_76 := nb_new nb_b14_73_ar own_b14_73.lt hf_76
  replace own_b14_73 := own_keepL own_b14_73 hk (nin_boxA ne_bx_b14_73.symm nb_b14_73_ar)
  replace own_bx : Own W76 bx [(.int .u8 (x.k)), (.int .i64 (x.n)), (.string (x.t)), (.slice dna (x.ns.length) dnc), (.slice dia (x.xs.length) dic), (.slice v_76a v_76n v_76c), (.int .i64 (rtE x c.nm 0))] 56 := own_bx
  replace kw := keeps_L kw hk (fun b hb => .inr (fun hn => hn (by first | exact hb | (simp only [List.mem_cons, List.mem_append, List.not_mem_nil, or_false] at hb ⊢; rcases hb with h | h <;> simp [h]))))
  clear hmR hR hk hg hMlt hW1 hP A_ar
  simp only [shiftR, shiftO, List.length_cons, List.length_nil, Nat.reduceAdd, List.drop_succ_cons, List.drop_zero, List.map_cons, List.map_nil, Option.map_some, Option.map_none, Nat.reduceSub]
  refine reg_any All y76 zz76 st_tr trivial ?_
  refine .i (v := (.bool (V.beq (tkN x c) (rtV x c.nm 0)))) (sp_call2 (φ1 := IsD (SA w S (b14_73 :: (b5_2 :: (bo :: (bm :: (bx :: (blks hd_76 ++ []))))))) (V.d (tkN x c))) (φ2 := IsD (SA w S (b14_73 :: (b5_2 :: (bo :: (bm :: (bx :: (blks hd_76 ++ []))))))) (V.d ((rtV x c.nm 0)))) ent34 (((hbs rfl e141).dat (rdV_in (x := (tkN x c)) ht_v140_72 D_cn140_72 D_ci140_72 : Rd W76 (SF w (b14_73 :: (b5_2 :: (bo :: (bm :: (bx :: (blks hd_76 ++ []))))))) (V.d (tkN x c)) _) sub_all).sup sf_in_sa) ((hbs rfl e145).dat (rdV_in (x := (rtV x c.nm 0)) ht_u145_76 D_cn145_76 D_ci145_76 : Rd W76 (SA w S (b14_73 :: (b5_2 :: (bo :: (bm :: (bx :: (blks hd_76 ++ []))))))) (V.d ((rtV x c.nm 0))) _) sub_all) (fun g u1 u2 W hk hgk h1 h2 => refSame_all _ (tkN x c) ((rtV x c.nm 0)) (Nat.le_refl _) hcb W _ _ _ (rd_u h1) (rd_u h2))) ?_
  refine .al rfl ?_
  refine .dn fun a77 g W77 y77 zz77 hk hg hV hR hP => ?_
  obtain ⟨e15, -, -⟩ := hV
  replace e14 := ft hR e14
  replace A_76 := A_76.ext hk
  replace D_cn := D_cn.ext hk
  replace D_ci := D_ci.ext hk
  replace D_dn := D_dn.ext hk
  replace D_di := D_di.ext hk
  replace D_cn140_72 := D_cn140_72.ext hk
  replace D_ci140_72 := D_ci140_72.ext hk
  replace D_cn145_76 := D_cn145_76.ext hk
  replace D_ci145_76 := D_ci145_76.ext hk
  replace e15 := e15.q
  replace own_bo := own_bo.ext hk
  replace own_bm := own_bm.ext hk
  replace own_bx := own_bx.ext hk
  replace own_b5_2 := own_b5_2.ext hk
  replace own_b14_73 := own_b14_73.ext hk
  replace kw := kw.x hk
  clear hR hk hg hP
  refine zn (hK75 _ _ ?_)
  refine zq fun K78 hK78 => ?_
  refine rg mixed y77 zz77 ?_
  refine .i (v := (.agg #[(.int .u8 ((tkN x c).k)), (.int .i64 ((tkN x c).n)), (.string ((tkN x c).t)), (.slice cn140_72a (((tkN x c).ns).length) cn140_72c), (.slice ci140_72a (((tkN x c).xs).length) ci140_72c)])) (loA (hbs rfl e14) own_b14_73 trivial agg33 sz33 rfl rfl) ?_
  refine .da (X := SF w (b14_73 :: (b5_2 :: (bo :: (bm :: (bx :: (blks hd_76 ++ []))))))) (e := valsD ([(tkN x c)])) (sp_bsl (ds := [V.d (tkN x c)]) Try.underlying31 sz33 z33 (lbr rfl) (lbr rfl) ⟨rfl, ((hlc rfl).dat (rdV_in (x := (tkN x c)) ht_v140_72 D_cn140_72 D_ci140_72 : Rd W77 (SF w (b14_73 :: (b5_2 :: (bo :: (bm :: (bx :: (blks hd_76 ++ []))))))) (V.d (tkN x c)) _) sub_all), trivial⟩ rfl (by intro e he; simp at he; rcases he with rfl <;> exact width_V _) (fr_sf kw (in_cons own_b14_73.lt (in_cons own_b5_2.lt (in_cons own_bo.lt (in_cons own_bm.lt (in_cons own_bx.lt (in_app A_76.lt in_nil)))))))) ?_
  refine .dn fun a79 g W79 y79 zz79 hk hg hV hR hP => ?_
  obtain ⟨e148, -, -⟩ := hV
  replace e15 := ft hR e15
  have hMx : ∀ b ∈ (b14_73 :: (b5_2 :: (bo :: (bm :: (bx :: (blks hd_76 ++ [])))))), b < W77.heap.size := (in_cons own_b14_73.lt (in_cons own_b5_2.lt (in_cons own_bo.lt (in_cons own_bm.lt (in_cons own_bx.lt (in_app A_76.lt in_nil))))))
  replace A_76 := A_76.ext hk
  replace D_cn := D_cn.ext hk
  replace D_ci := D_ci.ext hk
  replace D_dn := D_dn.ext hk
  replace D_di := D_di.ext hk
  replace D_cn140_72 := D_cn140_72.ext hk
  replace D_ci140_72 := D_ci140_72.ext hk
  obtain ⟨v148_79, ev⟩ : ∃ v, sl a79 148 = v := ⟨_, rfl⟩
  rw [ev] at e148
  have D_v148_79 : Rd W79 (SF w (b14_73 :: (b5_2 :: (bo :: (bm :: (bx :: (blks hd_76 ++ []))))))) (valsD ([(tkN x c)])) v148_79 := sf_end e148 hk [] in_nil
  replace e148 := ev; clear ev
  obtain ⟨v148_79a, v148_79c, ev, D2⟩ := rdVs_out D_v148_79
  subst ev; replace D_v148_79 := D2; clear D2
  replace own_bo := own_bo.ext hk
  replace own_bm := own_bm.ext hk
  replace own_bx := own_bx.ext hk
  replace own_b5_2 := own_b5_2.ext hk
  replace own_b14_73 := own_b14_73.ext hk
  replace kw := kw.x hk
  clear hR hk hg hP
  have own_bx : RowP 56 9 W79 lo bx (fun av => [(.int .u8 (x.k)), (.int .i64 (x.n)), (.string (x.t)), (.slice dna (x.ns.length) dnc), (.slice dia (x.xs.length) dic), av, (.int .i64 (rtE x c.nm 0))]) (L ++ [c.nm]) hd_76 := ⟨_, own_bx, arr_str A_76, nb_76⟩
  have hml := rd_len D_v148_79
  refine tail_reg 1 (fun k => ¬ (fun b => w.heap.size ≤ b ∧ b ∉ (b14_73 :: (b5_2 :: (bo :: (bm :: (bx :: (blks hd_76 ++ []))))))) k) (Ψ := fun W => Rd W (ZB (fun b => w.heap.size ≤ b ∧ b ∉ (b14_73 :: (b5_2 :: (bo :: (bm :: (bx :: (blks hd_76 ++ [])))))))) (valsD ([(tkN x c)])) (.slice v148_79a (([(tkN x c)]).length) v148_79c)) y79 zz79 (fun W W' k h => h.ext k) (D_v148_79.mono (fun b o h _ => ⟨⟨h.1, h.2.2⟩, h.2.1⟩)) rfl ?_
  refine .callL1 (φ1 := Is (.slice v148_79a (([(tkN x c)]).length) v148_79c)) (φ := Any) (Ψ' := Tr) ent88 (hbs rfl e148) st_any st_tr (fun g u1 W hk hg h1 hP => by have h1 : u1 = _ := h1; subst h1; exact (spoilD_ok _ ([(tkN x c)]) (Nat.lt_succ_self _) _ _ _ _ W hml hP).mono fun e W' ⟨v, h2, h3⟩ => ⟨v, h2, h3.keeps, trivial, trivial⟩) ?_
  refine .dn fun a81 g W81 y81 zz81 hk hg hV hR hP => ?_
  refine tail_nil ?_
  show runTail _ _ _ _ _ _
  replace e15 := ft hR e15
  replace kw := keeps_Z kw hk (fun b z => z.1)
  replace own_bo := own_bo.keeps hk (fun z => z.2 (by simp))
  replace own_bm := own_bm.keeps hk (fun z => z.2 (by simp))
  replace own_bx := own_bx.keeps hk (fun z => z.2 (by simp)) (fun b hb z => z.2 (by simp [hb]))
  clear hR hk hg hV hP
  refine zn (hK78 _ _ ?_)
  refine zq fun K82 hK82 => ?_
  refine rg mixed y81 zz81 ?_
  refine .mb rfl e15 ?_
  refine .al rfl ?_
  refine .dn fun a83 g W83 y83 zz83 hk hg hV hR hP => ?_
  obtain ⟨e6, -, -⟩ := hV
  replace e6 := e6.q
  replace own_bo := own_bo.ext hk
  replace own_bm := own_bm.ext hk
  replace own_bx := own_bx.ext hk
  replace kw := kw.x hk
  clear hR hk hg hP
  refine zn (hK82 _ _ ?_)
  refine wp_ret ?_
  refine ret1 rfl zz83 e6 ⟨_, rfl, kw, ?_⟩
  rw [hR, hE1, hA1, hE2, hL2]
  exact ⟨rfl, own_bo, own_bm, _, own_bx, fun b hb => (hf_76 b hb).imp id (Nat.le_trans hws)⟩
 have n7 : ¬ c.wh = 7 := by have := ne_of_beq_false hc; omega
 refine zq fun K84 hK84 => ?_
 refine rg mixed y70 zz70 ?_
 refine .i (sp_eql (hbs rfl e17) Has.cst) ?_
 refine .al rfl ?_
 refine .dn fun a85 g W85 y85 zz85 hk hg hV hR hP => ?_
 obtain ⟨e151, -, -⟩ := hV
 replace e0 := ft hR e0
 replace e1 := ft hR e1
 replace e5 := ft hR e5
 replace A_ar := A_ar.ext hk
 replace D_cn := D_cn.ext hk
 replace D_ci := D_ci.ext hk
 replace D_dn := D_dn.ext hk
 replace D_di := D_di.ext hk
 replace e151 := e151.q
 replace own_bo := own_bo.ext hk
 replace own_bm := own_bm.ext hk
 replace own_bx := own_bx.ext hk
 replace own_b5_2 := own_b5_2.ext hk
 replace kw := kw.x hk
 clear hR hk hg hP
 refine zn (hK84 _ _ ?_)
 refine zc e151 (fun hc => ?_) (fun hc => ?_)
 ·
  have hw : c.wh = 8 := by have := eq_of_beq hc; omega
  have hR : aR x 0 x c = (true) := by rw [aR, if_neg n0, if_neg n1, if_neg n2, if_neg n3, if_neg n4, if_neg n5, if_neg n6, if_neg n7]
  have hE1 : qE x 0 c = failK x.k 0 c.er := by rw [qE, if_neg n0, if_neg n1, if_neg n2, if_neg n3, if_neg n4, if_neg n5, if_neg n6, if_neg n7, if_pos hw]
  have hA1 : qA x A 0 c = A := by rw [qA, if_neg n0, if_neg n1, if_neg n2, if_neg n3, if_neg n4, if_neg n5, if_neg n6, if_neg n7]
  have hE2 : rqE x c = c.er := by rw [rqE, if_neg n0, if_neg n1, if_neg n2, if_neg n3, if_neg n4, if_neg n5, if_neg n6, if_neg n7, if_pos hw]
  have hL2 : rqL c L = L := by rw [rqL, if_neg n0, if_neg n1, if_neg n2, if_neg n3, if_neg n4, if_neg n5, if_neg n6, if_neg n7]
  refine zq fun K86 hK86 => ?_
  refine wp_reg (fun k => k ∉ [bo]) (Ψ := fun W => Own W bo [(.int .u8 (x.k)), (.int .i64 (x.n)), (.string (x.t)), (.slice cna (x.ns.length) cnc), (.slice cia (x.xs.length) cic), (.map (some bm)), (.int .i64 (0))] 74) mixed y85 zz85 stE_own own_bo ?_
  refine .mb rfl e0 ?_
  refine .i (fo 5 (hbs rfl e5) Try.underlying54 rfl sz28 rfl) ?_
  refine .i (lo1 (hlc rfl) own_b5_2 (by simp [ne_bo_b5_2.symm]) agg28 sz28 rfl) ?_
  refine .callL2 (φ1 := Is (.pointer (some ⟨bo, 0, none⟩))) (φ2 := Is (.int .i64 (c.er))) (φ := Is (.tuple #[])) (Ψ' := fun W => Own W bo [(.int .u8 (x.k)), (.int .i64 (x.n)), (.string (x.t)), (.slice cna (x.ns.length) cnc), (.slice cia (x.xs.length) cic), (.map (some bm)), (.int .i64 (failK x.k 0 c.er))] 74) ent22 (hlc rfl) (hlc rfl) (st_is _) stE_own (fun g u1 u2 W hk hg h1 h2 hP => by have h1 : u1 = _ := h1; subst u1; have h2 : u2 = _ := h2; subst u2; exact (Fail_ok _ _ _ _ _ _ _ (c.er) W _ hP)) ?_
  refine .dn fun a87 g W87 y87 zz87 hk hg hV hR hP => ?_
  obtain ⟨-, -, -, -, -⟩ := hV
  replace e1 := ft hR e1
  replace e5 := ft hR e5
  replace D_cn := sa_keepL D_cn hk (by simp)
  replace D_ci := sa_keepL D_ci hk (by simp)
  replace D_dn := sa_keepL D_dn hk (by simp)
  replace D_di := sa_keepL D_di hk (by simp)
  replace own_bm := ownM_keepL own_bm hk (by simp [hne.symm])
  replace own_bx := own_keepL own_bx hk (by simp [hn1.symm])
  replace own_b5_2 := own_keepL own_b5_2 hk (by simp [ne_bo_b5_2.symm])
  have own_bo := hP
  replace own_bo : Own W87 bo [(.int .u8 (x.k)), (.int .i64 (x.n)), (.string (x.t)), (.slice cna (x.ns.length) cnc), (.slice cia (x.xs.length) cic), (.map (some bm)), (.int .i64 (failK x.k 0 c.er))] 74 := own_bo
  replace A_ar := arr_strK A_ar hk (fun b hb hm => by simp only [List.mem_cons, List.not_mem_nil, or_false] at hm; subst hm; exact nb1 hb)
  replace kw := keeps_L kw hk (in_cons (.inr (by simp)) in_nil)
  clear hR hk hg hP
  refine zn (hK86 _ _ ?_)
  refine wp_reg (fun k => k ∉ [bx]) (Ψ := fun W => Own W bx [(.int .u8 (x.k)), (.int .i64 (x.n)), (.string (x.t)), (.slice dna (x.ns.length) dnc), (.slice dia (x.xs.length) dic), av, (.int .i64 (0))] 56) mixed y87 zz87 stE_own own_bx ?_
  refine .mb rfl e1 ?_
  refine .i (fo 5 (hbs rfl e5) Try.underlying54 rfl sz28 rfl) ?_
  refine .i (lo1 (hlc rfl) own_b5_2 (by simp [ne_bx_b5_2.symm]) agg28 sz28 rfl) ?_
  refine .callL2 (φ1 := Is (.pointer (some ⟨bx, 0, none⟩))) (φ2 := Is (.int .i64 (c.er))) (φ := Is (.tuple #[])) (Ψ' := fun W => Own W bx [(.int .u8 (x.k)), (.int .i64 (x.n)), (.string (x.t)), (.slice dna (x.ns.length) dnc), (.slice dia (x.xs.length) dic), av, (.int .i64 (c.er))] 56) ent93 (hlc rfl) (hlc rfl) (st_is _) stE_own (fun g u1 u2 W hk hg h1 h2 hP => by have h1 : u1 = _ := h1; subst u1; have h2 : u2 = _ := h2; subst u2; exact (yFail_ok (c.er) _ _ _ _ _ _ W _ hP)) ?_
  refine .dn fun a88 g W88 y88 zz88 hk hg hV hR hP => ?_
  obtain ⟨-, -, -, -, -⟩ := hV
  replace D_cn := sa_keepL D_cn hk (by simp)
  replace D_ci := sa_keepL D_ci hk (by simp)
  replace D_dn := sa_keepL D_dn hk (by simp)
  replace D_di := sa_keepL D_di hk (by simp)
  replace own_bo := own_keepL own_bo hk (by simp [hn1])
  replace own_bm := ownM_keepL own_bm hk (by simp [hn2])
  replace own_b5_2 := own_keepL own_b5_2 hk (by simp [ne_bx_b5_2.symm])
  have own_bx := hP
  replace own_bx : Own W88 bx [(.int .u8 (x.k)), (.int .i64 (x.n)), (.string (x.t)), (.slice dna (x.ns.length) dnc), (.slice dia (x.xs.length) dic), av, (.int .i64 (c.er))] 56 := own_bx
  replace A_ar := arr_strK A_ar hk (fun b hb hm => by simp only [List.mem_cons, List.not_mem_nil, or_false] at hm; subst hm; exact nb hb)
  replace kw := keeps_L kw hk (in_cons (.inr (by simp)) in_nil)
  clear hR hk hg hP
  refine zn (hK3 _ _ ?_)
  refine zq fun K89 hK89 => ?_
  refine rg mixed y88 zz88 ?_
  refine .ac ?_
  refine .dn fun a90 g W90 y90 zz90 hk hg hV hR hP => ?_
  obtain ⟨e6, -⟩ := hV
  replace A_ar := A_ar.ext hk
  replace D_cn := D_cn.ext hk
  replace D_ci := D_ci.ext hk
  replace D_dn := D_dn.ext hk
  replace D_di := D_di.ext hk
  replace e6 := e6.q
  replace own_bo := own_bo.ext hk
  replace own_bm := own_bm.ext hk
  replace own_bx := own_bx.ext hk
  replace own_b5_2 := own_b5_2.ext hk
  replace kw := kw.x hk
  clear hR hk hg hP
  refine zn (hK89 _ _ ?_)
  refine wp_ret ?_
  refine ret1 rfl zz90 e6 ⟨_, rfl, kw, ?_⟩
  have own_bx : RowP 56 9 W90 lo bx (fun av => [(.int .u8 (x.k)), (.int .i64 (x.n)), (.string (x.t)), (.slice dna (x.ns.length) dnc), (.slice dia (x.xs.length) dic), av, (.int .i64 (c.er))]) (L) hd := ⟨_, own_bx, arr_str A_ar, nb⟩
  rw [hR, hE1, hA1, hE2, hL2]
  exact ⟨rfl, own_bo, own_bm, _, own_bx, fun b hb => .inl hb⟩
 have n8 : ¬ c.wh = 8 := by have := ne_of_beq_false hc; omega
 have hR : aR x 0 x c = true := by rw [aR, if_neg n0, if_neg n1, if_neg n2, if_neg n3, if_neg n4, if_neg n5, if_neg n6, if_neg n7]
 have hE1 : qE x 0 c = 0 := by rw [qE, if_neg n0, if_neg n1, if_neg n2, if_neg n3, if_neg n4, if_neg n5, if_neg n6, if_neg n7, if_neg n8]
 have hA1 : qA x A 0 c = A := by rw [qA, if_neg n0, if_neg n1, if_neg n2, if_neg n3, if_neg n4, if_neg n5, if_neg n6, if_neg n7]
 have hE2 : rqE x c = 0 := by rw [rqE, if_neg n0, if_neg n1, if_neg n2, if_neg n3, if_neg n4, if_neg n5, if_neg n6, if_neg n7, if_neg n8]
 have hL2 : rqL c L = L := by rw [rqL, if_neg n0, if_neg n1, if_neg n2, if_neg n3, if_neg n4, if_neg n5, if_neg n6, if_neg n7]
 refine wp_skip (hK3 _ _ ?_)
 refine zq fun K91 hK91 => ?_
 refine rg mixed y85 zz85 ?_
 refine .ac ?_
 refine .dn fun a92 g W92 y92 zz92 hk hg hV hR hP => ?_
 obtain ⟨e6, -⟩ := hV
 replace A_ar := A_ar.ext hk
 replace D_cn := D_cn.ext hk
 replace D_ci := D_ci.ext hk
 replace D_dn := D_dn.ext hk
 replace D_di := D_di.ext hk
 replace e6 := e6.q
 replace own_bo := own_bo.ext hk
 replace own_bm := own_bm.ext hk
 replace own_bx := own_bx.ext hk
 replace own_b5_2 := own_b5_2.ext hk
 replace kw := kw.x hk
 clear hR hk hg hP
 refine zn (hK91 _ _ ?_)
 refine wp_ret ?_
 refine ret1 rfl zz92 e6 ⟨_, rfl, kw, ?_⟩
 have own_bx : RowP 56 9 W92 lo bx (fun av => [(.int .u8 (x.k)), (.int .i64 (x.n)), (.string (x.t)), (.slice dna (x.ns.length) dnc), (.slice dia (x.xs.length) dic), av, (.int .i64 (0))]) (L) hd := ⟨_, own_bx, arr_str A_ar, nb⟩
 rw [hR, hE1, hA1, hE2, hL2]
 exact ⟨rfl, own_bo, own_bm, _, own_bx, fun b hb => .inl hb⟩
end Go.Proofs.Ytnobijngkpflcaa
namespace Go.Proofs.Ytnobijngkpflcaa
open Go.Eng
set_option maxRecDepth 100000 in
set_option maxHeartbeats 4000000 in
theorem asksD_ok (k : Nat) (n : Int) (t : ByteArray) (cn ci mv : Value) (eo : Int) (hE : errK k eo ≠ 0) (k2 : Nat) (n2 : Int) (t2 : ByteArray) (dn di av : Value) (e : Int) (he : e ≠ 0) (c : Cl) (hnm : c.nm.size ≤ maxLen) (w : World) (S : BSet) (vc : Value) (bo bx : Nat) (hM : ∀ b ∈ [bo], ∀ o, ¬ S b o) (hn1 : bo ≠ bx) (own_bo : Own w bo [.int .u8 k, .int .i64 n, .string t, cn, ci, mv, .int .i64 eo] 74) (own_bx : Own w bx [.int .u8 k2, .int .i64 n2, .string t2, dn, di, av, .int .i64 e] 56) (hc : Rd w S c.d vc) : Calls Try.prog 31 #[.pointer (some ⟨bo, 0, none⟩), .pointer (some ⟨bx, 0, none⟩), vc] w (RetL w [bo] fun u W => u = .bool true ∧ Own W bo [.int .u8 k, .int .i64 n, .string t, cn, ci, mv, .int .i64 eo] 74) := by
 have lt_bx := own_bx.lt
 obtain ⟨ev, hb_p2_1⟩ := rdCl_out (rd_argM (M := [bo]) hc hM)
 subst ev
 refine enter Try.func31 rfl Try.ntmps31 (lbr rfl) fun a0 y0 zz0 harg => ?_
 have e0 : sl a0 0 = (.pointer (some ⟨bo, 0, none⟩)) := harg 0 (lbr rfl)
 have e1 : sl a0 1 = (.pointer (some ⟨bx, 0, none⟩)) := harg 1 (lbr rfl)
 have e2 : sl a0 2 = (.agg #[(.int .u8 (c.wh)), (.string (c.nm)), (.int .i64 (c.lo)), (.int .i64 (c.hi)), (.int .i64 (c.mo)), (.int .i64 (c.er))]) := harg 2 (lbr rfl)
 have kw := Keeps.refl (fun k => k ∉ [bo]) w
 clear harg
 refine zq fun K1 hK1 => ?_
 refine rg mixed y0 zz0 ?_
 refine .boxOp (v := (.agg #[(.int .u8 (c.wh)), (.string (c.nm)), (.int .i64 (c.lo)), (.int .i64 (c.hi)), (.int .i64 (c.mo)), (.int .i64 (c.er))])) (hbs rfl e2) ?_
 refine .ac ?_
 refine .dn fun a2 g W2 y2 zz2 hk hg hV hR hP => ?_
 obtain ⟨-, ⟨b5_2, e5, hb5, own_b5_2⟩, -⟩ := hV
 have lo_b5_2 : w.heap.size ≤ b5_2 := Nat.le_trans kw.size (hg.lo _ _ hb5)
 have ne_bo_b5_2 : bo ≠ b5_2 := Nat.ne_of_lt (Nat.lt_of_lt_of_le own_bo.lt (hg.lo _ _ hb5))
 have ne_bx_b5_2 : bx ≠ b5_2 := Nat.ne_of_lt (Nat.lt_of_lt_of_le own_bx.lt (hg.lo _ _ hb5))
 have own_b5_2 : Own W2 b5_2 [(.int .u8 (c.wh)), (.string (c.nm)), (.int .i64 (c.lo)), (.int .i64 (c.hi)), (.int .i64 (c.mo)), (.int .i64 (c.er))] 54 := own_b5_2
 replace e0 := ft hR e0
 replace e1 := ft hR e1
 replace own_bo := own_bo.ext hk
 replace own_bx := own_bx.ext hk
 replace kw := kw.x hk
 clear hR hk hg hP hb5
 refine zn (hK1 _ _ ?_)
 refine zq fun K3 hK3 => ?_
 refine zq fun K4 hK4 => ?_
 refine rg mixed y2 zz2 ?_
 refine .i (fo 0 (hbs rfl e5) Try.underlying54 rfl sz5 rfl) ?_
 refine .i (lo1 (hlc rfl) own_b5_2 trivial agg5 sz5 rfl) ?_
 refine .dn fun a5 g W5 y5 zz5 hk hg hV hR hP => ?_
 obtain ⟨e17, -, -⟩ := hV
 replace e0 := ft hR e0
 replace e1 := ft hR e1
 replace e5 := ft hR e5
 replace e17 := e17.q
 replace own_bo := own_bo.ext hk
 replace own_bx := own_bx.ext hk
 replace own_b5_2 := own_b5_2.ext hk
 replace kw := kw.x hk
 clear hR hk hg hP
 refine zn (hK4 _ _ ?_)
 refine wp_block ?_
 refine zq fun K6 hK6 => ?_
 refine rg mixed y5 zz5 ?_
 refine .i (sp_eql (hbs rfl e17) Has.cst) ?_
 refine .al rfl ?_
 refine .dn fun a7 g W7 y7 zz7 hk hg hV hR hP => ?_
 obtain ⟨e18, -, -⟩ := hV
 replace e0 := ft hR e0
 replace e1 := ft hR e1
 replace e5 := ft hR e5
 replace e17 := ft hR e17
 replace e18 := e18.q
 replace own_bo := own_bo.ext hk
 replace own_bx := own_bx.ext hk
 replace own_b5_2 := own_b5_2.ext hk
 replace kw := kw.x hk
 clear hR hk hg hP
 refine zn (hK6 _ _ ?_)
 refine zc e18 (fun hc => ?_) (fun hc => ?_)
 ·
  refine zq fun K8 hK8 => ?_
  refine rg mixed y7 zz7 ?_
  refine .mb rfl e0 ?_
  refine .i (fo 1 (hbs rfl e5) Try.underlying54 rfl sz9 rfl) ?_
  refine .i (lo1 (hlc rfl) own_b5_2 trivial agg9 sz9 rfl) ?_
  refine .i (v := (.bool (false))) (sp_call2 (φ1 := Is (.pointer (some ⟨bo, 0, none⟩))) (φ2 := Is (.string (c.nm))) ent42 (hlc rfl) (hlc rfl) (fun g u1 u2 W hk hgk h1 h2 => by have h1 : u1 = _ := h1; subst u1; have h2 : u2 = _ := h2; subst u2; exact HasOD_ok _ _ _ _ _ _ _ hE _ W _ (own_bo.ext hk))) ?_
  refine .mb rfl e1 ?_
  refine .i (fo 1 (hbs rfl e5) Try.underlying54 rfl sz9 rfl) ?_
  refine .i (lo1 (hlc rfl) own_b5_2 trivial agg9 sz9 rfl) ?_
  refine .i (v := (.bool (false))) (sp_call2 (φ1 := Is (.pointer (some ⟨bx, 0, none⟩))) (φ2 := Is (.string (c.nm))) ent82 (hlc rfl) (hlc rfl) (fun g u1 u2 W hk hgk h1 h2 => by have h1 : u1 = _ := h1; subst u1; have h2 : u2 = _ := h2; subst u2; exact yHasD_ok _ _ _ _ _ _ _ _ he W _ (own_bx.ext hk))) ?_
  refine .i (sp_bEql Try.underlying4 (hlc rfl) (hlc rfl)) ?_
  refine .al rfl ?_
  refine .dn fun a9 g W9 y9 zz9 hk hg hV hR hP => ?_
  obtain ⟨e6, -, -, -, -, -, -, -, -, -, -⟩ := hV
  replace e6 := e6.q
  replace own_bo := own_bo.ext hk
  replace own_bx := own_bx.ext hk
  replace own_b5_2 := own_b5_2.ext hk
  replace kw := kw.x hk
  clear hR hk hg hP
  refine zn (hK8 _ _ ?_)
  refine wp_ret ?_
  refine ret1 rfl zz9 e6 ⟨_, rfl, kw, ?_⟩
  exact ⟨congrArg Value.bool (by first | rfl | decide | kernel_rfl), own_bo⟩
 refine zq fun K10 hK10 => ?_
 refine rg mixed y7 zz7 ?_
 refine .i (sp_eql (hbs rfl e17) Has.cst) ?_
 refine .al rfl ?_
 refine .dn fun a11 g W11 y11 zz11 hk hg hV hR hP => ?_
 obtain ⟨e29, -, -⟩ := hV
 replace e0 := ft hR e0
 replace e1 := ft hR e1
 replace e5 := ft hR e5
 replace e17 := ft hR e17
 replace e29 := e29.q
 replace own_bo := own_bo.ext hk
 replace own_bx := own_bx.ext hk
 replace own_b5_2 := own_b5_2.ext hk
 replace kw := kw.x hk
 clear hR hk hg hP
 refine zn (hK10 _ _ ?_)
 refine zc e29 (fun hc => ?_) (fun hc => ?_)
 ·
  refine zq fun K12 hK12 => ?_
  refine rg mixed y11 zz11 ?_
  refine .mb rfl e0 ?_
  refine .i (fo 1 (hbs rfl e5) Try.underlying54 rfl sz9 rfl) ?_
  refine .i (lo1 (hlc rfl) own_b5_2 trivial agg9 sz9 rfl) ?_
  refine .i (v := (.string (⟨#[]⟩))) (sp_call2 (φ1 := Is (.pointer (some ⟨bo, 0, none⟩))) (φ2 := Is (.string (c.nm))) ent43 (hlc rfl) (hlc rfl) (fun g u1 u2 W hk hgk h1 h2 => by have h1 : u1 = _ := h1; subst u1; have h2 : u2 = _ := h2; subst u2; exact TextD_ok _ _ _ _ _ _ _ hE _ W _ (own_bo.ext hk))) ?_
  refine .mb rfl e1 ?_
  refine .i (fo 1 (hbs rfl e5) Try.underlying54 rfl sz9 rfl) ?_
  refine .i (lo1 (hlc rfl) own_b5_2 trivial agg9 sz9 rfl) ?_
  refine .i (v := (.string (⟨#[]⟩))) (sp_call2 (φ1 := Is (.pointer (some ⟨bx, 0, none⟩))) (φ2 := Is (.string (c.nm))) ent83 (hlc rfl) (hlc rfl) (fun g u1 u2 W hk hgk h1 h2 => by have h1 : u1 = _ := h1; subst u1; have h2 : u2 = _ := h2; subst u2; exact yTextD_ok _ _ _ _ _ _ _ _ he W _ (own_bx.ext hk))) ?_
  refine .i (sp_sEql (hlc rfl) (hlc rfl)) ?_
  refine .al rfl ?_
  refine .dn fun a13 g W13 y13 zz13 hk hg hV hR hP => ?_
  obtain ⟨e6, -, -, -, -, -, -, -, -, -, -⟩ := hV
  replace e6 := e6.q
  replace own_bo := own_bo.ext hk
  replace own_bx := own_bx.ext hk
  replace own_b5_2 := own_b5_2.ext hk
  replace kw := kw.x hk
  clear hR hk hg hP
  refine zn (hK12 _ _ ?_)
  refine wp_ret ?_
  refine ret1 rfl zz13 e6 ⟨_, rfl, kw, ?_⟩
  exact ⟨congrArg Value.bool (by first | rfl | decide | kernel_rfl), own_bo⟩
 refine zq fun K14 hK14 => ?_
 refine rg mixed y11 zz11 ?_
 refine .i (sp_eql (hbs rfl e17) Has.cst) ?_
 refine .al rfl ?_
 refine .dn fun a15 g W15 y15 zz15 hk hg hV hR hP => ?_
 obtain ⟨e40, -, -⟩ := hV
 replace e0 := ft hR e0
 replace e1 := ft hR e1
 replace e5 := ft hR e5
 replace e17 := ft hR e17
 replace e40 := e40.q
 replace own_bo := own_bo.ext hk
 replace own_bx := own_bx.ext hk
 replace own_b5_2 := own_b5_2.ext hk
 replace kw := kw.x hk
 clear hR hk hg hP
 refine zn (hK14 _ _ ?_)
 refine zc e40 (fun hc => ?_) (fun hc => ?_)
 ·
  refine zq fun K16 hK16 => ?_
  refine rg mixed y15 zz15 ?_
  refine .mb rfl e0 ?_
  refine .i (fo 1 (hbs rfl e5) Try.underlying54 rfl sz9 rfl) ?_
  refine .i (lo1 (hlc rfl) own_b5_2 trivial agg9 sz9 rfl) ?_
  refine .i (fo 2 (hbs rfl e5) Try.underlying54 rfl sz2 rfl) ?_
  refine .i (lo1 (hlc rfl) own_b5_2 trivial agg2 sz2 rfl) ?_
  refine .i (fo 3 (hbs rfl e5) Try.underlying54 rfl sz2 rfl) ?_
  refine .i (lo1 (hlc rfl) own_b5_2 trivial agg2 sz2 rfl) ?_
  refine .i (v := (.int .i64 (0))) (sp_call4 (φ1 := Is (.pointer (some ⟨bo, 0, none⟩))) (φ2 := Is (.string (c.nm))) (φ3 := Is (.int .i64 (c.lo))) (φ4 := Is (.int .i64 (c.hi))) ent44 (hlc rfl) (hlc rfl) (hlc rfl) (hlc rfl) (fun g u1 u2 u3 u4 W hk hgk h1 h2 h3 h4 => by have h1 : u1 = _ := h1; subst u1; have h2 : u2 = _ := h2; subst u2; have h3 : u3 = _ := h3; subst u3; have h4 : u4 = _ := h4; subst u4; exact NumD_ok _ _ _ _ _ _ _ hE _ _ _ W _ (own_bo.ext hk))) ?_
  refine .mb rfl e1 ?_
  refine .i (fo 1 (hbs rfl e5) Try.underlying54 rfl sz9 rfl) ?_
  refine .i (lo1 (hlc rfl) own_b5_2 trivial agg9 sz9 rfl) ?_
  refine .i (fo 2 (hbs rfl e5) Try.underlying54 rfl sz2 rfl) ?_
  refine .i (lo1 (hlc rfl) own_b5_2 trivial agg2 sz2 rfl) ?_
  refine .i (fo 3 (hbs rfl e5) Try.underlying54 rfl sz2 rfl) ?_
  refine .i (lo1 (hlc rfl) own_b5_2 trivial agg2 sz2 rfl) ?_
  refine .i (v := (.int .i64 (0))) (sp_call4 (φ1 := Is (.pointer (some ⟨bx, 0, none⟩))) (φ2 := Is (.string (c.nm))) (φ3 := Is (.int .i64 (c.lo))) (φ4 := Is (.int .i64 (c.hi))) ent84 (hlc rfl) (hlc rfl) (hlc rfl) (hlc rfl) (fun g u1 u2 u3 u4 W hk hgk h1 h2 h3 h4 => by have h1 : u1 = _ := h1; subst u1; have h2 : u2 = _ := h2; subst u2; have h3 : u3 = _ := h3; subst u3; have h4 : u4 = _ := h4; subst u4; exact yNumD_ok _ _ _ _ _ _ _ _ _ _ he W _ (own_bx.ext hk))) ?_
  refine .i (sp_eql (hlc rfl) (hlc rfl)) ?_
  refine .al rfl ?_
  refine .dn fun a17 g W17 y17 zz17 hk hg hV hR hP => ?_
  obtain ⟨e6, -, -, -, -, -, -, -, -, -, -, -, -, -, -, -, -, -, -⟩ := hV
  replace e6 := e6.q
  replace own_bo := own_bo.ext hk
  replace own_bx := own_bx.ext hk
  replace own_b5_2 := own_b5_2.ext hk
  replace kw := kw.x hk
  clear hR hk hg hP
  refine zn (hK16 _ _ ?_)
  refine wp_ret ?_
  refine ret1 rfl zz17 e6 ⟨_, rfl, kw, ?_⟩
  exact ⟨congrArg Value.bool (by first | rfl | decide | kernel_rfl), own_bo⟩
 refine zq fun K18 hK18 => ?_
 refine rg mixed y15 zz15 ?_
 refine .i (sp_eql (hbs rfl e17) Has.cst) ?_
 refine .al rfl ?_
 refine .dn fun a19 g W19 y19 zz19 hk hg hV hR hP => ?_
 obtain ⟨e59, -, -⟩ := hV
 replace e0 := ft hR e0
 replace e1 := ft hR e1
 replace e5 := ft hR e5
 replace e17 := ft hR e17
 replace e59 := e59.q
 replace own_bo := own_bo.ext hk
 replace own_bx := own_bx.ext hk
 replace own_b5_2 := own_b5_2.ext hk
 replace kw := kw.x hk
 clear hR hk hg hP
 refine zn (hK18 _ _ ?_)
 refine zc e59 (fun hc => ?_) (fun hc => ?_)
 ·
  refine zq fun K20 hK20 => ?_
  refine rg mixed y19 zz19 ?_
  refine .mb rfl e0 ?_
  refine .i (fo 1 (hbs rfl e5) Try.underlying54 rfl sz9 rfl) ?_
  refine .i (lo1 (hlc rfl) own_b5_2 trivial agg9 sz9 rfl) ?_
  refine .i (v := (.bool (false))) (sp_call2 (φ1 := Is (.pointer (some ⟨bo, 0, none⟩))) (φ2 := Is (.string (c.nm))) ent45 (hlc rfl) (hlc rfl) (fun g u1 u2 W hk hgk h1 h2 => by have h1 : u1 = _ := h1; subst u1; have h2 : u2 = _ := h2; subst u2; exact BoolD_ok _ _ _ _ _ _ _ hE _ W _ (own_bo.ext hk))) ?_
  refine .mb rfl e1 ?_
  refine .i (fo 1 (hbs rfl e5) Try.underlying54 rfl sz9 rfl) ?_
  refine .i (lo1 (hlc rfl) own_b5_2 trivial agg9 sz9 rfl) ?_
  refine .i (v := (.bool (false))) (sp_call2 (φ1 := Is (.pointer (some ⟨bx, 0, none⟩))) (φ2 := Is (.string (c.nm))) ent85 (hlc rfl) (hlc rfl) (fun g u1 u2 W hk hgk h1 h2 => by have h1 : u1 = _ := h1; subst u1; have h2 : u2 = _ := h2; subst u2; exact yBoolD_ok _ _ _ _ _ _ _ _ he W _ (own_bx.ext hk))) ?_
  refine .i (sp_bEql Try.underlying4 (hlc rfl) (hlc rfl)) ?_
  refine .al rfl ?_
  refine .dn fun a21 g W21 y21 zz21 hk hg hV hR hP => ?_
  obtain ⟨e6, -, -, -, -, -, -, -, -, -, -⟩ := hV
  replace e6 := e6.q
  replace own_bo := own_bo.ext hk
  replace own_bx := own_bx.ext hk
  replace own_b5_2 := own_b5_2.ext hk
  replace kw := kw.x hk
  clear hR hk hg hP
  refine zn (hK20 _ _ ?_)
  refine wp_ret ?_
  refine ret1 rfl zz21 e6 ⟨_, rfl, kw, ?_⟩
  exact ⟨congrArg Value.bool (by first | rfl | decide | kernel_rfl), own_bo⟩
 refine zq fun K22 hK22 => ?_
 refine rg mixed y19 zz19 ?_
 refine .i (sp_eql (hbs rfl e17) Has.cst) ?_
 refine .al rfl ?_
 refine .dn fun a23 g W23 y23 zz23 hk hg hV hR hP => ?_
 obtain ⟨e70, -, -⟩ := hV
 replace e0 := ft hR e0
 replace e1 := ft hR e1
 replace e5 := ft hR e5
 replace e17 := ft hR e17
 replace e70 := e70.q
 replace own_bo := own_bo.ext hk
 replace own_bx := own_bx.ext hk
 replace own_b5_2 := own_b5_2.ext hk
 replace kw := kw.x hk
 clear hR hk hg hP
 refine zn (hK22 _ _ ?_)
 refine zc e70 (fun hc => ?_) (fun hc => ?_)
 ·
  refine zq fun K24 hK24 => ?_
  refine rg mixed y23 zz23 ?_
  refine .mb rfl e0 ?_
  refine .i (fo 1 (hbs rfl e5) Try.underlying54 rfl sz9 rfl) ?_
  refine .i (lo1 (hlc rfl) own_b5_2 trivial agg9 sz9 rfl) ?_
  refine .i (fo 4 (hbs rfl e5) Try.underlying54 rfl sz3 rfl) ?_
  refine .i (lo1 (hlc rfl) own_b5_2 trivial agg3 sz3 rfl) ?_
  refine .i (v := (.slice none 0 0)) (sp_call3 (φ1 := Is (.pointer (some ⟨bo, 0, none⟩))) (φ2 := Is (.string (c.nm))) (φ3 := Is (.int .i64 (c.mo))) ent46 (hlc rfl) (hlc rfl) (hlc rfl) (fun g u1 u2 u3 W hk hgk h1 h2 h3 => by have h1 : u1 = _ := h1; subst u1; have h2 : u2 = _ := h2; subst u2; have h3 : u3 = _ := h3; subst u3; exact ListD_ok _ _ _ _ _ _ _ hE _ _ W _ (own_bo.ext hk))) ?_
  refine .al rfl ?_
  refine .dn fun a25 g W25 y25 zz25 hk hg hV hR hP => ?_
  obtain ⟨e7, -, -, -, -, -, -, -⟩ := hV
  replace e1 := ft hR e1
  replace e5 := ft hR e5
  replace e7 := e7.q
  replace own_bo := own_bo.ext hk
  replace own_bx := own_bx.ext hk
  replace own_b5_2 := own_b5_2.ext hk
  replace kw := kw.x hk
  clear hR hk hg hP
  refine zn (hK24 _ _ ?_)
  refine zq fun K26 hK26 => ?_
  refine rg mixed y25 zz25 ?_
  refine .mb rfl e7 ?_
  refine .mb rfl e1 ?_
  refine .i (fo 1 (hbs rfl e5) Try.underlying54 rfl sz9 rfl) ?_
  refine .i (lo1 (hlc rfl) own_b5_2 trivial agg9 sz9 rfl) ?_
  refine .i (fo 4 (hbs rfl e5) Try.underlying54 rfl sz3 rfl) ?_
  refine .i (lo1 (hlc rfl) own_b5_2 trivial agg3 sz3 rfl) ?_
  refine .i (v := (.slice none 0 0)) (sp_call3 (φ1 := Is (.pointer (some ⟨bx, 0, none⟩))) (φ2 := Is (.string (c.nm))) (φ3 := Is (.int .i64 (c.mo))) ent87 (hlc rfl) (hlc rfl) (hlc rfl) (fun g u1 u2 u3 W hk hgk h1 h2 h3 => by have h1 : u1 = _ := h1; subst u1; have h2 : u2 = _ := h2; subst u2; have h3 : u3 = _ := h3; subst u3; exact yListD_ok _ _ _ _ _ _ _ _ _ he W _ (own_bx.ext hk))) ?_
  refine .i (v := (.bool (V.beq (V.mk 0 0 ⟨#[]⟩ [] ([])) (V.mk 0 0 ⟨#[]⟩ [] ([]))))) (sp_call2 (φ1 := IsD (SF w [b5_2, bo]) (valsD ([]))) (φ2 := IsD (SF w [b5_2, bo]) (valsD ([]))) ent86 ((hlc rfl).dat (rd_nil _ : Rd W25 (SF w [b5_2, bo]) (valsD ([])) _) sub_all) ((hlc rfl).dat (rd_nil _ : Rd W25 (SF w [b5_2, bo]) (valsD ([])) _) sub_all) (fun g u1 u2 W hk hgk h1 h2 => SameAll_ok ([]) ([]) (Nat.le_of_ble_eq_true (by kernel_rfl)) W _ _ _ (rd_u h1) (rd_u h2))) ?_
  refine .al rfl ?_
  refine .dn fun a27 g W27 y27 zz27 hk hg hV hR hP => ?_
  obtain ⟨e8, -, -, -, -, -, -, -, -, -⟩ := hV
  replace e7 := ft hR e7
  replace e8 := e8.q
  replace own_bo := own_bo.ext hk
  replace own_bx := own_bx.ext hk
  replace own_b5_2 := own_b5_2.ext hk
  replace kw := kw.x hk
  clear hR hk hg hP
  refine zn (hK26 _ _ ?_)
  refine zq fun K28 hK28 => ?_
  refine rg mixed y27 zz27 ?_
  refine .mb rfl e7 ?_
  refine .op (φ := Any) st_any (sp_call1 (φ1 := Is (.slice none 0 0)) ent88 (hlc rfl) (fun g u1 W hk hgk h1 => by have h1 : u1 = _ := h1; subst u1; exact (spoil0_ok _ ⟨_, _, rfl⟩ W).mono (fun _ _ ⟨v, h1, h2, h3⟩ => ⟨v, h1, h2, trivial⟩))) ?_
  refine .dn fun a29 g W29 y29 zz29 hk hg hV hR hP => ?_
  obtain ⟨-, -, -⟩ := hV
  replace e8 := ft hR e8
  replace own_bo := own_bo.ext hk
  replace own_bx := own_bx.ext hk
  replace own_b5_2 := own_b5_2.ext hk
  replace kw := kw.x hk
  clear hR hk hg hP
  refine zn (hK28 _ _ ?_)
  refine zq fun K30 hK30 => ?_
  refine rg mixed y29 zz29 ?_
  refine .mb rfl e8 ?_
  refine .al rfl ?_
  refine .dn fun a31 g W31 y31 zz31 hk hg hV hR hP => ?_
  obtain ⟨e6, -, -⟩ := hV
  replace e6 := e6.q
  replace own_bo := own_bo.ext hk
  replace own_bx := own_bx.ext hk
  replace own_b5_2 := own_b5_2.ext hk
  replace kw := kw.x hk
  clear hR hk hg hP
  refine zn (hK30 _ _ ?_)
  refine wp_ret ?_
  refine ret1 rfl zz31 e6 ⟨_, rfl, kw, ?_⟩
  exact ⟨congrArg Value.bool (by first | rfl | decide | kernel_rfl), own_bo⟩
 refine zq fun K32 hK32 => ?_
 refine rg mixed y23 zz23 ?_
 refine .i (sp_eql (hbs rfl e17) Has.cst) ?_
 refine .al rfl ?_
 refine .dn fun a33 g W33 y33 zz33 hk hg hV hR hP => ?_
 obtain ⟨e89, -, -⟩ := hV
 replace e0 := ft hR e0
 replace e1 := ft hR e1
 replace e5 := ft hR e5
 replace e17 := ft hR e17
 replace e89 := e89.q
 replace own_bo := own_bo.ext hk
 replace own_bx := own_bx.ext hk
 replace own_b5_2 := own_b5_2.ext hk
 replace kw := kw.x hk
 clear hR hk hg hP
 refine zn (hK32 _ _ ?_)
 refine zc e89 (fun hc => ?_) (fun hc => ?_)
 ·
  refine zq fun K34 hK34 => ?_
  refine rg mixed y33 zz33 ?_
  refine .mb rfl e0 ?_
  refine .i (fo 1 (hbs rfl e5) Try.underlying54 rfl sz9 rfl) ?_
  refine .i (lo1 (hlc rfl) own_b5_2 trivial agg9 sz9 rfl) ?_
  refine .i (fo 4 (hbs rfl e5) Try.underlying54 rfl sz3 rfl) ?_
  refine .i (lo1 (hlc rfl) own_b5_2 trivial agg3 sz3 rfl) ?_
  refine .i (v := (.slice none 0 0)) (sp_call3 (φ1 := Is (.pointer (some ⟨bo, 0, none⟩))) (φ2 := Is (.string (c.nm))) (φ3 := Is (.int .i64 (c.mo))) ent41 (hlc rfl) (hlc rfl) (hlc rfl) (fun g u1 u2 u3 W hk hgk h1 h2 h3 => by have h1 : u1 = _ := h1; subst u1; have h2 : u2 = _ := h2; subst u2; have h3 : u3 = _ := h3; subst u3; exact TextsD_ok _ _ _ _ _ _ _ hE _ _ W _ (own_bo.ext hk))) ?_
  refine .al rfl ?_
  refine .dn fun a35 g W35 y35 zz35 hk hg hV hR hP => ?_
  obtain ⟨e9, -, -, -, -, -, -, -⟩ := hV
  replace e1 := ft hR e1
  replace e5 := ft hR e5
  replace e9 := e9.q
  replace own_bo := own_bo.ext hk
  replace own_bx := own_bx.ext hk
  replace own_b5_2 := own_b5_2.ext hk
  replace kw := kw.x hk
  clear hR hk hg hP
  refine zn (hK34 _ _ ?_)
  refine zq fun K36 hK36 => ?_
  refine rg mixed y35 zz35 ?_
  refine .mb rfl e9 ?_
  refine .mb rfl e1 ?_
  refine .i (fo 1 (hbs rfl e5) Try.underlying54 rfl sz9 rfl) ?_
  refine .i (lo1 (hlc rfl) own_b5_2 trivial agg9 sz9 rfl) ?_
  refine .i (fo 4 (hbs rfl e5) Try.underlying54 rfl sz3 rfl) ?_
  refine .i (lo1 (hlc rfl) own_b5_2 trivial agg3 sz3 rfl) ?_
  refine .i (v := (.slice none 0 0)) (sp_call3 (φ1 := Is (.pointer (some ⟨bx, 0, none⟩))) (φ2 := Is (.string (c.nm))) (φ3 := Is (.int .i64 (c.mo))) ent90 (hlc rfl) (hlc rfl) (hlc rfl) (fun g u1 u2 u3 W hk hgk h1 h2 h3 => by have h1 : u1 = _ := h1; subst u1; have h2 : u2 = _ := h2; subst u2; have h3 : u3 = _ := h3; subst u3; exact yTextsD_ok _ _ _ _ _ _ _ _ _ he W _ (own_bx.ext hk))) ?_
  refine .i (v := (.bool (decide (([]) = ([]))))) (sp_call2 (φ1 := IsD (SF w [b5_2, bo]) (strsD ([]))) (φ2 := IsD (SF w [b5_2, bo]) (strsD ([]))) ent89 ((hlc rfl).dat (rd_nil _ : Rd W35 (SF w [b5_2, bo]) (strsD ([])) _) sub_all) ((hlc rfl).dat (rd_nil _ : Rd W35 (SF w [b5_2, bo]) (strsD ([])) _) sub_all) (fun g u1 u2 W hk hgk h1 h2 => texts11_ok ([]) ([]) W _ _ _ (rd_u h1) (rd_u h2))) ?_
  refine .al rfl ?_
  refine .dn fun a37 g W37 y37 zz37 hk hg hV hR hP => ?_
  obtain ⟨e10, -, -, -, -, -, -, -, -, -⟩ := hV
  replace e9 := ft hR e9
  replace e10 := e10.q
  replace own_bo := own_bo.ext hk
  replace own_bx := own_bx.ext hk
  replace own_b5_2 := own_b5_2.ext hk
  replace kw := kw.x hk
  clear hR hk hg hP
  refine zn (hK36 _ _ ?_)
  refine zq fun K38 hK38 => ?_
  refine zq fun K39 hK39 => ?_
  refine rg mixed y37 zz37 ?_
  refine .ac ?_
  refine .dn fun a40 g W40 y40 zz40 hk hg hV hR hP => ?_
  obtain ⟨e11, -⟩ := hV
  replace e9 := ft hR e9
  replace e10 := ft hR e10
  replace e11 := e11.q
  replace own_bo := own_bo.ext hk
  replace own_bx := own_bx.ext hk
  replace own_b5_2 := own_b5_2.ext hk
  replace kw := kw.x hk
  clear hR hk hg hP
  refine zn (hK39 _ _ ?_)
  refine wp_block ?_
  refine wp_loopAt (loopAt ?_)
  refine zq fun K41 hK41 => ?_
  refine zq fun K42 hK42 => ?_
  refine rg mixed y40 zz40 ?_
  refine .mb rfl e11 ?_
  refine .mb rfl e9 ?_
  refine .i (sp_lenV Try.underlying23 (hlc rfl)) ?_
  refine .i (sp_lss (hlc rfl) (hlc rfl)) ?_
  refine .dn fun a43 g W43 y43 zz43 hk hg hV hR hP => ?_
  obtain ⟨e108, -, -, -, -⟩ := hV
  replace e9 := ft hR e9
  replace e10 := ft hR e10
  replace e11 := ft hR e11
  replace e108 := e108.q
  replace own_bo := own_bo.ext hk
  replace own_bx := own_bx.ext hk
  replace own_b5_2 := own_b5_2.ext hk
  replace kw := kw.x hk
  clear hR hk hg hP
  refine zn (hK42 _ _ ?_)
  refine wp_cond_false (e108.trans (congrArg Value.bool (by decide))) ?_
  refine wp_exit (hK38 _ _ ?_)
  refine zq fun K44 hK44 => ?_
  refine rg mixed y43 zz43 ?_
  refine .mb rfl e10 ?_
  refine .al rfl ?_
  refine .dn fun a45 g W45 y45 zz45 hk hg hV hR hP => ?_
  obtain ⟨e6, -, -⟩ := hV
  replace e6 := e6.q
  replace own_bo := own_bo.ext hk
  replace own_bx := own_bx.ext hk
  replace own_b5_2 := own_b5_2.ext hk
  replace kw := kw.x hk
  clear hR hk hg hP
  refine zn (hK44 _ _ ?_)
  refine wp_ret ?_
  refine ret1 rfl zz45 e6 ⟨_, rfl, kw, ?_⟩
  exact ⟨congrArg Value.bool (by first | rfl | decide | kernel_rfl), own_bo⟩
 refine zq fun K46 hK46 => ?_
 refine rg mixed y33 zz33 ?_
 refine .i (sp_eql (hbs rfl e17) Has.cst) ?_
 refine .al rfl ?_
 refine .dn fun a47 g W47 y47 zz47 hk hg hV hR hP => ?_
 obtain ⟨e115, -, -⟩ := hV
 replace e0 := ft hR e0
 replace e1 := ft hR e1
 replace e5 := ft hR e5
 replace e17 := ft hR e17
 replace e115 := e115.q
 replace own_bo := own_bo.ext hk
 replace own_bx := own_bx.ext hk
 replace own_b5_2 := own_b5_2.ext hk
 replace kw := kw.x hk
 clear hR hk hg hP
 refine zn (hK46 _ _ ?_)
 refine zc e115 (fun hc => ?_) (fun hc => ?_)
 ·
  refine zq fun K48 hK48 => ?_
  refine rg mixed y47 zz47 ?_
  refine .mb rfl e0 ?_
  refine .i (fo 1 (hbs rfl e5) Try.underlying54 rfl sz9 rfl) ?_
  refine .i (lo1 (hlc rfl) own_b5_2 trivial agg9 sz9 rfl) ?_
  refine .i (fo 4 (hbs rfl e5) Try.underlying54 rfl sz3 rfl) ?_
  refine .i (lo1 (hlc rfl) own_b5_2 trivial agg3 sz3 rfl) ?_
  refine .i (v := (.agg #[(.int .u8 (0)), (.int .i64 (0)), (.string (⟨#[]⟩)), (.slice none 0 0), (.slice none 0 0)])) (sp_call3 (φ1 := Is (.pointer (some ⟨bo, 0, none⟩))) (φ2 := Is (.string (c.nm))) (φ3 := Is (.int .i64 (c.mo))) ent47 (hlc rfl) (hlc rfl) (hlc rfl) (fun g u1 u2 u3 W hk hgk h1 h2 h3 => by have h1 : u1 = _ := h1; subst u1; have h2 : u2 = _ := h2; subst u2; have h3 : u3 = _ := h3; subst u3; exact ObjectD_ok _ _ _ _ _ _ _ hE _ _ W _ (own_bo.ext hk))) ?_
  refine .alloc z33 ?_
  refine .dn fun a49 g W49 y49 zz49 hk hg hV hR hP => ?_
  obtain ⟨⟨b12_49, e12, hb12, own_b12_49⟩, e122, -, -, -, -, -, -⟩ := hV
  have lo_b12_49 : w.heap.size ≤ b12_49 := Nat.le_trans kw.size (hg.lo _ _ hb12)
  have ne_bo_b12_49 : bo ≠ b12_49 := Nat.ne_of_lt (Nat.lt_of_lt_of_le own_bo.lt (hg.lo _ _ hb12))
  have ne_bx_b12_49 : bx ≠ b12_49 := Nat.ne_of_lt (Nat.lt_of_lt_of_le own_bx.lt (hg.lo _ _ hb12))
  have ne_b5_2_b12_49 : b5_2 ≠ b12_49 := Nat.ne_of_lt (Nat.lt_of_lt_of_le own_b5_2.lt (hg.lo _ _ hb12))
  have own_b12_49 : Own W49 b12_49 z5C 33 := own_b12_49
  replace e1 := ft hR e1
  replace e5 := ft hR e5
  replace e122 := e122.q
  replace own_bo := own_bo.ext hk
  replace own_bx := own_bx.ext hk
  replace own_b5_2 := own_b5_2.ext hk
  replace kw := kw.x hk
  clear hR hk hg hP hb12
  refine tail_store e12 e122 sz33 rfl own_b12_49 (lbr rfl) (all_cons rfl (all_cons rfl (all_cons rfl (all_cons rfl (all_cons rfl all_nil))))) (fun W50 hs own_b12_49 => ?_)
  have own_b12_49 : Own W50 b12_49 z5C 33 := own_b12_49
  replace own_bo := own_store own_bo hs ne_bo_b12_49
  replace own_bx := own_store own_bx hs ne_bx_b12_49
  replace own_b5_2 := own_store own_b5_2 hs ne_b5_2_b12_49
  replace kw := keeps_store kw hs lo_b12_49
  clear hs
  refine zn (hK48 _ _ ?_)
  refine zq fun K51 hK51 => ?_
  refine rg mixed y49 zz49 ?_
  refine .i (v := (.agg #[(.int .u8 (0)), (.int .i64 (0)), (.string (⟨#[]⟩)), (.slice none 0 0), (.slice none 0 0)])) (loA (hbs rfl e12) own_b12_49 trivial agg33 sz33 rfl rfl) ?_
  refine .mb rfl e1 ?_
  refine .i (fo 1 (hbs rfl e5) Try.underlying54 rfl sz9 rfl) ?_
  refine .i (lo1 (hlc rfl) own_b5_2 trivial agg9 sz9 rfl) ?_
  refine .i (fo 4 (hbs rfl e5) Try.underlying54 rfl sz3 rfl) ?_
  refine .i (lo1 (hlc rfl) own_b5_2 trivial agg3 sz3 rfl) ?_
  refine .i (v := (.agg #[(.int .u8 (0)), (.int .i64 (0)), (.string (⟨#[]⟩)), (.slice none 0 0), (.slice none 0 0)])) (sp_call3 (φ1 := Is (.pointer (some ⟨bx, 0, none⟩))) (φ2 := Is (.string (c.nm))) (φ3 := Is (.int .i64 (c.mo))) ent91 (hlc rfl) (hlc rfl) (hlc rfl) (fun g u1 u2 u3 W hk hgk h1 h2 h3 => by have h1 : u1 = _ := h1; subst u1; have h2 : u2 = _ := h2; subst u2; have h3 : u3 = _ := h3; subst u3; exact yObjectD_ok _ _ _ _ _ _ _ _ _ he W _ (own_bx.ext hk))) ?_
  refine .i (v := (.bool (V.beq (V.mk (0) (0) (⟨#[]⟩) ([]) ([])) (V.mk (0) (0) (⟨#[]⟩) ([]) ([]))))) (sp_call2 (φ1 := IsD (SF w [b12_49, b5_2, bo]) (V.d (V.mk (0) (0) (⟨#[]⟩) ([]) ([])))) (φ2 := IsD (SF w [b12_49, b5_2, bo]) (V.d (V.mk (0) (0) (⟨#[]⟩) ([]) ([])))) ent34 ((hlc rfl).dat (rdV_mk (by decide) (rd_nil _) (rd_nil _) : Rd W50 (SF w [b12_49, b5_2, bo]) (V.d (V.mk (0) (0) (⟨#[]⟩) ([]) ([]))) _) sub_all) ((hlc rfl).dat (rdV_mk (by decide) (rd_nil _) (rd_nil _) : Rd W50 (SF w [b12_49, b5_2, bo]) (V.d (V.mk (0) (0) (⟨#[]⟩) ([]) ([]))) _) sub_all) (fun g u1 u2 W hk hgk h1 h2 => refSame_all _ (V.mk (0) (0) (⟨#[]⟩) ([]) ([])) (V.mk (0) (0) (⟨#[]⟩) ([]) ([])) (Nat.le_refl _) (Nat.le_of_ble_eq_true (by kernel_rfl)) W _ _ _ (rd_u h1) (rd_u h2))) ?_
  refine .al rfl ?_
  refine .dn fun a52 g W52 y52 zz52 hk hg hV hR hP => ?_
  obtain ⟨e13, -, -, -, -, -, -, -, -, -⟩ := hV
  replace e12 := ft hR e12
  replace e13 := e13.q
  replace own_bo := own_bo.ext hk
  replace own_bx := own_bx.ext hk
  replace own_b5_2 := own_b5_2.ext hk
  replace own_b12_49 := own_b12_49.ext hk
  replace kw := kw.x hk
  clear hR hk hg hP
  refine zn (hK51 _ _ ?_)
  refine zq fun K53 hK53 => ?_
  refine rg mixed y52 zz52 ?_
  refine .i (v := (.agg #[(.int .u8 (0)), (.int .i64 (0)), (.string (⟨#[]⟩)), (.slice none 0 0), (.slice none 0 0)])) (loA (hbs rfl e12) own_b12_49 trivial agg33 sz33 rfl rfl) ?_
  refine .da (X := SF w [b12_49, b5_2, bo]) (e := valsD ([V.mk (0) (0) (⟨#[]⟩) ([]) ([])])) (sp_bsl (ds := [V.d (V.mk (0) (0) (⟨#[]⟩) ([]) ([]))]) Try.underlying31 sz33 z33 (lbr rfl) (lbr rfl) ⟨rfl, ((hlc rfl).dat (rdV_mk (by decide) (rd_nil _) (rd_nil _) : Rd W52 (SF w [b12_49, b5_2, bo]) (V.d (V.mk (0) (0) (⟨#[]⟩) ([]) ([]))) _) sub_all), trivial⟩ rfl (by intro e he; simp at he; rcases he with rfl <;> exact width_V _) (fr_sf kw (in_cons own_b12_49.lt (in_cons own_b5_2.lt (in_cons own_bo.lt in_nil))))) ?_
  refine .dn fun a54 g W54 y54 zz54 hk hg hV hR hP => ?_
  obtain ⟨e132, -, -⟩ := hV
  replace e13 := ft hR e13
  obtain ⟨v132_54, ev⟩ : ∃ v, sl a54 132 = v := ⟨_, rfl⟩
  rw [ev] at e132
  have D_v132_54 : Rd W54 (SF w [b12_49, b5_2, bo]) (valsD ([V.mk (0) (0) (⟨#[]⟩) ([]) ([])])) v132_54 := sf_end e132 hk [] in_nil
  replace e132 := ev; clear ev
  obtain ⟨v132_54a, v132_54c, ev, D2⟩ := rdVs_out D_v132_54
  subst ev; replace D_v132_54 := D2; clear D2
  replace own_bo := own_bo.ext hk
  replace own_bx := own_bx.ext hk
  replace own_b5_2 := own_b5_2.ext hk
  replace own_b12_49 := own_b12_49.ext hk
  replace kw := kw.x hk
  clear hR hk hg hP
  have hml := rd_len D_v132_54
  refine tail_reg 1 (fun k => ¬ (fun b => w.heap.size ≤ b ∧ b ∉ [b12_49, b5_2, bo]) k) (Ψ := fun W => Rd W (ZB (fun b => w.heap.size ≤ b ∧ b ∉ [b12_49, b5_2, bo])) (valsD ([V.mk (0) (0) (⟨#[]⟩) ([]) ([])])) (.slice v132_54a (([V.mk (0) (0) (⟨#[]⟩) ([]) ([])]).length) v132_54c)) y54 zz54 (fun W W' k h => h.ext k) (D_v132_54.mono (fun b o h _ => ⟨⟨h.1, h.2.2⟩, h.2.1⟩)) rfl ?_
  refine .callL1 (φ1 := Is (.slice v132_54a (([V.mk (0) (0) (⟨#[]⟩) ([]) ([])]).length) v132_54c)) (φ := Any) (Ψ' := Tr) ent88 (hbs rfl e132) st_any st_tr (fun g u1 W hk hg h1 hP => by have h1 : u1 = _ := h1; subst h1; exact (spoilD_ok _ ([V.mk (0) (0) (⟨#[]⟩) ([]) ([])]) (Nat.lt_succ_self _) _ _ _ _ W hml hP).mono fun e W' ⟨v, h2, h3⟩ => ⟨v, h2, h3.keeps, trivial, trivial⟩) ?_
  refine .dn fun a56 g W56 y56 zz56 hk hg hV hR hP => ?_
  refine tail_nil ?_
  show runTail _ _ _ _ _ _
  replace e13 := ft hR e13
  replace kw := keeps_Z kw hk (fun b z => z.1)
  replace own_bo := own_bo.keeps hk (fun z => z.2 (by simp))
  replace own_bx := own_bx.keeps hk (fun z => absurd z.1 (Nat.not_le.2 lt_bx))
  clear hR hk hg hV hP
  refine zn (hK53 _ _ ?_)
  refine zq fun K57 hK57 => ?_
  refine rg mixed y56 zz56 ?_
  refine .mb rfl e13 ?_
  refine .al rfl ?_
  refine .dn fun a58 g W58 y58 zz58 hk hg hV hR hP => ?_
  obtain ⟨e6, -, -⟩ := hV
  replace e6 := e6.q
  replace own_bo := own_bo.ext hk
  replace own_bx := own_bx.ext hk
  replace kw := kw.x hk
  clear hR hk hg hP
  refine zn (hK57 _ _ ?_)
  refine wp_ret ?_
  refine ret1 rfl zz58 e6 ⟨_, rfl, kw, ?_⟩
  exact ⟨congrArg Value.bool (by first | rfl | decide | kernel_rfl), own_bo⟩
 refine zq fun K59 hK59 => ?_
 refine rg mixed y47 zz47 ?_
 refine .i (sp_eql (hbs rfl e17) Has.cst) ?_
 refine .al rfl ?_
 refine .dn fun a60 g W60 y60 zz60 hk hg hV hR hP => ?_
 obtain ⟨e135, -, -⟩ := hV
 replace e0 := ft hR e0
 replace e1 := ft hR e1
 replace e5 := ft hR e5
 replace e17 := ft hR e17
 replace e135 := e135.q
 replace own_bo := own_bo.ext hk
 replace own_bx := own_bx.ext hk
 replace own_b5_2 := own_b5_2.ext hk
 replace kw := kw.x hk
 clear hR hk hg hP
 refine zn (hK59 _ _ ?_)
 refine zc e135 (fun hc => ?_) (fun hc => ?_)
 ·
  refine zq fun K61 hK61 => ?_
  refine rg mixed y60 zz60 ?_
  refine .mb rfl e0 ?_
  refine .i (fo 1 (hbs rfl e5) Try.underlying54 rfl sz9 rfl) ?_
  refine .i (lo1 (hlc rfl) own_b5_2 trivial agg9 sz9 rfl) ?_
  refine .i (v := (.agg #[(.int .u8 (0)), (.int .i64 (0)), (.string (⟨#[]⟩)), (.slice none 0 0), (.slice none 0 0)])) (sp_call2 (φ1 := Is (.pointer (some ⟨bo, 0, none⟩))) (φ2 := Is (.string (c.nm))) ent48 (hlc rfl) (hlc rfl) (fun g u1 u2 W hk hgk h1 h2 => by have h1 : u1 = _ := h1; subst u1; have h2 : u2 = _ := h2; subst u2; exact AnyD_ok _ _ _ _ _ _ _ hE _ W _ (own_bo.ext hk))) ?_
  refine .alloc z33 ?_
  refine .dn fun a62 g W62 y62 zz62 hk hg hV hR hP => ?_
  obtain ⟨⟨b14_62, e14, hb14, own_b14_62⟩, e140, -, -, -, -⟩ := hV
  have lo_b14_62 : w.heap.size ≤ b14_62 := Nat.le_trans kw.size (hg.lo _ _ hb14)
  have ne_bo_b14_62 : bo ≠ b14_62 := Nat.ne_of_lt (Nat.lt_of_lt_of_le own_bo.lt (hg.lo _ _ hb14))
  have ne_bx_b14_62 : bx ≠ b14_62 := Nat.ne_of_lt (Nat.lt_of_lt_of_le own_bx.lt (hg.lo _ _ hb14))
  have ne_b5_2_b14_62 : b5_2 ≠ b14_62 := Nat.ne_of_lt (Nat.lt_of_lt_of_le own_b5_2.lt (hg.lo _ _ hb14))
  have own_b14_62 : Own W62 b14_62 z5C 33 := own_b14_62
  replace e1 := ft hR e1
  replace e5 := ft hR e5
  replace e140 := e140.q
  replace own_bo := own_bo.ext hk
  replace own_bx := own_bx.ext hk
  replace own_b5_2 := own_b5_2.ext hk
  replace kw := kw.x hk
  clear hR hk hg hP hb14
  refine tail_store e14 e140 sz33 rfl own_b14_62 (lbr rfl) (all_cons rfl (all_cons rfl (all_cons rfl (all_cons rfl (all_cons rfl all_nil))))) (fun W63 hs own_b14_62 => ?_)
  have own_b14_62 : Own W63 b14_62 z5C 33 := own_b14_62
  replace own_bo := own_store own_bo hs ne_bo_b14_62
  replace own_bx := own_store own_bx hs ne_bx_b14_62
  replace own_b5_2 := own_store own_b5_2 hs ne_b5_2_b14_62
  replace kw := keeps_store kw hs lo_b14_62
  clear hs
  refine zn (hK61 _ _ ?_)
  refine zq fun K64 hK64 => ?_
  refine rg mixed y62 zz62 ?_
  refine .i (v := (.agg #[(.int .u8 (0)), (.int .i64 (0)), (.string (⟨#[]⟩)), (.slice none 0 0), (.slice none 0 0)])) (loA (hbs rfl e14) own_b14_62 trivial agg33 sz33 rfl rfl) ?_
  refine .mb rfl e1 ?_
  refine .i (fo 1 (hbs rfl e5) Try.underlying54 rfl sz9 rfl) ?_
  refine .i (lo1 (hlc rfl) own_b5_2 trivial agg9 sz9 rfl) ?_
  refine .i (v := (.agg #[(.int .u8 (0)), (.int .i64 (0)), (.string (⟨#[]⟩)), (.slice none 0 0), (.slice none 0 0)])) (sp_call2 (φ1 := Is (.pointer (some ⟨bx, 0, none⟩))) (φ2 := Is (.string (c.nm))) ent92 (hlc rfl) (hlc rfl) (fun g u1 u2 W hk hgk h1 h2 => by have h1 : u1 = _ := h1; subst u1; have h2 : u2 = _ := h2; subst u2; exact yAnyD_ok _ _ _ _ _ _ _ _ he W _ (own_bx.ext hk))) ?_
  refine .i (v := (.bool (V.beq (V.mk (0) (0) (⟨#[]⟩) ([]) ([])) (V.mk (0) (0) (⟨#[]⟩) ([]) ([]))))) (sp_call2 (φ1 := IsD (SF w [b14_62, b5_2, bo]) (V.d (V.mk (0) (0) (⟨#[]⟩) ([]) ([])))) (φ2 := IsD (SF w [b14_62, b5_2, bo]) (V.d (V.mk (0) (0) (⟨#[]⟩) ([]) ([])))) ent34 ((hlc rfl).dat (rdV_mk (by decide) (rd_nil _) (rd_nil _) : Rd W63 (SF w [b14_62, b5_2, bo]) (V.d (V.mk (0) (0) (⟨#[]⟩) ([]) ([]))) _) sub_all) ((hlc rfl).dat (rdV_mk (by decide) (rd_nil _) (rd_nil _) : Rd W63 (SF w [b14_62, b5_2, bo]) (V.d (V.mk (0) (0) (⟨#[]⟩) ([]) ([]))) _) sub_all) (fun g u1 u2 W hk hgk h1 h2 => refSame_all _ (V.mk (0) (0) (⟨#[]⟩) ([]) ([])) (V.mk (0) (0) (⟨#[]⟩) ([]) ([])) (Nat.le_refl _) (Nat.le_of_ble_eq_true (by kernel_rfl)) W _ _ _ (rd_u h1) (rd_u h2))) ?_
  refine .al rfl ?_
  refine .dn fun a65 g W65 y65 zz65 hk hg hV hR hP => ?_
  obtain ⟨e15, -, -, -, -, -, -, -⟩ := hV
  replace e14 := ft hR e14
  replace e15 := e15.q
  replace own_bo := own_bo.ext hk
  replace own_bx := own_bx.ext hk
  replace own_b5_2 := own_b5_2.ext hk
  replace own_b14_62 := own_b14_62.ext hk
  replace kw := kw.x hk
  clear hR hk hg hP
  refine zn (hK64 _ _ ?_)
  refine zq fun K66 hK66 => ?_
  refine rg mixed y65 zz65 ?_
  refine .i (v := (.agg #[(.int .u8 (0)), (.int .i64 (0)), (.string (⟨#[]⟩)), (.slice none 0 0), (.slice none 0 0)])) (loA (hbs rfl e14) own_b14_62 trivial agg33 sz33 rfl rfl) ?_
  refine .da (X := SF w [b14_62, b5_2, bo]) (e := valsD ([V.mk (0) (0) (⟨#[]⟩) ([]) ([])])) (sp_bsl (ds := [V.d (V.mk (0) (0) (⟨#[]⟩) ([]) ([]))]) Try.underlying31 sz33 z33 (lbr rfl) (lbr rfl) ⟨rfl, ((hlc rfl).dat (rdV_mk (by decide) (rd_nil _) (rd_nil _) : Rd W65 (SF w [b14_62, b5_2, bo]) (V.d (V.mk (0) (0) (⟨#[]⟩) ([]) ([]))) _) sub_all), trivial⟩ rfl (by intro e he; simp at he; rcases he with rfl <;> exact width_V _) (fr_sf kw (in_cons own_b14_62.lt (in_cons own_b5_2.lt (in_cons own_bo.lt in_nil))))) ?_
  refine .dn fun a67 g W67 y67 zz67 hk hg hV hR hP => ?_
  obtain ⟨e148, -, -⟩ := hV
  replace e15 := ft hR e15
  obtain ⟨v148_67, ev⟩ : ∃ v, sl a67 148 = v := ⟨_, rfl⟩
  rw [ev] at e148
  have D_v148_67 : Rd W67 (SF w [b14_62, b5_2, bo]) (valsD ([V.mk (0) (0) (⟨#[]⟩) ([]) ([])])) v148_67 := sf_end e148 hk [] in_nil
  replace e148 := ev; clear ev
  obtain ⟨v148_67a, v148_67c, ev, D2⟩ := rdVs_out D_v148_67
  subst ev; replace D_v148_67 := D2; clear D2
  replace own_bo := own_bo.ext hk
  replace own_bx := own_bx.ext hk
  replace own_b5_2 := own_b5_2.ext hk
  replace own_b14_62 := own_b14_62.ext hk
  replace kw := kw.x hk
  clear hR hk hg hP
  have hml := rd_len D_v148_67
  refine tail_reg 1 (fun k => ¬ (fun b => w.heap.size ≤ b ∧ b ∉ [b14_62, b5_2, bo]) k) (Ψ := fun W => Rd W (ZB (fun b => w.heap.size ≤ b ∧ b ∉ [b14_62, b5_2, bo])) (valsD ([V.mk (0) (0) (⟨#[]⟩) ([]) ([])])) (.slice v148_67a (([V.mk (0) (0) (⟨#[]⟩) ([]) ([])]).length) v148_67c)) y67 zz67 (fun W W' k h => h.ext k) (D_v148_67.mono (fun b o h _ => ⟨⟨h.1, h.2.2⟩, h.2.1⟩)) rfl ?_
  refine .callL1 (φ1 := Is (.slice v148_67a (([V.mk (0) (0) (⟨#[]⟩) ([]) ([])]).length) v148_67c)) (φ := Any) (Ψ' := Tr) ent88 (hbs rfl e148) st_any st_tr (fun g u1 W hk hg h1 hP => by have h1 : u1 = _ := h1; subst h1; exact (spoilD_ok _ ([V.mk (0) (0) (⟨#[]⟩) ([]) ([])]) (Nat.lt_succ_self _) _ _ _ _ W hml hP).mono fun e W' ⟨v, h2, h3⟩ => ⟨v, h2, h3.keeps, trivial, trivial⟩) ?_
  refine .dn fun a69 g W69 y69 zz69 hk hg hV hR hP => ?_
  refine tail_nil ?_
  show runTail _ _ _ _ _ _
  replace e15 := ft hR e15
  replace kw := keeps_Z kw hk (fun b z => z.1)
  replace own_bo := own_bo.keeps hk (fun z => z.2 (by simp))
  replace own_bx := own_bx.keeps hk (fun z => absurd z.1 (Nat.not_le.2 lt_bx))
  clear hR hk hg hV hP
  refine zn (hK66 _ _ ?_)
  refine zq fun K70 hK70 => ?_
  refine rg mixed y69 zz69 ?_
  refine .mb rfl e15 ?_
  refine .al rfl ?_
  refine .dn fun a71 g W71 y71 zz71 hk hg hV hR hP => ?_
  obtain ⟨e6, -, -⟩ := hV
  replace e6 := e6.q
  replace own_bo := own_bo.ext hk
  replace own_bx := own_bx.ext hk
  replace kw := kw.x hk
  clear hR hk hg hP
  refine zn (hK70 _ _ ?_)
  refine wp_ret ?_
  refine ret1 rfl zz71 e6 ⟨_, rfl, kw, ?_⟩
  exact ⟨congrArg Value.bool (by first | rfl | decide | kernel_rfl), own_bo⟩
 refine zq fun K72 hK72 => ?_
 refine rg mixed y60 zz60 ?_
 refine .i (sp_eql (hbs rfl e17) Has.cst) ?_
 refine .al rfl ?_
 refine .dn fun a73 g W73 y73 zz73 hk hg hV hR hP => ?_
 obtain ⟨e151, -, -⟩ := hV
 replace e0 := ft hR e0
 replace e1 := ft hR e1
 replace e5 := ft hR e5
 replace e151 := e151.q
 replace own_bo := own_bo.ext hk
 replace own_bx := own_bx.ext hk
 replace own_b5_2 := own_b5_2.ext hk
 replace kw := kw.x hk
 clear hR hk hg hP
 refine zn (hK72 _ _ ?_)
 refine zc e151 (fun hc => ?_) (fun hc => ?_)
 ·
  refine zq fun K74 hK74 => ?_
  refine wp_reg (fun k => k ∉ [bo]) (Ψ := fun W => Own W bo [(.int .u8 (k)), (.int .i64 (n)), (.string (t)), cn, ci, mv, (.int .i64 (eo))] 74) mixed y73 zz73 stE_own own_bo ?_
  refine .mb rfl e0 ?_
  refine .i (fo 5 (hbs rfl e5) Try.underlying54 rfl sz28 rfl) ?_
  refine .i (lo1 (hlc rfl) own_b5_2 (by simp [ne_bo_b5_2.symm]) agg28 sz28 rfl) ?_
  refine .callL2 (φ1 := Is (.pointer (some ⟨bo, 0, none⟩))) (φ2 := Is (.int .i64 (c.er))) (φ := Is (.tuple #[])) (Ψ' := fun W => Own W bo [(.int .u8 (k)), (.int .i64 (n)), (.string (t)), cn, ci, mv, (.int .i64 (eo))] 74) ent22 (hlc rfl) (hlc rfl) (st_is _) stE_own (fun g u1 u2 W hk hg h1 h2 hP => by have h1 : u1 = _ := h1; subst u1; have h2 : u2 = _ := h2; subst u2; exact (Fail_ok _ _ _ _ _ _ _ (c.er) W _ hP).mono (fun _ _ ⟨v, h1, h2, h3, h4⟩ => ⟨v, h1, h2, h3, by rw [failK_dead hE] at h4; exact h4⟩)) ?_
  refine .dn fun a75 g W75 y75 zz75 hk hg hV hR hP => ?_
  obtain ⟨-, -, -, -, -⟩ := hV
  replace e1 := ft hR e1
  replace e5 := ft hR e5
  replace own_bx := own_keepL own_bx hk (by simp [hn1.symm])
  replace own_b5_2 := own_keepL own_b5_2 hk (by simp [ne_bo_b5_2.symm])
  have own_bo := hP
  replace own_bo : Own W75 bo [(.int .u8 (k)), (.int .i64 (n)), (.string (t)), cn, ci, mv, (.int .i64 (eo))] 74 := own_bo
  replace kw := keeps_L kw hk (in_cons (.inr (by simp)) in_nil)
  clear hR hk hg hP
  refine zn (hK74 _ _ ?_)
  refine rg mixed y75 zz75 ?_
  refine .mb rfl e1 ?_
  refine .i (fo 5 (hbs rfl e5) Try.underlying54 rfl sz28 rfl) ?_
  refine .i (lo1 (hlc rfl) own_b5_2 trivial agg28 sz28 rfl) ?_
  refine .op (φ := Any) st_any (sp_call2 (φ1 := Is (.pointer (some ⟨bx, 0, none⟩))) (φ2 := Is (.int .i64 (c.er))) ent93 (hlc rfl) (hlc rfl) (fun g u1 u2 W hk hgk h1 h2 => by have h1 : u1 = _ := h1; subst u1; have h2 : u2 = _ := h2; subst u2; exact (yFailD_ok _ _ _ _ _ _ _ _ he W _ (own_bx.ext hk)).mono (fun _ _ ⟨v, h1, h2, h3⟩ => ⟨v, h1, h2, trivial⟩))) ?_
  refine .dn fun a76 g W76 y76 zz76 hk hg hV hR hP => ?_
  obtain ⟨-, -, -, -, -⟩ := hV
  replace own_bo := own_bo.ext hk
  replace own_bx := own_bx.ext hk
  replace own_b5_2 := own_b5_2.ext hk
  replace kw := kw.x hk
  clear hR hk hg hP
  refine zn (hK3 _ _ ?_)
  refine zq fun K77 hK77 => ?_
  refine rg mixed y76 zz76 ?_
  refine .ac ?_
  refine .dn fun a78 g W78 y78 zz78 hk hg hV hR hP => ?_
  obtain ⟨e6, -⟩ := hV
  replace e6 := e6.q
  replace own_bo := own_bo.ext hk
  replace own_bx := own_bx.ext hk
  replace own_b5_2 := own_b5_2.ext hk
  replace kw := kw.x hk
  clear hR hk hg hP
  refine zn (hK77 _ _ ?_)
  refine wp_ret ?_
  refine ret1 rfl zz78 e6 ⟨_, rfl, kw, ?_⟩
  exact ⟨congrArg Value.bool (by first | rfl | decide | kernel_rfl), own_bo⟩
 refine wp_skip (hK3 _ _ ?_)
 refine zq fun K79 hK79 => ?_
 refine rg mixed y73 zz73 ?_
 refine .ac ?_
 refine .dn fun a80 g W80 y80 zz80 hk hg hV hR hP => ?_
 obtain ⟨e6, -⟩ := hV
 replace e6 := e6.q
 replace own_bo := own_bo.ext hk
 replace own_bx := own_bx.ext hk
 replace own_b5_2 := own_b5_2.ext hk
 replace kw := kw.x hk
 clear hR hk hg hP
 refine zn (hK79 _ _ ?_)
 refine wp_ret ?_
 refine ret1 rfl zz80 e6 ⟨_, rfl, kw, ?_⟩
 exact ⟨congrArg Value.bool (by first | rfl | decide | kernel_rfl), own_bo⟩
end Go.Proofs.Ytnobijngkpflcaa
namespace Go.Eng
def MxS (w : World) (M : List Nat) (hd : Option Nat) (new : Bool) : BSet := fun b o => b ∉ blks hd ∧ (new = true → SF w M b o)
def MRow (W w : World) (M : List Nat) (xs : List V) (k : Nat) (v : Value) (hd : Option Nat) : Prop :=
  ∃ a c, v = .slice a xs.length c ∧ xs.length ≤ c ∧ c ≤ maxLen ∧ (xs.length = 0 ∨ ∃ g cs T, hd = some g ∧ a = some ⟨g, 0, none⟩ ∧ w.heap.size ≤ g ∧ Own W g cs T ∧ xs.length * 5 ≤ cs.length ∧
    ∀ i (h : i < xs.length), ∃ c5, c5.length = 5 ∧ CellsAt W g (i * 5) c5 ∧ RdC W (MxS w M hd (decide (i < k))) (V.d xs[i]) c5)
section
variable {W W' w : World} {M : List Nat} {xs : List V} {k : Nat} {v : Value} {hd : Option Nat}
theorem MRow.ext (h : MRow W w M xs k v hd) (e : Ext W W') : MRow W' w M xs k v hd := by
  obtain ⟨a, c, h1, h2, h3, h4⟩ := h
  refine ⟨a, c, h1, h2, h3, h4.imp id ?_⟩
  rintro ⟨g, cs, T, q1, q2, q3, q4, q5, q6⟩
  refine ⟨g, cs, T, q1, q2, q3, q4.ext e, q5, fun i hi => ?_⟩
  obtain ⟨c5, r1, r2, r3⟩ := q6 i hi
  exact ⟨c5, r1, r2.same (e.block g q4.lt trivial), r3.keeps e fun _ _ _ => trivial⟩
theorem MRow.len {a : Option Addr} {n c : Nat} (h : MRow W w M xs k (.slice a n c) hd) : n = xs.length := by
  obtain ⟨a', c', h1, _⟩ := h
  injection h1
theorem rowIs_get {X : BSet} {sz : Nat} : ∀ {ds : List D} {cs : List Value}, RowIs W X sz ds cs → ∀ i (h : i < ds.length), ∃ c, c.length = sz ∧ RdC W X ds[i] c ∧ ∀ j, j < sz → cs[i * sz + j]? = c[j]?
  | [], _, _, i, h => by simp at h
  | d :: ds, cs, hr, i, h => by
    simp only [RowIs] at hr
    obtain ⟨c, r, rfl, h1, h2, h3⟩ := hr
    cases i with
    | zero => exact ⟨c, h1, h2, fun j hj => by rw [Nat.zero_mul, Nat.zero_add, List.getElem?_append_left (by omega)]⟩
    | succ i =>
      obtain ⟨c', q1, q2, q3⟩ := rowIs_get h3 i (by simpa using h)
      refine ⟨c', q1, by simpa using q2, fun j hj => ?_⟩
      rw [← q3 j hj, List.getElem?_append_right (by rw [h1, Nat.add_mul]; omega)]
      congr 1
      rw [h1, Nat.add_mul]; omega
theorem mrow_of {lo : Nat} {e : TypeId} {X : BSet} (h : Arr W lo e 5 X (xs.map V.d) v hd) (hX : ∀ b o, X b o → b ∉ blks hd) (hlo : w.heap.size ≤ lo) : MRow W w M xs 0 v hd := by
  obtain ⟨h1, cs, h2, h3⟩ := h
  rcases h2.2 with ⟨rfl, h0⟩ | ⟨g, cap, cur, rfl, hb, hg', hc1, hc2, hc3, hc4⟩
  · have h0' : xs.length = 0 := by simpa using h0
    exact ⟨none, 0, by rw [h0'], by omega, by simp, .inl h0'⟩
  · refine ⟨some ⟨g, 0, none⟩, cap, by simp, by simpa using hc1, hc2, .inr ⟨g, cur.toList, e, h1.symm, rfl, by omega, by unfold Own; simpa using hg', ?_, fun i hi => ?_⟩⟩
    · have h5 : xs.length * 5 ≤ cap * 5 := Nat.mul_le_mul_right _ (by simpa using hc1)
      have h6 : cur.toList.length = cur.size := Array.length_toList
      omega
    · obtain ⟨c, q1, q2, q3⟩ := rowIs_get h3 i (by simpa using hi)
      refine ⟨c, q1, fun j hj => ?_, by simp only [List.getElem_map] at q2; exact q2.mono fun b o hb _ => ⟨hX b o hb, fun h => by simp at h⟩⟩
      have hl : (cur.toList.take (xs.length * 5))[i * 5 + j]? = cs[i * 5 + j]? := by have := hc4; simp only [List.length_map] at this; rw [this]
      have h5 : i * 5 + 5 ≤ xs.length * 5 := by rw [← Nat.succ_mul]; exact Nat.mul_le_mul_right _ hi
      rw [q1] at hj
      rw [List.getElem?_take, if_pos (by omega), q3 j hj] at hl
      unfold World.cell?
      rw [hg']
      simp only [Array.getElem?_toList] at hl
      simpa using hl.trans (List.getElem?_eq_getElem (by omega))
theorem mrow_at {a : Option Addr} {n c i : Nat} (h : MRow W w M xs k (.slice a n c) hd) (hi : i < xs.length) : ∃ g c5, hd = some g ∧ a = some ⟨g, 0, none⟩ ∧ w.heap.size ≤ g ∧ g < W.heap.size ∧ c5.length = 5 ∧ CellsAt W g (0 + i * 5) c5 ∧ Rd W (MxS w M hd (decide (i < k))) (V.d xs[i]) (.agg c5.toArray) := by
  obtain ⟨a', c', h1, _, _, h2⟩ := h
  injection h1 with h1 _ _
  subst h1
  rcases h2 with h2 | ⟨g, cs, T, q1, q2, q3, q4, q5, q6⟩
  · omega
  · obtain ⟨c5, r1, r2, r3⟩ := q6 i hi
    refine ⟨g, c5, q1, q2, q3, q4.lt, r1, by rw [Nat.zero_add]; exact r2, c5, r3, ?_⟩
    cases xs[i]; rfl
theorem MRow.rd (h : MRow W w M xs k v hd) (hk : xs.length ≤ k) (hM : ∀ b ∈ blks hd, b ∉ M) : Rd W (SF w M) (valsD xs) v := by
  obtain ⟨a, c, rfl, h2, h3, h4⟩ := h
  refine ⟨[.slice a xs.length c], ?_, rfl⟩
  simp only [valsD, RdC, List.length_map]
  refine ⟨a, c, rfl, h2, h3, ?_⟩
  rcases h4 with h4 | ⟨g, cs, T, q1, q2, q3, q4, q5, q6⟩
  · left
    rw [List.length_eq_zero_iff.1 h4]; rfl
  · refine .inr ⟨g, 0, q2, ⟨q3, ⟨_, _, q4⟩, hM g (by rw [q1]; simp [blks])⟩, q4.lt, RdL.of fun i hi => ?_⟩
    have hi' : i < xs.length := by simpa using hi
    obtain ⟨c5, r1, r2, r3⟩ := q6 i hi'
    refine ⟨c5, r1, by rw [Nat.zero_add]; exact r2, ?_⟩
    simp only [List.getElem_map]
    exact r3.mono fun b o hb _ => hb.2 (by simp; omega)
end
section
variable {P : Program} {ops : Array Oper} {S : Nat → Prop} {w0 : World} {a0 : Act} {Γ : Ctx}
variable {d : Option Tmp} {ty : TypeId} {pos : String} {af : Array Edge} {gd : Option (Nat × Bool)}
theorem sp_loadCells {x : Operand} {T : TypeId} {g0 q n : Nat} {cs : List Value} (hx : Has All w0 a0 Γ x (Is (.pointer (some ⟨g0, q, none⟩)))) (hT : aggB P T = some true) (hz : szOf P T = some n) (hc : CellsAt w0 g0 q cs) (hn : cs.length = n) (h0 : 0 < n) :
    Spec P ops All w0 a0 Γ ⟨d, .load T x, ty, pos, af, gd⟩ (Is (.agg cs.toArray)) := fun a g W hk hg he => by
  have e1 := hx.of_env hk hg he (by simp [Op.operands])
  have hlt : g0 < w0.heap.size := cell_lt (hc 0 (by omega))
  have hc2 : CellsAt W g0 q cs := hc.same (hk.block g0 hlt trivial)
  have hr := run_loadVar (P := P) hc2 hT hz (by simpa using hn) (fun h => by cases h)
  unfold OpRuns
  have : (execOp a.eval ⟨d, .load T x, ty, pos, af, gd⟩).run P W = .ok (.value (.agg cs.toArray)) W := by
    simp only [execOp, show a.eval x = _ from e1, Instr.loadAt, Instr.sureAddr, Sem.run_bind, Sem.run_pure, Result.andThen_ok, hr]
    rfl
  rw [this]
  exact ⟨.refl _ _, rfl⟩
end
section
variable {P : Program} {ops : Array Oper} {Q : Exit → Act → World → Prop} {r : List Oper} {a : Act} {W w : World} {M : List Nat} {T : TypeId} {x y : Operand} {ty : TypeId} {pos : String} {af : Array Edge}
theorem tail_storeMx {va : Option Addr} {g0 k c : Nat} {xs : List V} {hd : Option Nat} {v : Value} {X : BSet} (hx : a.eval x = .pointer (some ⟨g0, 0 + k * 5, none⟩)) (hy : a.eval y = v) (hz : szOf P T = some 5) (hk : k < xs.length)
    (hD : Rd W X (V.d xs[k]) v) (hX : ∀ b o, X b o → g0 < b ∧ SF w M b o) (A : MRow W w M xs k (.slice va xs.length c) hd) (hva : va = some ⟨g0, 0, none⟩)
    (h : ∀ W', Keeps (fun k => k ≠ g0) W W' → MRow W' w M xs (k + 1) (.slice va xs.length c) hd → runTail P ops Q r a W') :
    runTail P ops Q (⟨none, .store T x y, ty, pos, af, none⟩ :: r) a W := by
  obtain ⟨a', c', h1, h2, h3, h4⟩ := A
  injection h1 with h1 _ h1c
  subst h1; subst h1c
  rcases h4 with h4 | ⟨g, cs, T0, q1, q2, q3, q4, q5, q6⟩
  · omega
  rw [hva] at q2
  injection q2 with q2
  injection q2 with q2 _ _
  subst q2
  obtain ⟨cv, hr, hv⟩ := hD
  have hv5 : v = .agg cv.toArray := by rw [hv]; cases xs[k]; rfl
  have hl5 : cv.length = 5 := (rdc_width _ _ hr).trans (width_V _)
  have hfit : k * 5 + 5 ≤ cs.length := by have : k * 5 + 5 ≤ xs.length * 5 := by rw [← Nat.succ_mul]; exact Nat.mul_le_mul_right _ hk
                                          omega
  have hone := rdc_one _ _ hr
  subst hv5
  refine tail_store hx hy hz (by simpa [Value.cells] using hl5) q4 (by omega) (by simpa [Value.cells] using hone) fun W' hkp ho => h W' hkp ?_
  have ho' : Own W' g0 (splice cs (k * 5) cv) T0 := by have := ho; simp only [Value.cells, Nat.zero_add] at this; simpa using this
  refine ⟨va, c, rfl, h2, h3, .inr ⟨g0, _, T0, q1, hva, q3, ho', by rw [splice_len (by omega)]; exact q5, fun i hi => ?_⟩⟩
  have hgl : g0 < W.heap.size := q4.lt
  by_cases hik : i = k
  · subst hik
    refine ⟨cv, hl5, fun j hj => ?_, ?_⟩
    · rw [ho'.cell, splice_in (by omega) hj]
      exact List.getElem?_eq_getElem hj
    · have := hr.keeps hkp fun b o hb => (by have := (hX b o hb).1; omega : b ≠ g0)
      refine this.mono fun b o hb _ => ⟨fun hm => ?_, fun _ => (hX b o hb).2⟩
      rw [q1] at hm
      have hb0 : b = g0 := by simpa [blks] using hm
      have := (hX b o hb).1; omega
  · obtain ⟨c5, r1, r2, r3⟩ := q6 i hi
    refine ⟨c5, r1, fun j hj => ?_, ?_⟩
    · have hq := r2 j hj
      rw [q4.cell] at hq
      rw [ho'.cell, splice_out (by omega) (by omega)]
      exact hq
    · have h1 := r3.keeps hkp fun b o hb e => hb.1 (by rw [q1, e]; simp [blks])
      refine h1.mono fun b o hb _ => ⟨hb.1, fun h => hb.2 ?_⟩
      simp at h ⊢; omega
end
end Go.Eng
namespace Go.Proofs.Ytnobijngkpflcaa
open Go.Eng
set_option maxRecDepth 100000 in
theorem copied_all : ∀ (n : Nat) (x : V), x.wt ≤ n → n ≤ 1073741824 → ∀ (w : World) (S : BSet) (v : Value), Rd w S x.d v → Calls Try.prog 29 #[v] w (Ret w fun u W => Rd W (Fr w) x.d u) := by
 intro n
 induction n with
 | zero => intro x hx; have := wt_pos x; omega
 | succ n ih =>
 intro x hx hn w S v hv
 have hwx := wt_eq x
 have hwl := wts_len x.xs
 have hwn := wtN_len x.ns
 obtain ⟨cn0a, cn0c, ci0a, ci0c, ev, ht0, D_cn0, D_ci0⟩ := rdV_out (rd_arg hv)
 subst ev
 refine enter Try.func29 rfl Try.ntmps29 (lbr rfl) fun a0 y0 zz0 harg => ?_
 have e0 : sl a0 0 = (.agg #[(.int .u8 (x.k)), (.int .i64 (x.n)), (.string (x.t)), (.slice cn0a (x.ns.length) cn0c), (.slice ci0a (x.xs.length) ci0c)]) := harg 0 (lbr rfl)
 have kw := Keeps.refl All w
 clear harg
 refine zq fun K1 hK1 => ?_
 refine rg mixed y0 zz0 ?_
 refine .boxOp (v := (.agg #[(.int .u8 (x.k)), (.int .i64 (x.n)), (.string (x.t)), (.slice cn0a (x.ns.length) cn0c), (.slice ci0a (x.xs.length) ci0c)])) (hbs rfl e0) ?_
 refine .alloc z33 ?_
 refine .dn fun a2 g W2 y2 zz2 hk hg hV hR hP => ?_
 obtain ⟨⟨b2_2, e2, hb2, own_b2_2⟩, ⟨b1_2, e1, hb1, own_b1_2⟩, -⟩ := hV
 have lo_b2_2 : w.heap.size ≤ b2_2 := Nat.le_trans kw.size (hg.lo _ _ hb2)
 have own_b2_2 : Own W2 b2_2 z5C 33 := own_b2_2
 have lo_b1_2 : w.heap.size ≤ b1_2 := Nat.le_trans kw.size (hg.lo _ _ hb1)
 have own_b1_2 : Own W2 b1_2 [(.int .u8 (x.k)), (.int .i64 (x.n)), (.string (x.t)), (.slice cn0a (x.ns.length) cn0c), (.slice ci0a (x.xs.length) ci0c)] 33 := own_b1_2
 have ne_b2_2_b1_2 : b2_2 ≠ b1_2 := fun h => by have := hg.inj _ _ _ hb2 (h ▸ hb1); cases this
 replace D_cn0 := sa_more D_cn0 hk [b2_2, b1_2] (in_cons (hg.lo _ _ hb2) (in_cons (hg.lo _ _ hb1) in_nil))
 replace D_ci0 := sa_more D_ci0 hk [b2_2, b1_2] (in_cons (hg.lo _ _ hb2) (in_cons (hg.lo _ _ hb1) in_nil))
 replace kw := kw.x hk
 clear hR hk hg hP hb2 hb1
 refine zn (hK1 _ _ ?_)
 refine zq fun K3 hK3 => ?_
 refine rg mixed y2 zz2 ?_
 refine .op (φ := IsE 9) st_e (sp_bslE Try.underlying23 sz9) ?_
 refine .i (fo 3 (hbs rfl e1) Try.underlying33 rfl sz23 rfl) ?_
 refine .i (lo1 (hlc rfl) own_b1_2 trivial agg23 sz23 rfl) ?_
 refine .da (X := SF w [b2_2, b1_2]) (e := strsD (x.ns)) (sp_appS Try.underlying23 inf9 (hlc rfl) ((hlc rfl).dat D_cn0 sub_all) (by omega) (by omega) (fr_sf kw (in_cons own_b2_2.lt (in_cons own_b1_2.lt in_nil)))) ?_
 refine .i (fo 3 (hbs rfl e1) Try.underlying33 rfl sz23 rfl) ?_
 refine .dn fun a4 g W4 y4 zz4 hk hg hV hR hP => ?_
 obtain ⟨e9, e8, -, -, -, -⟩ := hV
 replace e2 := ft hR e2
 replace e1 := ft hR e1
 replace D_cn0 := D_cn0.ext hk
 replace D_ci0 := D_ci0.ext hk
 obtain ⟨v8_4, ev⟩ : ∃ v, sl a4 8 = v := ⟨_, rfl⟩
 rw [ev] at e8
 have D_v8_4 : Rd W4 (SF w [b2_2, b1_2]) (strsD (x.ns)) v8_4 := sf_end e8 hk [] in_nil
 replace e8 := ev; clear ev
 obtain ⟨v8_4a, v8_4c, ev, D2⟩ := rdS_out D_v8_4
 subst ev; replace D_v8_4 := D2; clear D2
 have e9 : sl a4 9 = (.pointer (some ⟨b1_2, 3, none⟩)) := e9
 replace own_b2_2 := own_b2_2.ext hk
 replace own_b1_2 := own_b1_2.ext hk
 replace kw := kw.x hk
 clear hR hk hg hP
 refine tail_store e9 e8 sz23 rfl own_b1_2 (lbr rfl) (all_cons rfl all_nil) (fun W5 hs own_b1_2 => ?_)
 have own_b1_2 : Own W5 b1_2 [(.int .u8 (x.k)), (.int .i64 (x.n)), (.string (x.t)), (.slice v8_4a (x.ns.length) v8_4c), (.slice ci0a (x.xs.length) ci0c)] 33 := own_b1_2
 replace own_b2_2 := own_store own_b2_2 hs ne_b2_2_b1_2
 replace D_cn0 := sa_store D_cn0 hs (by simp)
 replace D_ci0 := sa_store D_ci0 hs (by simp)
 replace D_v8_4 := sf_store D_v8_4 hs (by simp)
 replace kw := keeps_store kw hs lo_b1_2
 clear hs
 refine zn (hK3 _ _ ?_)
 refine zq fun K6 hK6 => ?_
 refine rg mixed y4 zz4 ?_
 refine .op (φ := IsArr W5 w.heap.size 33 5 (SA w S [b2_2, b1_2]) ([]) none) st_arr (sp_bslA Try.underlying31 sz33 kw.size) ?_
 refine .dn fun a7 g W7 y7 zz7 hk hg hV hR hP => ?_
 obtain ⟨e10, -⟩ := hV
 replace e2 := ft hR e2
 replace e1 := ft hR e1
 obtain ⟨v10_7, ev⟩ : ∃ v, sl a7 10 = v := ⟨_, rfl⟩
 rw [ev] at e10
 obtain ⟨hd10_7, A_10_7, hf10_7⟩ := e10
 have e10 := ev; clear ev
 replace hf10_7 := row_new hf10_7
 obtain ⟨v10_7a, v10_7n, v10_7c, ev⟩ := arr_sl A_10_7; subst ev
 replace A_10_7 : Arr W7 w.heap.size 33 5 (SA w S (blks hd10_7 ++ (b2_2 :: (b1_2 :: [])))) (List.map V.d ([])) (.slice v10_7a v10_7n v10_7c) hd10_7 := arrA_new A_10_7 (M' := (blks hd10_7 ++ (b2_2 :: (b1_2 :: [])))) (fun b hb => (List.mem_append.1 hb).symm)
 have nb_b2_2_7 : b2_2 ∉ blks hd10_7 := fun hm => absurd (hf10_7 _ hm) (Nat.not_le.2 own_b2_2.lt)
 have nb_b1_2_7 : b1_2 ∉ blks hd10_7 := fun hm => absurd (hf10_7 _ hm) (Nat.not_le.2 own_b1_2.lt)
 replace D_ci0 : Rd W7 (SA w S (blks hd10_7 ++ (b2_2 :: (b1_2 :: [])))) (valsD (x.xs)) (.slice ci0a (x.xs.length) ci0c) := sa_more D_ci0 hk (blks hd10_7) hf10_7
 replace D_v8_4 : Rd W7 (SF w (blks hd10_7 ++ (b2_2 :: (b1_2 :: [])))) (strsD (x.ns)) (.slice v8_4a (x.ns.length) v8_4c) := sf_more D_v8_4 hk (blks hd10_7) hf10_7
 replace own_b2_2 := own_b2_2.ext hk
 replace own_b1_2 := own_b1_2.ext hk
 replace kw := kw.x hk
 clear hR hk hg hP hf10_7
 refine tail_reg 3 (fun k => k ∉ blks hd10_7) (Ψ := fun W => Arr W w.heap.size 33 5 (SA w S (blks hd10_7 ++ (b2_2 :: (b1_2 :: [])))) (List.map V.d ([])) (.slice v10_7a v10_7n v10_7c) hd10_7) y7 zz7 (fun W W' k h => h.ext k) A_10_7 rfl ?_
 refine .i (fo 4 (hbs rfl e1) Try.underlying33 rfl sz31 rfl) ?_
 refine .i (lo1 (hlc rfl) own_b1_2 nb_b1_2_7 agg31 sz31 rfl) ?_
 refine .appB (ds := List.map V.d ([])) (es := List.map V.d (x.xs)) (X := SA w S (blks hd10_7 ++ (b2_2 :: (b1_2 :: [])))) Try.underlying31 inf33 (lbr rfl) (hbs rfl e10) ((hlc rfl).dat D_ci0 (sub_nb (fun b hb => List.mem_append_left _ hb))) (sub_nb (fun b hb => List.mem_append_left _ hb)) (by simp [maxLen]; omega) (by simp; omega) kw.size ?_
 refine .dn fun a8 g W8 y8 zz8 hk hg hV hR hP => ?_
 refine tail_nil ?_
 show runTail _ _ _ _ _ _
 obtain ⟨e13, -, -, -⟩ := hV
 replace e2 := ft hR e2
 replace e1 := ft hR e1
 obtain ⟨v13_8, ev⟩ : ∃ v, sl a8 13 = v := ⟨_, rfl⟩
 rw [ev] at e13
 obtain ⟨hd13_8, A_13_8, hf13_8⟩ := e13
 have e13 := ev; clear ev
 obtain ⟨v13_8a, v13_8n, v13_8c, ev⟩ := arr_sl A_13_8; subst ev
 replace A_13_8 := arrA_new (M' := (blks hd13_8 ++ (b2_2 :: (b1_2 :: [])))) A_13_8 (rep_app (rep_q fun _ h => h) (rep_cons (rep_cons rep_nil)))
 replace A_13_8 : Arr W8 w.heap.size 33 5 (SA w S (blks hd13_8 ++ (b2_2 :: (b1_2 :: [])))) (List.map V.d (x.xs)) (.slice v13_8a v13_8n v13_8c) hd13_8 := by first | exact A_13_8 | (rw [List.map_append]; exact A_13_8)
 have nb_b2_2_8 : b2_2 ∉ blks hd13_8 := nb_new nb_b2_2_7 own_b2_2.lt hf13_8
 have nb_b1_2_8 : b1_2 ∉ blks hd13_8 := nb_new nb_b1_2_7 own_b1_2.lt hf13_8
 replace D_ci0 := sa_app (M' := (blks hd13_8 ++ (b2_2 :: (b1_2 :: [])))) D_ci0 hk (fun b hb => List.mem_append_left _ hb) (rep_app hf13_8 (rep_cons (rep_cons rep_nil)))
 replace D_v8_4 := sf_app (M' := (blks hd13_8 ++ (b2_2 :: (b1_2 :: [])))) D_v8_4 hk (fun b hb => List.mem_append_left _ hb) (rep_app hf13_8 (rep_cons (rep_cons rep_nil)))
 replace own_b2_2 := own_app own_b2_2 hk nb_b2_2_7
 replace own_b1_2 := own_app own_b1_2 hk nb_b1_2_7
 replace kw := keeps_app kw hk A_10_7.ge
 clear hR hk hg hP hf13_8 A_10_7
 refine tail_assign (v := (.slice v13_8a v13_8n v13_8c)) e13 (by rw [y8]; exact Nat.le_of_ble_eq_true rfl) (fun a9 y9 zz9 e3 hr => ?_)
 replace y9 := y9.trans y8; replace zz9 := zz9.trans zz8
 replace e2 := (hr 2 (by decide)).trans e2
 replace e1 := (hr 1 (by decide)).trans e1
 replace e13 := (hr 13 (by decide)).trans e13
 clear hr
 refine zn (hK6 _ _ ?_)
 refine zq fun K10 hK10 => ?_
 refine zq fun K11 hK11 => ?_
 refine rg mixed y9 zz9 ?_
 refine .ac ?_
 refine .dn fun a12 g W12 y12 zz12 hk hg hV hR hP => ?_
 obtain ⟨e4, -⟩ := hV
 replace e2 := ft hR e2
 replace e1 := ft hR e1
 replace e3 := ft hR e3
 replace A_13_8 := A_13_8.ext hk
 replace D_ci0 := D_ci0.ext hk
 replace D_v8_4 := D_v8_4.ext hk
 replace e4 := e4.q
 replace own_b2_2 := own_b2_2.ext hk
 replace own_b1_2 := own_b1_2.ext hk
 replace kw := kw.x hk
 clear hR hk hg hP
 refine zn (hK11 _ _ ?_)
 refine wp_block ?_
 have MR : MRow W12 w [b2_2, b1_2] x.xs 0 (.slice v13_8a v13_8n v13_8c) hd13_8 := mrow_of A_13_8 (fun b o h hm => h.2.2 (List.mem_append_left _ hm)) (Nat.le_refl _)
 have hn0 := MR.len
 subst hn0
 clear A_13_8
 replace D_v8_4 : Rd W12 (SF w ((blks hd13_8 ++ (b2_2 :: (b1_2 :: []))))) _ _ := D_v8_4
 refine wp_for (x.xs.length) (fun k a W => a.tmps.size = 31 ∧ a.defers = [] ∧ Keeps All w W ∧ sl a 1 = (.pointer (some ⟨b1_2, 0, none⟩)) ∧ sl a 2 = (.pointer (some ⟨b2_2, 0, none⟩)) ∧ sl a 3 = (.slice v13_8a x.xs.length v13_8c) ∧ sl a 4 = (.int .i64 ((k : Nat))) ∧ Own W b2_2 z5C 33 ∧ Own W b1_2 [.int .u8 x.k, .int .i64 x.n, .string x.t, (.slice v8_4a (x.ns.length) v8_4c), (.slice ci0a (x.xs.length) ci0c)] 33 ∧ Rd W (SF w ((blks hd13_8 ++ (b2_2 :: (b1_2 :: []))))) (strsD x.ns) (.slice v8_4a (x.ns.length) v8_4c) ∧ MRow W w [b2_2, b1_2] x.xs k (.slice v13_8a x.xs.length v13_8c) hd13_8) ⟨y12, zz12, kw, e1, e2, e3, (e4.trans (congrArg (Value.int .i64) (rfl))), own_b2_2, own_b1_2, D_v8_4, MR⟩ ?_
 clear kw e1 e2 e3 e4 own_b1_2 own_b2_2 D_v8_4 MR
 rintro k a14 W14 hkk ⟨y14, zz14, kw, e1, e2, e3, e4, own_b2_2, own_b1_2, D_v8_4, MR⟩
 refine zq fun K15 hK15 => ?_
 refine zq fun K16 hK16 => ?_
 refine rg mixed y14 zz14 ?_
 refine .mb rfl e4 ?_
 refine .mb rfl e3 ?_
 refine .i (sp_lenV Try.underlying31 (hlc rfl)) ?_
 refine .i (sp_lss (hlc rfl) (hlc rfl)) ?_
 refine .dn fun a17 g W17 y17 zz17 hk hg hV hR hP => ?_
 obtain ⟨e17, -, -, -, -⟩ := hV
 replace e1 := ft hR e1
 replace e2 := ft hR e2
 replace e3 := ft hR e3
 replace e4 := ft hR e4
 replace D_v8_4 := D_v8_4.ext hk
 replace own_b1_2 := own_b1_2.ext hk
 replace own_b2_2 := own_b2_2.ext hk
 replace MR := MR.ext hk
 replace e17 := e17.q
 replace kw := kw.x hk
 clear hR hk hg hP
 refine zn (hK16 _ _ ?_)
 refine zc e17 (fun hc => ?_) (fun hc => ?_)
 ·
  have hlt : k < x.xs.length := by simpa using hc
  have hwk := wts_mem hlt
  refine wp_skip (hK15 _ _ ?_)
  refine zq fun K18 hK18 => ?_
  refine wp_block ?_
  obtain ⟨g0, c5, hq1, hva, hq2, hq3, hl5, hc5, hrd⟩ := mrow_at MR hlt
  rw [decide_eq_false (Nat.lt_irrefl k)] at hrd
  have hMlt : ∀ b ∈ [b2_2, b1_2], b < W17.heap.size := in_cons own_b2_2.lt (in_cons own_b1_2.lt in_nil)
  refine rg mixed y17 zz17 ?_
  refine .mb rfl e3 ?_
  refine .mb rfl e4 ?_
  refine .mb rfl e3 ?_
  refine .mb rfl e4 ?_
  refine .i (v := (.pointer (some ⟨g0, 0 + k * 5, none⟩))) (sp_indexRowO (i := k) (hlc rfl) (hlc rfl) Try.underlying31 sz33 hva rfl hlt) ?_
  refine .i (v := (.agg c5.toArray)) (sp_loadCells (hlc rfl) agg33 sz33 hc5 hl5 (by decide)) ?_
  refine .da (X := Fr W17) (e := V.d x.xs[k]) (sp_call1 (φ1 := Is (.agg c5.toArray)) ent29 (hlc rfl) (fun g u1 W hk hgk h1 => by have h1 : u1 = _ := h1; subst h1; exact (ih x.xs[k] (by omega) (by omega) W _ _ (hrd.ext hk)).mono (ret_fr hk hgk))) ?_
  refine .i (v := (.pointer (some ⟨g0, 0 + k * 5, none⟩))) (sp_indexRowO (i := k) (hlc rfl) (hlc rfl) Try.underlying31 sz33 hva rfl hlt) ?_
  refine .dn fun a19 g W19 y19 zz19 hk hg hV hR hP => ?_
  obtain ⟨e27, e26, -, -, -, -, -, -⟩ := hV
  replace e1 := ft hR e1
  replace e2 := ft hR e2
  replace e3 := ft hR e3
  replace e4 := ft hR e4
  replace D_v8_4 := D_v8_4.ext hk
  replace own_b1_2 := own_b1_2.ext hk
  replace own_b2_2 := own_b2_2.ext hk
  replace MR := MR.ext hk
  replace e27 := e27.q
  refine tail_storeMx (X := fun b o => Fr W17 b o ∧ Out g b) e27 rfl sz33 hlt e26 (fun b o h => ⟨Nat.lt_of_lt_of_le hq3 h.1.1, Nat.le_trans kw.size h.1.1, h.1.2, fun hm => absurd h.1.1 (Nat.not_le.2 (hMlt b hm))⟩) MR hva (fun W20 hs MR => ?_)
  replace kw := keeps_store (kw.x hk) hs hq2
  clear hR hk hg hP e26 e27 hrd hc5
  have hgm : g0 ∈ blks hd13_8 := by rw [hq1]; simp [blks]
  replace own_b2_2 := own_store own_b2_2 hs (fun e => nb_b2_2_8 (e ▸ hgm))
  replace own_b1_2 := own_store own_b1_2 hs (fun e => nb_b1_2_8 (e ▸ hgm))
  replace D_v8_4 := D_v8_4.keeps hs fun b o h e => h.2.2 (List.mem_append_left _ (e ▸ hgm))
  clear hs
  refine zn (hK18 _ _ ?_)
  refine rg mixed y19 zz19 ?_
  refine .mb rfl e4 ?_
  refine .i (sp_add (hlc rfl) Has.cst (i64_in (by omega))) ?_
  refine .al rfl ?_
  refine .dn fun a22 g W22 y22 zz22 hk hg hV hR hP => ?_
  obtain ⟨e4, -, -⟩ := hV
  replace e1 := ft hR e1
  replace e2 := ft hR e2
  replace e3 := ft hR e3
  replace D_v8_4 := D_v8_4.ext hk
  replace own_b1_2 := own_b1_2.ext hk
  replace own_b2_2 := own_b2_2.ext hk
  replace MR := MR.ext hk
  replace e4 := e4.q
  replace kw := kw.x hk
  clear hR hk hg hP
  exact tail_nil ⟨hlt, y22, zz22, kw, e1, e2, e3, (e4.trans (congrArg (Value.int .i64) (by simp))), own_b2_2, own_b1_2, D_v8_4, MR⟩
 have hge0 : ¬ k < x.xs.length := by simpa using hc
 have D_l := MR.rd (by omega) (fun b hb hm => by simp only [List.mem_cons, List.not_mem_nil, or_false] at hm; rcases hm with h | h; exact nb_b2_2_8 (h ▸ hb); exact nb_b1_2_8 (h ▸ hb))
 replace D_v8_4 := sf_less (M' := [b2_2, b1_2]) D_v8_4 (fun b hb => List.mem_append_right _ hb)
 clear MR
 refine wp_exit (hK10 _ _ ?_)
 refine zq fun K30 hK30 => ?_
 refine rg mixed y17 zz17 ?_
 refine .mb rfl e3 ?_
 refine .i (fo 4 (hbs rfl e1) Try.underlying33 rfl sz31 rfl) ?_
 refine .dn fun a31 g W31 y31 zz31 hk hg hV hR hP => ?_
 obtain ⟨e29, e28, -⟩ := hV
 replace e1 := ft hR e1
 replace e2 := ft hR e2
 replace D_v8_4 := D_v8_4.ext hk
 replace own_b1_2 := own_b1_2.ext hk
 replace own_b2_2 := own_b2_2.ext hk
 replace D_l := D_l.ext hk
 replace e29 := e29.q
 replace e28 := e28.q
 replace kw := kw.x hk
 clear hR hk hg hP
 refine tail_store e29 e28 sz31 rfl own_b1_2 (lbr rfl) (all_cons rfl all_nil) (fun W32 hs own_b1_2 => ?_)
 replace own_b1_2 : Own W32 b1_2 [.int .u8 x.k, .int .i64 x.n, .string x.t, (.slice v8_4a (x.ns.length) v8_4c), (.slice v13_8a x.xs.length v13_8c)] 33 := own_b1_2
 replace own_b2_2 := own_store own_b2_2 hs ne_b2_2_b1_2
 replace D_v8_4 := sf_store D_v8_4 hs (by simp)
 replace D_l := sf_store D_l hs (by simp)
 replace kw := keeps_store kw hs lo_b1_2
 clear hs
 refine zn (hK30 _ _ ?_)
 refine zq fun K33 hK33 => ?_
 refine rg mixed y31 zz31 ?_
 refine .i (v := (.agg #[.int .u8 x.k, .int .i64 x.n, .string x.t, (.slice v8_4a (x.ns.length) v8_4c), (.slice v13_8a x.xs.length v13_8c)])) (loA (hbs rfl e1) own_b1_2 trivial agg33 sz33 rfl rfl) ?_
 refine .dn fun a34 g W34 y34 zz34 hk hg hV hR hP => ?_
 obtain ⟨e30, -⟩ := hV
 replace e2 := ft hR e2
 replace D_v8_4 := D_v8_4.ext hk
 replace own_b1_2 := own_b1_2.ext hk
 replace own_b2_2 := own_b2_2.ext hk
 replace D_l := D_l.ext hk
 replace e30 := e30.q
 replace kw := kw.x hk
 clear hR hk hg hP
 refine tail_store e2 e30 sz33 rfl own_b2_2 (lbr rfl) (all_cons rfl (all_cons rfl (all_cons rfl (all_cons rfl (all_cons rfl all_nil))))) (fun W35 hs own_b2_2 => ?_)
 replace own_b2_2 : Own W35 b2_2 [.int .u8 x.k, .int .i64 x.n, .string x.t, (.slice v8_4a (x.ns.length) v8_4c), (.slice v13_8a x.xs.length v13_8c)] 33 := own_b2_2
 replace D_v8_4 := sf_store D_v8_4 hs (by simp)
 replace D_l := sf_store D_l hs (by simp)
 replace kw := keeps_store kw hs lo_b2_2
 clear hs
 refine zn (hK33 _ _ ?_)
 refine wp_ret ?_
 refine retC (v := (.agg #[.int .u8 x.k, .int .i64 x.n, .string x.t, (.slice v8_4a (x.ns.length) v8_4c), (.slice v13_8a x.xs.length v13_8c)])) rfl zz34 e2 own_b2_2 agg33 sz33 rfl (fun h => by cases h) rfl ⟨_, rfl, kw, ?_⟩
 exact sf_fr (rdV_in (x := x) ht0 D_v8_4 D_l : Rd W35 (SF w [b2_2, b1_2]) (V.d x) _)
end Go.Proofs.Ytnobijngkpflcaa
namespace Go.Eng
theorem grO_at {m : ByteArray} : ∀ (ns : List ByteArray) (xs : List V) (i : Nat) (h : i < ns.length), ns[i] = m → (∀ j (hj : j < i), ns[j] ≠ m) → grO ns xs m = xs[i]?
  | n :: ns, xs, 0, h, e, _ => by
    rw [grO, if_pos (by simpa using e)]
    cases xs <;> rfl
  | n :: ns, xs, i + 1, h, e, hn => by
    rw [grO, if_neg (by simpa using hn 0 (by omega)), grO_at ns xs.tail i (by simpa using h) (by simpa using e) (fun j hj => by simpa using hn (j + 1) (by omega))]
    cases xs <;> simp
theorem grO_none {m : ByteArray} : ∀ (ns : List ByteArray) (xs : List V), (∀ j (hj : j < ns.length), ns[j] ≠ m) → grO ns xs m = none
  | [], _, _ => rfl
  | n :: ns, xs, h => by
    rw [grO, if_neg (show ¬ n = m from h 0 (Nat.zero_lt_succ _))]
    exact grO_none ns xs.tail fun j hj => h (j + 1) (Nat.succ_lt_succ hj)
theorem gr_alive {x : V} (h5 : x.k = 5) (hl : x.ns.length = x.xs.length) (ha : asc x.ns = true) (m : ByteArray) : grB x m = getB x m ∧ grV x m = getV x m := by
  have hr : grR x m = grO x.ns x.xs m := by rw [grR, if_pos h5]
  have hfb : findB x.ns m = decide (x.ns[lb x.ns m]? = some m) := by rw [findB, if_pos ha]
  have hfi : findI x.ns m = lb x.ns m := by rw [findI, if_pos ha]
  have hk : ¬ x.k ≠ 5 := fun h => h h5
  by_cases hf : x.ns[lb x.ns m]? = some m
  · obtain ⟨h1, h2⟩ := List.getElem?_eq_some_iff.1 hf
    have hlx : lb x.ns m < x.xs.length := by omega
    have hg : grR x m = some x.xs[lb x.ns m] := by
      rw [hr, grO_at x.ns x.xs _ h1 h2 (fun j hj e => ?_), List.getElem?_eq_getElem hlx]
      have h3 := asc_lt ha _ j h1 hj
      rw [h2, e, sLt_irrefl] at h3
      cases h3
    have hn : ¬ (findB x.ns m = false ∨ (x.xs.length : Int) ≤ findI x.ns m) := by
      rw [hfb, hfi, decide_eq_true hf]
      rintro (h | h)
      · cases h
      · omega
    refine ⟨by rw [grB, hg, getB, if_neg hk, if_neg hn]; rfl, by rw [grV, hg, getV_in hk hn hfi hlx]; rfl⟩
  · have hg : grR x m = none := by
      rw [hr]
      refine grO_none _ _ fun j hj e => hf ?_
      have hlb : lb x.ns m = j := take_len _ x.ns j (by omega) (fun i hi hij => by have := asc_lt ha j i hj hij; rwa [e] at this) (fun h => by rw [e]; exact sLt_irrefl m)
      rw [hlb, List.getElem?_eq_getElem hj, e]
    have hn : findB x.ns m = false ∨ (x.xs.length : Int) ≤ findI x.ns m := .inl (by rw [hfb, decide_eq_false hf])
    exact ⟨by rw [grB, hg, getB, if_neg hk, if_pos hn]; rfl, by rw [grV, hg, getV, if_neg hk, if_pos hn]; rfl⟩
theorem getV_no {x : V} {m : ByteArray} (h : getB x m = false) : getV x m = V.zero := by
  unfold getB at h
  unfold getV
  split
  · rfl
  · rw [if_neg (by assumption)] at h
    split
    · rfl
    · rw [if_neg (by assumption)] at h; cases h
theorem allT_eq (l : List V) : allT l = l.all fun y => y.k == 3 := by
  unfold allT
  congr 1
theorem mk_t {k : Nat} {n : Int} {t : ByteArray} {ns : List ByteArray} {xs : List V} : (V.mk k n t ns xs).t = t := rfl
theorem mk_n {k : Nat} {n : Int} {t : ByteArray} {ns : List ByteArray} {xs : List V} : (V.mk k n t ns xs).n = n := rfl
theorem mk_xs {k : Nat} {n : Int} {t : ByteArray} {ns : List ByteArray} {xs : List V} : (V.mk k n t ns xs).xs = xs := rfl
theorem rt_facts {x : V} {m : ByteArray} {b : Bool} {y : V} (h1 : grB x m = b) (h2 : grV x m = y) (kd : Nat) : rtE x m kd = (if b = false then 6 else if kd ≠ 0 ∧ y.k ≠ kd then 10 else 0) ∧ rtV x m kd = (if (if b = false then (6 : Int) else if kd ≠ 0 ∧ y.k ≠ kd then 10 else 0) = 0 then y else V.zero) ∧
    rtB x m kd = decide ((if b = false then (6 : Int) else if kd ≠ 0 ∧ y.k ≠ kd then 10 else 0) = 0) := by
  have : rtE x m kd = (if b = false then 6 else if kd ≠ 0 ∧ y.k ≠ kd then 10 else 0) := by rw [rtE, h1, h2]
  refine ⟨this, ?_, ?_⟩
  · rw [rtV, this, h2]
  · rw [rtB, this]
theorem pl_ask {x : V} (h5 : x.k = 5) (hl : x.ns.length = x.xs.length) (ha : asc x.ns = true) (c : Cl) : aR x 0 x c = true ∧ qE x 0 c = rqE x c := by
  obtain ⟨g1, g2⟩ := gr_alive h5 hl ha c.nm
  have g3 := @getV_no x c.nm
  have he : errK x.k 0 = 0 := by rw [errK, if_neg (by simp [h5])]
  have hE : ∀ ce, tkE x 0 c.nm ce = if getB x c.nm = false then 6 else ce (getV x c.nm) := fun ce => by rw [tkE, he, if_neg (by simp)]
  have hB : ∀ ce, tkB x 0 c.nm ce = (getB x c.nm && decide (ce (getV x c.nm) = 0)) := fun ce => by rw [tkB, he]; simp
  have hF : failK x.k 0 c.er = c.er := by rw [failK, he]; simp
  have hr := rt_facts g1 g2
  unfold aR qE rqE rnE roE rxE rlL rlE roV rnN'
  simp only [rbig]
  simp only [g1, he, hE, hB, hF, (hr _).1, (hr _).2.1, (hr _).2.2]
  clear hE hB hF hr he g1 g2
  generalize getV x c.nm = y at g3 ⊢
  generalize getB x c.nm = b at g3 ⊢
  have hwh : c.wh = 0 ∨ c.wh = 1 ∨ c.wh = 2 ∨ c.wh = 3 ∨ c.wh = 4 ∨ c.wh = 5 ∨ c.wh = 6 ∨ c.wh = 7 ∨ c.wh = 8 ∨ 8 < c.wh := by omega
  have hz : V.zero = ⟨0, 0, ⟨#[]⟩, [], []⟩ := rfl
  cases b with
  | false =>
    have hy := g3 rfl
    subst hy
    rcases hwh with h | h | h | h | h | h | h | h | h | h
    · simp [h]
    · simp [h, hz, mk_t, mk_n, mk_xs]
    · simp [h, hz, mk_t, mk_n, mk_xs]
    · simp [h, hz, mk_t, mk_n, mk_xs]
    · simp [h, hz, mk_t, mk_n, mk_xs, beq_refl]
    · simp [h, hz, mk_t, mk_n, mk_xs, rxT]
    · simp [h, hz, mk_t, mk_n, mk_xs, beq_refl]
    · simp [h, hz, mk_t, mk_n, mk_xs, beq_refl]
    · simp [h]
    · simp [show c.wh ≠ 0 by omega, show c.wh ≠ 1 by omega, show c.wh ≠ 2 by omega, show c.wh ≠ 3 by omega, show c.wh ≠ 4 by omega, show c.wh ≠ 5 by omega, show c.wh ≠ 6 by omega, show c.wh ≠ 7 by omega, show c.wh ≠ 8 by omega]
  | true =>
    clear g3
    rcases hwh with h | h | h | h | h | h | h | h | h | h
    · simp [h]
    · by_cases hk : y.k = 3 <;> simp [h, hz, mk_t, mk_n, mk_xs, textE, textV, hk]
    · by_cases hk : y.k = 2
      · by_cases hn : y.n < c.lo ∨ c.hi < y.n <;> simp [h, hz, mk_t, mk_n, mk_xs, numE, numV, hk, hn]
      · simp [h, hz, mk_t, mk_n, mk_xs, numE, numV, hk]
    · by_cases hk : y.k = 1 <;> simp [h, hz, mk_t, mk_n, mk_xs, boolE, boolV, hk]
    · by_cases hk : y.k = 4
      · by_cases hn : c.mo < y.xs.length <;> simp [h, hz, mk_t, mk_n, mk_xs, listE, listV, itemsE, itemsV, hk, hn, beq_refl]
      · simp [h, hz, mk_t, mk_n, mk_xs, listE, listV, itemsE, itemsV, hk, beq_refl]
    · by_cases hk : y.k = 4
      · by_cases hn : c.mo < y.xs.length
        · simp [h, hz, mk_t, mk_n, mk_xs, textsE, textsL, itemsE, hk, hn, rxT]
        · by_cases hq : (y.xs.all fun y => y.k == 3) = true <;> simp [h, hz, mk_t, mk_n, mk_xs, textsE, textsL, itemsE, hk, hn, rxT, allT_eq, hq]
      · simp [h, hz, mk_t, mk_n, mk_xs, textsE, textsL, itemsE, hk, rxT]
    · by_cases hk : y.k = 5
      · by_cases hn : c.mo < y.xs.length <;> simp [h, hz, mk_t, mk_n, mk_xs, obE, obV, hk, hn, beq_refl]
      · simp [h, hz, mk_t, mk_n, mk_xs, obE, obV, hk, beq_refl]
    · simp [h, hz, mk_t, mk_n, mk_xs, anyE, beq_refl]
    · simp [h]
    · simp [show c.wh ≠ 0 by omega, show c.wh ≠ 1 by omega, show c.wh ≠ 2 by omega, show c.wh ≠ 3 by omega, show c.wh ≠ 4 by omega, show c.wh ≠ 5 by omega, show c.wh ≠ 6 by omega, show c.wh ≠ 7 by omega, show c.wh ≠ 8 by omega]
def LInv (A : As) (L : List ByteArray) : Prop := ∀ s, mget A s ≠ 0 ↔ anyB L s = true
theorem linv_nil : LInv [] [] := fun s => by simp [mget, anyB]
theorem tk_inv {x : V} {A : As} {L : List ByteArray} {m : ByteArray} {ce : V → Int} {n : Int} (he : errK x.k 0 = 0) (h : LInv A L) (hA : AB n A) (h0 : tkE x 0 m ce = 0) : LInv (tkA x A 0 m ce) (L ++ [m]) := by
  rw [tkE, he, if_neg (by simp)] at h0
  split at h0
  · cases h0
  · rename_i hb
    have hb2 : getB x m = true := by simpa using hb
    have hB : tkB x 0 m ce = true := by simp [tkB, he, hb2, h0]
    intro s
    rw [tkA, if_pos hB, mget_set]
    have hany : anyB (L ++ [m]) s = (anyB L s || decide (m = s)) := by simp [anyB]
    rw [hany]
    by_cases hs : s = m
    · subst hs
      have := (hA s).1
      simp only [if_true, decide_true, Bool.or_true, iff_true]
      omega
    · rw [if_neg hs, h s]
      simp [Ne.symm hs]
theorem pl_inv {x : V} {A : As} {L : List ByteArray} {n : Int} {c : Cl} (he : errK x.k 0 = 0) (h : LInv A L) (hA : AB n A) (h0 : qE x 0 c = 0) : LInv (qA x A 0 c) (rqL c L) := by
  unfold qE at h0
  unfold qA rqL
  by_cases w0 : c.wh = 0
  · rw [if_pos w0, if_pos w0]; exact h
  rw [if_neg w0] at h0 ⊢; rw [if_neg w0]
  by_cases w1 : c.wh = 1
  · rw [if_pos w1] at h0 ⊢; rw [if_pos w1]; exact tk_inv he h hA h0
  rw [if_neg w1] at h0 ⊢; rw [if_neg w1]
  by_cases w2 : c.wh = 2
  · rw [if_pos w2] at h0 ⊢; rw [if_pos w2]; exact tk_inv he h hA h0
  rw [if_neg w2] at h0 ⊢; rw [if_neg w2]
  by_cases w3 : c.wh = 3
  · rw [if_pos w3] at h0 ⊢; rw [if_pos w3]; exact tk_inv he h hA h0
  rw [if_neg w3] at h0 ⊢; rw [if_neg w3]
  by_cases w4 : c.wh = 4
  · rw [if_pos w4] at h0 ⊢; rw [if_pos w4]; exact tk_inv he h hA h0
  rw [if_neg w4] at h0 ⊢; rw [if_neg w4]
  by_cases w5 : c.wh = 5
  · rw [if_pos w5] at h0 ⊢; rw [if_pos w5]; exact tk_inv he h hA h0
  rw [if_neg w5] at h0 ⊢; rw [if_neg w5]
  by_cases w6 : c.wh = 6
  · rw [if_pos w6] at h0 ⊢; rw [if_pos w6]; exact tk_inv he h hA h0
  rw [if_neg w6] at h0 ⊢; rw [if_neg w6]
  by_cases w7 : c.wh = 7
  · rw [if_pos w7] at h0 ⊢; rw [if_pos w7]; exact tk_inv he h hA h0
  rw [if_neg w7, if_neg w7]
  exact h
theorem pl_done {x : V} {A : As} {L : List ByteArray} (he : errK x.k 0 = 0) (h : LInv A L) : doneE x A 0 = dnE x.ns L := by
  rw [doneE, he, if_neg (by simp), dnE]
  have : (x.ns.all fun s => decide (mget A s ≠ 0)) = x.ns.all (anyB L) := by
    congr 1
    funext s
    rw [Bool.eq_iff_iff, decide_eq_true_eq]
    exact h s
  rw [this]
theorem rqL_len (c : Cl) (L : List ByteArray) : (rqL c L).length ≤ L.length + 1 := by
  unfold rqL
  repeat (split; · simp)
  simp
theorem rl_len {x : V} (h5 : x.k = 5) (hl : x.ns.length = x.xs.length) (ha : asc x.ns = true) (m : ByteArray) (mo : Int) : (rlL x m mo).length ≤ x.wt := by
  obtain ⟨-, g2⟩ := gr_alive h5 hl ha m
  rw [rlL]
  split
  · simp
  · rw [rtV, g2]
    split
    · have h1 := wts_len (getV x m).xs
      have h2 := wt_eq (getV x m)
      have h3 := getV_wt x m
      omega
    · have : V.zero.xs = [] := rfl
      rw [this]; simp
def oE (x : V) (k : Nat) : Int := if x.ns.length ≠ x.xs.length ∨ asc (x.ns.take (k + 1)) = false then 3 else 0
theorem asc_take {ns : List ByteArray} {m : Nat} : asc (ns.take m) = true ↔ ∀ i (h : i + 1 < ns.length), i + 1 < m → sLt ns[i] ns[i + 1] = true := by
  rw [asc_iff]
  constructor
  · intro h i hi him
    have := h i (by rw [List.length_take]; omega)
    simpa using this
  · intro h i hi
    rw [List.length_take] at hi
    simpa using h i (by omega) (by omega)
theorem oE_0 {x : V} (h : x.ns.length = x.xs.length) : (0 : Int) = oE x 0 := by
  rw [oE, if_neg]
  rintro (h1 | h1)
  · exact h1 h
  · have : asc (x.ns.take (0 + 1)) = true := asc_take.2 fun i hi h2 => by omega
    rw [this] at h1; cases h1
theorem oE_len {x : V} (k : Nat) (h : x.ns.length ≠ x.xs.length) : (3 : Int) = oE x k := by rw [oE, if_pos (.inl h)]
theorem oE_T {x : V} {k : Nat} (h : k + 1 < x.ns.length) (hf : sLt x.ns[k] x.ns[k + 1] = false) : (3 : Int) = oE x (k + 1) := by
  have : asc (x.ns.take (k + 1 + 1)) = false := by
    cases hq : asc (x.ns.take (k + 1 + 1)) with
    | false => rfl
    | true => have := asc_take.1 hq k h (by omega); rw [hf] at this; cases this
  rw [oE, if_pos (.inr this)]
theorem oE_S {x : V} {k : Nat} (h : k + 1 < x.ns.length) (ht : sLt x.ns[k] x.ns[k + 1] = true) : oE x k = oE x (k + 1) := by
  have : asc (x.ns.take (k + 1)) = asc (x.ns.take (k + 1 + 1)) := by
    rw [Bool.eq_iff_iff, asc_take, asc_take]
    exact ⟨fun hq i hi h2 => by
      by_cases he : i = k
      · subst he; exact ht
      · exact hq i hi (by omega), fun hq i hi h2 => hq i hi (by omega)⟩
  rw [oE, oE, this]
theorem oE_end {x : V} {k : Nat} (h5 : x.k = 5) (h : x.ns.length ≤ k + 1) : oE x k = ofE x := by
  have hq : ¬ x.k ≠ 5 := fun h => h h5
  unfold oE ofE
  rw [if_neg hq, List.take_of_length_le h]
theorem ofE_alive {x : V} (h : ofE x = 0) : x.k = 5 ∧ x.ns.length = x.xs.length ∧ asc x.ns = true := by
  unfold ofE at h
  split at h
  · cases h
  · split at h
    · cases h
    · rename_i h1 h2
      refine ⟨by omega, ?_, ?_⟩
      · exact Decidable.byContradiction fun h3 => h2 (.inl h3)
      · cases ha : asc x.ns with
        | true => rfl
        | false => exact absurd (.inr ha) h2
end Go.Eng
namespace Go.Proofs.Ytnobijngkpflcaa
open Go.Eng
set_option maxRecDepth 100000 in
theorem rOfE_ok (x : V) (hxt : x.t.size ≤ maxLen) (w : World) (S : BSet) (cn ci : Value) (hv : Rd w S (strsD x.ns) cn) (hu : Rd w S (valsD x.xs) ci) : Calls Try.prog 30 #[.agg #[.int .u8 x.k, .int .i64 x.n, .string x.t, cn, ci]] w (Ret w fun u W => ∃ b, u = .pointer (some ⟨b, 0, none⟩) ∧ w.heap.size ≤ b ∧ Own W b [.int .u8 x.k, .int .i64 x.n, .string x.t, cn, ci, .slice none 0 0, .int .i64 (ofE x)] 56) := by
 have hln : x.ns.length ≤ maxLen := rd_lenS hv
 simp only [maxLen] at hln
 obtain ⟨cna, cnc, ev, D_cn⟩ := rdS_out (rd_arg hv)
 subst ev
 obtain ⟨cia, cic, ev, D_ci⟩ := rdVs_out (rd_arg hu)
 subst ev
 refine enter Try.func30 rfl Try.ntmps30 (lbr rfl) fun a0 y0 zz0 harg => ?_
 have e0 : sl a0 0 = (.agg #[(.int .u8 (x.k)), (.int .i64 (x.n)), (.string (x.t)), (.slice cna (x.ns.length) cnc), (.slice cia (x.xs.length) cic)]) := harg 0 (lbr rfl)
 have kw := Keeps.refl All w
 clear harg
 refine zq fun K1 hK1 => ?_
 refine rg mixed y0 zz0 ?_
 refine .boxOp (v := (.agg #[(.int .u8 (x.k)), (.int .i64 (x.n)), (.string (x.t)), (.slice cna (x.ns.length) cnc), (.slice cia (x.xs.length) cic)])) (hbs rfl e0) ?_
 refine .ac ?_
 refine .dn fun a2 g W2 y2 zz2 hk hg hV hR hP => ?_
 obtain ⟨-, ⟨b1_2, e1, hb1, own_b1_2⟩, -⟩ := hV
 have lo_b1_2 : w.heap.size ≤ b1_2 := Nat.le_trans kw.size (hg.lo _ _ hb1)
 have own_b1_2 : Own W2 b1_2 [(.int .u8 (x.k)), (.int .i64 (x.n)), (.string (x.t)), (.slice cna (x.ns.length) cnc), (.slice cia (x.xs.length) cic)] 33 := own_b1_2
 replace D_cn := sa_more D_cn hk [b1_2] (in_cons (hg.lo _ _ hb1) in_nil)
 replace D_ci := sa_more D_ci hk [b1_2] (in_cons (hg.lo _ _ hb1) in_nil)
 replace kw := kw.x hk
 clear hR hk hg hP hb1
 refine zn (hK1 _ _ ?_)
 refine zq fun K3 hK3 => ?_
 refine rg mixed y2 zz2 ?_
 refine .i (v := (.agg #[(.int .u8 (x.k)), (.int .i64 (x.n)), (.string (x.t)), (.slice cna (x.ns.length) cnc), (.slice cia (x.xs.length) cic)])) (loA (hbs rfl e1) own_b1_2 trivial agg33 sz33 rfl rfl) ?_
 refine .i (v := (.agg #[(.int .u8 (x.k)), (.int .i64 (x.n)), (.string (x.t)), (.slice cna (x.ns.length) cnc), (.slice cia (x.xs.length) cic), (.slice none 0 0), (.int .i64 (0))])) (sp_build (vs := [(0, (.agg #[(.int .u8 (x.k)), (.int .i64 (x.n)), (.string (x.t)), (.slice cna (x.ns.length) cnc), (.slice cia (x.xs.length) cic)]))]) Try.underlying56 z56 (pl56 Try.underlying56) ⟨rfl, (hlc rfl), trivial⟩ (by kernel_rfl)) ?_
 refine .boxOp (v := (.agg #[(.int .u8 (x.k)), (.int .i64 (x.n)), (.string (x.t)), (.slice cna (x.ns.length) cnc), (.slice cia (x.xs.length) cic), (.slice none 0 0), (.int .i64 (0))])) (hlc rfl) ?_
 refine .dn fun a4 g W4 y4 zz4 hk hg hV hR hP => ?_
 obtain ⟨⟨b7_4, e7, hb7, own_b7_4⟩, -, -, -⟩ := hV
 have lo_b7_4 : w.heap.size ≤ b7_4 := Nat.le_trans kw.size (hg.lo _ _ hb7)
 have ne_b1_2_b7_4 : b1_2 ≠ b7_4 := Nat.ne_of_lt (Nat.lt_of_lt_of_le own_b1_2.lt (hg.lo _ _ hb7))
 have own_b7_4 : Own W4 b7_4 [(.int .u8 (x.k)), (.int .i64 (x.n)), (.string (x.t)), (.slice cna (x.ns.length) cnc), (.slice cia (x.xs.length) cic), (.slice none 0 0), (.int .i64 (0))] 56 := own_b7_4
 replace e1 := ft hR e1
 replace D_cn := sa_more D_cn hk [b7_4] (in_cons (hg.lo _ _ hb7) in_nil)
 replace D_ci := sa_more D_ci hk [b7_4] (in_cons (hg.lo _ _ hb7) in_nil)
 replace own_b1_2 := own_b1_2.ext hk
 replace kw := kw.x hk
 clear hR hk hg hP hb7
 refine tail_assign (v := (.pointer (some ⟨b7_4, 0, none⟩))) e7 (by rw [y4]; exact Nat.le_of_ble_eq_true rfl) (fun a5 y5 zz5 e3 hr => ?_)
 replace y5 := y5.trans y4; replace zz5 := zz5.trans zz4
 replace e1 := (hr 1 (by decide)).trans e1
 replace e7 := (hr 7 (by decide)).trans e7
 clear hr
 refine zn (hK3 _ _ ?_)
 refine zq fun K6 hK6 => ?_
 refine zq fun K7 hK7 => ?_
 refine rg mixed y5 zz5 ?_
 refine .i (fo 0 (hbs rfl e1) Try.underlying33 rfl sz5 rfl) ?_
 refine .i (lo1 (hlc rfl) own_b1_2 trivial agg5 sz5 rfl) ?_
 refine .i (sp_neq (hlc rfl) Has.cst) ?_
 refine .dn fun a8 g W8 y8 zz8 hk hg hV hR hP => ?_
 obtain ⟨e10, -, -, -⟩ := hV
 replace e1 := ft hR e1
 replace e3 := ft hR e3
 replace D_cn := D_cn.ext hk
 replace D_ci := D_ci.ext hk
 replace e10 := e10.q
 replace own_b1_2 := own_b1_2.ext hk
 replace own_b7_4 := own_b7_4.ext hk
 replace kw := kw.x hk
 clear hR hk hg hP
 refine zn (hK7 _ _ ?_)
 refine zc e10 (fun hc => ?_) (fun hc => ?_)
 ·
  have hfin : ofE x = 10 := by rw [ofE, if_pos]; simp at hc; omega
  refine zq fun K9 hK9 => ?_
  refine rg mixed y8 zz8 ?_
  refine .mb rfl e3 ?_
  refine .i (sp_nilP (hlc rfl)) ?_
  refine .i (fo 6 (hlc rfl) Try.underlying56 rfl sz28 rfl) ?_
  refine .dn fun a10 g W10 y10 zz10 hk hg hV hR hP => ?_
  obtain ⟨e13, -, -, -⟩ := hV
  replace e3 := ft hR e3
  replace D_cn := D_cn.ext hk
  replace D_ci := D_ci.ext hk
  have e13 : sl a10 13 = (.pointer (some ⟨b7_4, 6, none⟩)) := e13
  replace own_b1_2 := own_b1_2.ext hk
  replace own_b7_4 := own_b7_4.ext hk
  replace kw := kw.x hk
  clear hR hk hg hP
  refine tail_store (b := b7_4) (o := 6) (v := (.int .i64 (10))) e13 rfl sz28 rfl own_b7_4 (lbr rfl) (all_cons rfl all_nil) (fun W11 hs own_b7_4 => ?_)
  have own_b7_4 : Own W11 b7_4 [(.int .u8 (x.k)), (.int .i64 (x.n)), (.string (x.t)), (.slice cna (x.ns.length) cnc), (.slice cia (x.xs.length) cic), (.slice none 0 0), (.int .i64 (10))] 56 := own_b7_4
  replace own_b1_2 := own_store own_b1_2 hs ne_b1_2_b7_4
  replace D_cn := sa_store D_cn hs (by simp)
  replace D_ci := sa_store D_ci hs (by simp)
  replace kw := keeps_store kw hs lo_b7_4
  clear hs
  refine zn (hK9 _ _ ?_)
  refine zq fun K12 hK12 => ?_
  refine rg mixed y10 zz10 ?_
  refine .mb rfl e3 ?_
  refine .al rfl ?_
  refine .dn fun a13 g W13 y13 zz13 hk hg hV hR hP => ?_
  obtain ⟨e2, -, -⟩ := hV
  replace D_cn := D_cn.ext hk
  replace D_ci := D_ci.ext hk
  have e2 : sl a13 2 = (.pointer (some ⟨b7_4, 0, none⟩)) := e2
  replace own_b1_2 := own_b1_2.ext hk
  replace own_b7_4 := own_b7_4.ext hk
  replace kw := kw.x hk
  clear hR hk hg hP
  refine zn (hK12 _ _ ?_)
  refine wp_ret ?_
  refine ret1 rfl zz13 e2 ⟨_, rfl, kw, ?_⟩
  rw [hfin]
  exact ⟨_, rfl, lo_b7_4, own_b7_4⟩
 have hk5 : x.k = 5 := by simp at hc; omega
 refine wp_skip (hK6 _ _ ?_)
 refine zq fun K14 hK14 => ?_
 refine zq fun K15 hK15 => ?_
 refine rg mixed y8 zz8 ?_
 refine .i (fo 3 (hbs rfl e1) Try.underlying33 rfl sz23 rfl) ?_
 refine .i (lo1 (hlc rfl) own_b1_2 trivial agg23 sz23 rfl) ?_
 refine .i (sp_lenSs Try.underlying23 ((hlc rfl).dat D_cn sub_all)) ?_
 refine .i (fo 4 (hbs rfl e1) Try.underlying33 rfl sz31 rfl) ?_
 refine .i (lo1 (hlc rfl) own_b1_2 trivial agg31 sz31 rfl) ?_
 refine .i (sp_lenVs Try.underlying31 ((hlc rfl).dat D_ci sub_all)) ?_
 refine .i (sp_neq (hlc rfl) (hlc rfl)) ?_
 refine .dn fun a16 g W16 y16 zz16 hk hg hV hR hP => ?_
 obtain ⟨e21, -, -, -, -, -, -, -⟩ := hV
 replace e1 := ft hR e1
 replace e3 := ft hR e3
 replace D_cn := D_cn.ext hk
 replace D_ci := D_ci.ext hk
 replace e21 := e21.q
 replace own_b1_2 := own_b1_2.ext hk
 replace own_b7_4 := own_b7_4.ext hk
 replace kw := kw.x hk
 clear hR hk hg hP
 refine zn (hK15 _ _ ?_)
 refine zc e21 (fun hc => ?_) (fun hc => ?_)
 ·
  have h30 : (3 : Int) = oE x 0 := oE_len 0 (by simp at hc; omega)
  refine rg mixed y16 zz16 ?_
  refine .mb rfl e3 ?_
  refine .i (sp_nilP (hlc rfl)) ?_
  refine .i (fo 6 (hlc rfl) Try.underlying56 rfl sz28 rfl) ?_
  refine .dn fun a17 g W17 y17 zz17 hk hg hV hR hP => ?_
  obtain ⟨e24, -, -, -⟩ := hV
  replace e1 := ft hR e1
  replace e3 := ft hR e3
  replace D_cn := D_cn.ext hk
  replace D_ci := D_ci.ext hk
  have e24 : sl a17 24 = (.pointer (some ⟨b7_4, 6, none⟩)) := e24
  replace own_b1_2 := own_b1_2.ext hk
  replace own_b7_4 := own_b7_4.ext hk
  replace kw := kw.x hk
  clear hR hk hg hP
  refine tail_store (b := b7_4) (o := 6) (v := (.int .i64 (3))) e24 rfl sz28 rfl own_b7_4 (lbr rfl) (all_cons rfl all_nil) (fun W18 hs own_b7_4 => ?_)
  have own_b7_4 : Own W18 b7_4 [(.int .u8 (x.k)), (.int .i64 (x.n)), (.string (x.t)), (.slice cna (x.ns.length) cnc), (.slice cia (x.xs.length) cic), (.slice none 0 0), (.int .i64 (3))] 56 := own_b7_4
  replace own_b1_2 := own_store own_b1_2 hs ne_b1_2_b7_4
  replace D_cn := sa_store D_cn hs (by simp)
  replace D_ci := sa_store D_ci hs (by simp)
  replace kw := keeps_store kw hs lo_b7_4
  clear hs
  refine zn (hK14 _ _ ?_)
  refine zq fun K19 hK19 => ?_
  refine zq fun K20 hK20 => ?_
  refine rg mixed y17 zz17 ?_
  refine .ac ?_
  refine .dn fun a21 g W21 y21 zz21 hk hg hV hR hP => ?_
  obtain ⟨e4, -⟩ := hV
  replace e1 := ft hR e1
  replace e3 := ft hR e3
  replace D_cn := D_cn.ext hk
  replace D_ci := D_ci.ext hk
  replace e4 := e4.q
  replace own_b1_2 := own_b1_2.ext hk
  replace own_b7_4 := own_b7_4.ext hk
  replace kw := kw.x hk
  clear hR hk hg hP
  refine zn (hK20 _ _ ?_)
  refine wp_block ?_
  refine wp_for (x.ns.length) (fun k a W => ∃ (e2 : Int), a.tmps.size = 48 ∧ a.defers = [] ∧ Keeps All w W ∧ sl a 1 = (.pointer (some ⟨b1_2, 0, none⟩)) ∧ sl a 3 = (.pointer (some ⟨b7_4, 0, none⟩)) ∧ sl a 4 = (.int .i64 (((k + 1 : Nat) : Int))) ∧ Own W b1_2 [(.int .u8 (x.k)), (.int .i64 (x.n)), (.string (x.t)), (.slice cna (x.ns.length) cnc), (.slice cia (x.xs.length) cic)] 33 ∧ Own W b7_4 [(.int .u8 (x.k)), (.int .i64 (x.n)), (.string (x.t)), (.slice cna (x.ns.length) cnc), (.slice cia (x.xs.length) cic), (.slice none 0 0), (.int .i64 (e2))] 56 ∧ Rd W (SA w S [b7_4, b1_2]) (strsD (x.ns)) (.slice cna (x.ns.length) cnc) ∧ Rd W (SA w S [b7_4, b1_2]) (valsD (x.xs)) (.slice cia (x.xs.length) cic) ∧ (e2 = oE x k)) ⟨_, y21, zz21, kw, e1, e3, (e4.trans (congrArg (Value.int .i64) (rfl))), own_b1_2, own_b7_4, D_cn, D_ci, h30⟩ ?_
  clear kw e1 e3 e4 own_b1_2 own_b7_4 D_cn D_ci
  rintro k a22 W22 hkk ⟨e2, y22, zz22, kw, e1, e3, e4, own_b1_2, own_b7_4, D_cn, D_ci, hin⟩
  refine zq fun K23 hK23 => ?_
  refine zq fun K24 hK24 => ?_
  refine rg mixed y22 zz22 ?_
  refine .mb rfl e4 ?_
  refine .i (fo 3 (hbs rfl e1) Try.underlying33 rfl sz23 rfl) ?_
  refine .i (lo1 (hlc rfl) own_b1_2 trivial agg23 sz23 rfl) ?_
  refine .i (sp_lenSs Try.underlying23 ((hlc rfl).dat D_cn sub_all)) ?_
  refine .i (sp_lss (hlc rfl) (hlc rfl)) ?_
  refine .dn fun a25 g W25 y25 zz25 hk hg hV hR hP => ?_
  obtain ⟨e29, -, -, -, -, -⟩ := hV
  replace e1 := ft hR e1
  replace e3 := ft hR e3
  replace e4 := ft hR e4
  replace D_cn := D_cn.ext hk
  replace D_ci := D_ci.ext hk
  replace e29 := e29.q
  replace own_b1_2 := own_b1_2.ext hk
  replace own_b7_4 := own_b7_4.ext hk
  replace kw := kw.x hk
  clear hR hk hg hP
  refine zn (hK24 _ _ ?_)
  refine zc e29 (fun hc => ?_) (fun hc => ?_)
  ·
   have hlt : k + 1 < x.ns.length := by have := of_decide_eq_true hc; omega
   refine wp_skip (hK23 _ _ ?_)
   refine zq fun K26 hK26 => ?_
   refine wp_block ?_
   refine zq fun K27 hK27 => ?_
   refine rg mixed y25 zz25 ?_
   refine .i (fo 3 (hbs rfl e1) Try.underlying33 rfl sz23 rfl) ?_
   refine .i (lo1 (hlc rfl) own_b1_2 trivial agg23 sz23 rfl) ?_
   refine .mb rfl e4 ?_
   refine .i (sp_sub (hlc rfl) Has.cst (i64_in (by omega))) ?_
   refine .rf (sp_indexS (i := k) ((hlc rfl).dat D_cn sub_all) (hlc rfl) Try.underlying23 sz9 (by omega) (by omega)) ?_
   refine .i (sp_loadStr (hlc rfl) agg9 sz9) ?_
   refine .i (fo 3 (hbs rfl e1) Try.underlying33 rfl sz23 rfl) ?_
   refine .i (lo1 (hlc rfl) own_b1_2 trivial agg23 sz23 rfl) ?_
   refine .mb rfl e4 ?_
   refine .rf (sp_indexS (i := (k + 1)) ((hlc rfl).dat D_cn sub_all) (hlc rfl) Try.underlying23 sz9 rfl hlt) ?_
   refine .i (sp_loadStr (hlc rfl) agg9 sz9) ?_
   refine .i (sp_sGeq (hlc rfl) (hlc rfl)) ?_
   refine .dn fun a28 g W28 y28 zz28 hk hg hV hR hP => ?_
   obtain ⟨e43, -, -, -, -, -, -, -, -, -, -, -, -⟩ := hV
   replace e1 := ft hR e1
   replace e3 := ft hR e3
   replace e4 := ft hR e4
   replace D_cn := D_cn.ext hk
   replace D_ci := D_ci.ext hk
   replace e43 := e43.q
   replace own_b1_2 := own_b1_2.ext hk
   replace own_b7_4 := own_b7_4.ext hk
   replace kw := kw.x hk
   clear hR hk hg hP
   refine zn (hK27 _ _ ?_)
   refine zc e43 (fun hc => ?_) (fun hc => ?_)
   ·
    have hst : (3 : Int) = oE x (k + 1) := oE_T hlt (by simpa using hc)
    refine rg mixed y28 zz28 ?_
    refine .mb rfl e3 ?_
    refine .i (sp_nilP (hlc rfl)) ?_
    refine .i (fo 6 (hlc rfl) Try.underlying56 rfl sz28 rfl) ?_
    refine .dn fun a29 g W29 y29 zz29 hk hg hV hR hP => ?_
    obtain ⟨e46, -, -, -⟩ := hV
    replace e1 := ft hR e1
    replace e3 := ft hR e3
    replace e4 := ft hR e4
    replace D_cn := D_cn.ext hk
    replace D_ci := D_ci.ext hk
    have e46 : sl a29 46 = (.pointer (some ⟨b7_4, 6, none⟩)) := e46
    replace own_b1_2 := own_b1_2.ext hk
    replace own_b7_4 := own_b7_4.ext hk
    replace kw := kw.x hk
    clear hR hk hg hP
    refine tail_store (b := b7_4) (o := 6) (v := (.int .i64 (3))) e46 rfl sz28 rfl own_b7_4 (lbr rfl) (all_cons rfl all_nil) (fun W30 hs own_b7_4 => ?_)
    have own_b7_4 : Own W30 b7_4 [(.int .u8 (x.k)), (.int .i64 (x.n)), (.string (x.t)), (.slice cna (x.ns.length) cnc), (.slice cia (x.xs.length) cic), (.slice none 0 0), (.int .i64 (3))] 56 := own_b7_4
    replace own_b1_2 := own_store own_b1_2 hs ne_b1_2_b7_4
    replace D_cn := sa_store D_cn hs (by simp)
    replace D_ci := sa_store D_ci hs (by simp)
    replace kw := keeps_store kw hs lo_b7_4
    clear hs
    refine zn (hK26 _ _ ?_)
    refine rg mixed y29 zz29 ?_
    refine .mb rfl e4 ?_
    refine .i (sp_add (hlc rfl) Has.cst (i64_in (by omega))) ?_
    refine .al rfl ?_
    refine .dn fun a31 g W31 y31 zz31 hk hg hV hR hP => ?_
    obtain ⟨e4, -, -, -⟩ := hV
    replace e1 := ft hR e1
    replace e3 := ft hR e3
    replace D_cn := D_cn.ext hk
    replace D_ci := D_ci.ext hk
    replace e4 := e4.q
    replace own_b1_2 := own_b1_2.ext hk
    replace own_b7_4 := own_b7_4.ext hk
    replace kw := kw.x hk
    clear hR hk hg hP
    exact tail_nil ⟨by omega, _, y31, zz31, kw, e1, e3, (e4.trans (congrArg (Value.int .i64) (by omega))), own_b1_2, own_b7_4, D_cn, D_ci, hst⟩
   have hst : e2 = oE x (k + 1) := hin.trans (oE_S hlt (by simpa using hc))
   refine wp_skip (hK26 _ _ ?_)
   refine rg mixed y28 zz28 ?_
   refine .mb rfl e4 ?_
   refine .i (sp_add (hlc rfl) Has.cst (i64_in (by omega))) ?_
   refine .al rfl ?_
   refine .dn fun a32 g W32 y32 zz32 hk hg hV hR hP => ?_
   obtain ⟨e4, -, -, -⟩ := hV
   replace e1 := ft hR e1
   replace e3 := ft hR e3
   replace D_cn := D_cn.ext hk
   replace D_ci := D_ci.ext hk
   replace e4 := e4.q
   replace own_b1_2 := own_b1_2.ext hk
   replace own_b7_4 := own_b7_4.ext hk
   replace kw := kw.x hk
   clear hR hk hg hP
   exact tail_nil ⟨by omega, _, y32, zz32, kw, e1, e3, (e4.trans (congrArg (Value.int .i64) (by omega))), own_b1_2, own_b7_4, D_cn, D_ci, hst⟩
  have hfin : ofE x = e2 := by rw [hin, oE_end hk5 (by have := of_decide_eq_false hc; omega)]
  refine wp_exit (hK19 _ _ ?_)
  refine zq fun K33 hK33 => ?_
  refine rg mixed y25 zz25 ?_
  refine .mb rfl e3 ?_
  refine .al rfl ?_
  refine .dn fun a34 g W34 y34 zz34 hk hg hV hR hP => ?_
  obtain ⟨e2, -, -⟩ := hV
  replace D_cn := D_cn.ext hk
  replace D_ci := D_ci.ext hk
  have e2 : sl a34 2 = (.pointer (some ⟨b7_4, 0, none⟩)) := e2
  replace own_b1_2 := own_b1_2.ext hk
  replace own_b7_4 := own_b7_4.ext hk
  replace kw := kw.x hk
  clear hR hk hg hP
  refine zn (hK33 _ _ ?_)
  refine wp_ret ?_
  refine ret1 rfl zz34 e2 ⟨_, rfl, kw, ?_⟩
  rw [hfin]
  exact ⟨_, rfl, lo_b7_4, own_b7_4⟩
 have h30 : (0 : Int) = oE x 0 := oE_0 (by simp at hc; omega)
 refine wp_skip (hK14 _ _ ?_)
 refine zq fun K35 hK35 => ?_
 refine zq fun K36 hK36 => ?_
 refine rg mixed y16 zz16 ?_
 refine .ac ?_
 refine .dn fun a37 g W37 y37 zz37 hk hg hV hR hP => ?_
 obtain ⟨e4, -⟩ := hV
 replace e1 := ft hR e1
 replace e3 := ft hR e3
 replace D_cn := D_cn.ext hk
 replace D_ci := D_ci.ext hk
 replace e4 := e4.q
 replace own_b1_2 := own_b1_2.ext hk
 replace own_b7_4 := own_b7_4.ext hk
 replace kw := kw.x hk
 clear hR hk hg hP
 refine zn (hK36 _ _ ?_)
 refine wp_block ?_
 refine wp_for (x.ns.length) (fun k a W => ∃ (e2 : Int), a.tmps.size = 48 ∧ a.defers = [] ∧ Keeps All w W ∧ sl a 1 = (.pointer (some ⟨b1_2, 0, none⟩)) ∧ sl a 3 = (.pointer (some ⟨b7_4, 0, none⟩)) ∧ sl a 4 = (.int .i64 (((k + 1 : Nat) : Int))) ∧ Own W b1_2 [(.int .u8 (x.k)), (.int .i64 (x.n)), (.string (x.t)), (.slice cna (x.ns.length) cnc), (.slice cia (x.xs.length) cic)] 33 ∧ Own W b7_4 [(.int .u8 (x.k)), (.int .i64 (x.n)), (.string (x.t)), (.slice cna (x.ns.length) cnc), (.slice cia (x.xs.length) cic), (.slice none 0 0), (.int .i64 (e2))] 56 ∧ Rd W (SA w S [b7_4, b1_2]) (strsD (x.ns)) (.slice cna (x.ns.length) cnc) ∧ Rd W (SA w S [b7_4, b1_2]) (valsD (x.xs)) (.slice cia (x.xs.length) cic) ∧ (e2 = oE x k)) ⟨_, y37, zz37, kw, e1, e3, (e4.trans (congrArg (Value.int .i64) (rfl))), own_b1_2, own_b7_4, D_cn, D_ci, h30⟩ ?_
 clear kw e1 e3 e4 own_b1_2 own_b7_4 D_cn D_ci
 rintro k a38 W38 hkk ⟨e2, y38, zz38, kw, e1, e3, e4, own_b1_2, own_b7_4, D_cn, D_ci, hin⟩
 refine zq fun K39 hK39 => ?_
 refine zq fun K40 hK40 => ?_
 refine rg mixed y38 zz38 ?_
 refine .mb rfl e4 ?_
 refine .i (fo 3 (hbs rfl e1) Try.underlying33 rfl sz23 rfl) ?_
 refine .i (lo1 (hlc rfl) own_b1_2 trivial agg23 sz23 rfl) ?_
 refine .i (sp_lenSs Try.underlying23 ((hlc rfl).dat D_cn sub_all)) ?_
 refine .i (sp_lss (hlc rfl) (hlc rfl)) ?_
 refine .dn fun a41 g W41 y41 zz41 hk hg hV hR hP => ?_
 obtain ⟨e29, -, -, -, -, -⟩ := hV
 replace e1 := ft hR e1
 replace e3 := ft hR e3
 replace e4 := ft hR e4
 replace D_cn := D_cn.ext hk
 replace D_ci := D_ci.ext hk
 replace e29 := e29.q
 replace own_b1_2 := own_b1_2.ext hk
 replace own_b7_4 := own_b7_4.ext hk
 replace kw := kw.x hk
 clear hR hk hg hP
 refine zn (hK40 _ _ ?_)
 refine zc e29 (fun hc => ?_) (fun hc => ?_)
 ·
  have hlt : k + 1 < x.ns.length := by have := of_decide_eq_true hc; omega
  refine wp_skip (hK39 _ _ ?_)
  refine zq fun K42 hK42 => ?_
  refine wp_block ?_
  refine zq fun K43 hK43 => ?_
  refine rg mixed y41 zz41 ?_
  refine .i (fo 3 (hbs rfl e1) Try.underlying33 rfl sz23 rfl) ?_
  refine .i (lo1 (hlc rfl) own_b1_2 trivial agg23 sz23 rfl) ?_
  refine .mb rfl e4 ?_
  refine .i (sp_sub (hlc rfl) Has.cst (i64_in (by omega))) ?_
  refine .rf (sp_indexS (i := k) ((hlc rfl).dat D_cn sub_all) (hlc rfl) Try.underlying23 sz9 (by omega) (by omega)) ?_
  refine .i (sp_loadStr (hlc rfl) agg9 sz9) ?_
  refine .i (fo 3 (hbs rfl e1) Try.underlying33 rfl sz23 rfl) ?_
  refine .i (lo1 (hlc rfl) own_b1_2 trivial agg23 sz23 rfl) ?_
  refine .mb rfl e4 ?_
  refine .rf (sp_indexS (i := (k + 1)) ((hlc rfl).dat D_cn sub_all) (hlc rfl) Try.underlying23 sz9 rfl hlt) ?_
  refine .i (sp_loadStr (hlc rfl) agg9 sz9) ?_
  refine .i (sp_sGeq (hlc rfl) (hlc rfl)) ?_
  refine .dn fun a44 g W44 y44 zz44 hk hg hV hR hP => ?_
  obtain ⟨e43, -, -, -, -, -, -, -, -, -, -, -, -⟩ := hV
  replace e1 := ft hR e1
  replace e3 := ft hR e3
  replace e4 := ft hR e4
  replace D_cn := D_cn.ext hk
  replace D_ci := D_ci.ext hk
  replace e43 := e43.q
  replace own_b1_2 := own_b1_2.ext hk
  replace own_b7_4 := own_b7_4.ext hk
  replace kw := kw.x hk
  clear hR hk hg hP
  refine zn (hK43 _ _ ?_)
  refine zc e43 (fun hc => ?_) (fun hc => ?_)
  ·
   have hst : (3 : Int) = oE x (k + 1) := oE_T hlt (by simpa using hc)
   refine rg mixed y44 zz44 ?_
   refine .mb rfl e3 ?_
   refine .i (sp_nilP (hlc rfl)) ?_
   refine .i (fo 6 (hlc rfl) Try.underlying56 rfl sz28 rfl) ?_
   refine .dn fun a45 g W45 y45 zz45 hk hg hV hR hP => ?_
   obtain ⟨e46, -, -, -⟩ := hV
   replace e1 := ft hR e1
   replace e3 := ft hR e3
   replace e4 := ft hR e4
   replace D_cn := D_cn.ext hk
   replace D_ci := D_ci.ext hk
   have e46 : sl a45 46 = (.pointer (some ⟨b7_4, 6, none⟩)) := e46
   replace own_b1_2 := own_b1_2.ext hk
   replace own_b7_4 := own_b7_4.ext hk
   replace kw := kw.x hk
   clear hR hk hg hP
   refine tail_store (b := b7_4) (o := 6) (v := (.int .i64 (3))) e46 rfl sz28 rfl own_b7_4 (lbr rfl) (all_cons rfl all_nil) (fun W46 hs own_b7_4 => ?_)
   have own_b7_4 : Own W46 b7_4 [(.int .u8 (x.k)), (.int .i64 (x.n)), (.string (x.t)), (.slice cna (x.ns.length) cnc), (.slice cia (x.xs.length) cic), (.slice none 0 0), (.int .i64 (3))] 56 := own_b7_4
   replace own_b1_2 := own_store own_b1_2 hs ne_b1_2_b7_4
   replace D_cn := sa_store D_cn hs (by simp)
   replace D_ci := sa_store D_ci hs (by simp)
   replace kw := keeps_store kw hs lo_b7_4
   clear hs
   refine zn (hK42 _ _ ?_)
   refine rg mixed y45 zz45 ?_
   refine .mb rfl e4 ?_
   refine .i (sp_add (hlc rfl) Has.cst (i64_in (by omega))) ?_
   refine .al rfl ?_
   refine .dn fun a47 g W47 y47 zz47 hk hg hV hR hP => ?_
   obtain ⟨e4, -, -, -⟩ := hV
   replace e1 := ft hR e1
   replace e3 := ft hR e3
   replace D_cn := D_cn.ext hk
   replace D_ci := D_ci.ext hk
   replace e4 := e4.q
   replace own_b1_2 := own_b1_2.ext hk
   replace own_b7_4 := own_b7_4.ext hk
   replace kw := kw.x hk
   clear hR hk hg hP
   exact tail_nil ⟨by omega, _, y47, zz47, kw, e1, e3, (e4.trans (congrArg (Value.int .i64) (by omega))), own_b1_2, own_b7_4, D_cn, D_ci, hst⟩
  have hst : e2 = oE x (k + 1) := hin.trans (oE_S hlt (by simpa using hc))
  refine wp_skip (hK42 _ _ ?_)
  refine rg mixed y44 zz44 ?_
  refine .mb rfl e4 ?_
  refine .i (sp_add (hlc rfl) Has.cst (i64_in (by omega))) ?_
  refine .al rfl ?_
  refine .dn fun a48 g W48 y48 zz48 hk hg hV hR hP => ?_
  obtain ⟨e4, -, -, -⟩ := hV
  replace e1 := ft hR e1
  replace e3 := ft hR e3
  replace D_cn := D_cn.ext hk
  replace D_ci := D_ci.ext hk
  replace e4 := e4.q
  replace own_b1_2 := own_b1_2.ext hk
  replace own_b7_4 := own_b7_4.ext hk
  replace kw := kw.x hk
  clear hR hk hg hP
  exact tail_nil ⟨by omega, _, y48, zz48, kw, e1, e3, (e4.trans (congrArg (Value.int .i64) (by omega))), own_b1_2, own_b7_4, D_cn, D_ci, hst⟩
 have hfin : ofE x = e2 := by rw [hin, oE_end hk5 (by have := of_decide_eq_false hc; omega)]
 refine wp_exit (hK35 _ _ ?_)
 refine zq fun K49 hK49 => ?_
 refine rg mixed y41 zz41 ?_
 refine .mb rfl e3 ?_
 refine .al rfl ?_
 refine .dn fun a50 g W50 y50 zz50 hk hg hV hR hP => ?_
 obtain ⟨e2, -, -⟩ := hV
 replace D_cn := D_cn.ext hk
 replace D_ci := D_ci.ext hk
 have e2 : sl a50 2 = (.pointer (some ⟨b7_4, 0, none⟩)) := e2
 replace own_b1_2 := own_b1_2.ext hk
 replace own_b7_4 := own_b7_4.ext hk
 replace kw := kw.x hk
 clear hR hk hg hP
 refine zn (hK49 _ _ ?_)
 refine wp_ret ?_
 refine ret1 rfl zz50 e2 ⟨_, rfl, kw, ?_⟩
 rw [hfin]
 exact ⟨_, rfl, lo_b7_4, own_b7_4⟩
end Go.Proofs.Ytnobijngkpflcaa
namespace Go.Proofs.Ytnobijngkpflcaa
open Go.Eng
structure PA (W : World) (n : Nat) (x : V) (bo bx k : Nat) (d : Int) (A : As) (L : List ByteArray) (cn ci dn di : Value) (bm lo : Nat) (av : Value) (hd : Option Nat) (G S : BSet) : Prop where
  ab : AB k A
  inv : LInv A L
  len : L.length ≤ k
  dd : d = dnE x.ns L
  cln : ∀ b o, G b o → Cln o
  gM : ∀ b ∈ (bo :: bm :: bx :: (blks hd ++ [])), ∀ o, ¬ G b o
  sn : ∀ b o, S b o → b < n
  nM : ∀ b ∈ (bo :: bm :: bx :: (blks hd ++ [])), n ≤ b
  n1 : bo ≠ bm
  n2 : bo ≠ bx
  n3 : bm ≠ bx
  n4 : bx ∉ blks hd
  n5 : bo ∉ blks hd
  n6 : bm ∉ blks hd
  r1 : Rd W G (strsD x.ns) cn
  r2 : Rd W G (valsD x.xs) ci
  r3 : Rd W S (strsD x.ns) dn
  r4 : Rd W S (valsD x.xs) di
  o1 : Own W bo [.int .u8 x.k, .int .i64 x.n, .string x.t, cn, ci, .map (some bm), .int .i64 0] 74
  o2 : OwnM W bm A
  o3 : Own W bx [.int .u8 x.k, .int .i64 x.n, .string x.t, dn, di, av, .int .i64 0] 56
  ar : Arr W lo 9 1 (fun _ _ => False) (L.map D.str) av hd
  hlo : lo ≤ W.heap.size
structure PX (W : World) (n bo bx : Nat) (e : Int) (k : Nat) (m : Int) (t : ByteArray) (cn ci mv : Value) (k2 : Nat) (m2 : Int) (t2 : ByteArray) (dn di av : Value) : Prop where
  ne : e ≠ 0
  er : errK k e = e
  l1 : n ≤ bo
  l2 : n ≤ bx
  n2 : bo ≠ bx
  o1 : Own W bo [.int .u8 k, .int .i64 m, .string t, cn, ci, mv, .int .i64 e] 74
  o3 : Own W bx [.int .u8 k2, .int .i64 m2, .string t2, dn, di, av, .int .i64 e] 56
def PQ (W : World) (n : Nat) (x : V) (bo bx k : Nat) (e d : Int) : Prop :=
  (e = 0 ∧ ∃ A L cn ci dn di bm lo av hd G S, PA W n x bo bx k d A L cn ci dn di bm lo av hd G S) ∨ (d = e ∧ ∃ k m t cn ci mv k2 m2 t2 dn di av, PX W n bo bx e k m t cn ci mv k2 m2 t2 dn di av)
theorem PQ.ext {W W' : World} {n : Nat} {x : V} {bo bx k : Nat} {e d : Int} (h : PQ W n x bo bx k e d) (q : Ext W W') : PQ W' n x bo bx k e d := by
  rcases h with ⟨h0, A, L, cn, ci, dn, di, bm, lo, av, hd, G, S, h⟩ | ⟨h0, k, m, t, cn, ci, mv, k2, m2, t2, dn, di, av, h⟩
  · exact .inl ⟨h0, A, L, cn, ci, dn, di, bm, lo, av, hd, G, S, { h with r1 := h.r1.ext q, r2 := h.r2.ext q, r3 := h.r3.ext q, r4 := h.r4.ext q, o1 := h.o1.ext q, o2 := h.o2.ext q, o3 := h.o3.ext q, ar := h.ar.ext q, hlo := Nat.le_trans h.hlo q.size }⟩
  · exact .inr ⟨h0, k, m, t, cn, ci, mv, k2, m2, t2, dn, di, av, { h with o1 := h.o1.ext q, o3 := h.o3.ext q }⟩
theorem PQ.cell {W : World} {n : Nat} {x : V} {bo bx k : Nat} {e d : Int} (h : PQ W n x bo bx k e d) : W.cell? ⟨bx, 6, none⟩ = some (.int .i64 e) := by
  rcases h with ⟨h0, A, L, cn, ci, dn, di, bm, lo, av, hd, G, S, h⟩ | ⟨h0, k, m, t, cn, ci, mv, k2, m2, t2, dn, di, av, h⟩
  · rw [h.o3.cell, h0]; rfl
  · rw [h.o3.cell]; rfl
theorem PQ.err {w : World} {n : Nat} {x : V} {bo bx k : Nat} {e d : Int} (h5 : e = 0 → x.k = 5) (h : PQ w n x bo bx k e d) : Calls Try.prog 24 #[.pointer (some ⟨bo, 0, none⟩)] w (Ret w fun u _ => u = .int .i64 e) := by
  rcases h with ⟨h0, A, L, cn, ci, dn, di, bm, lo, av, hd, G, S, h⟩ | ⟨h0, k, m, t, cn, ci, mv, k2, m2, t2, dn, di, av, h⟩
  · have h1 := Err_ok _ _ _ _ _ _ _ w bo h.o1
    have h2 : errK x.k 0 = e := by rw [errK, if_neg (by simp [h5 h0]), h0]
    rwa [h2] at h1
  · have h1 := Err_ok _ _ _ _ _ _ _ w bo h.o1
    rwa [h.er] at h1
theorem PQ.done {w : World} {n : Nat} {x : V} {bo bx k : Nat} {e d : Int} (h5 : e = 0 → x.k = 5) (h : PQ w n x bo bx k e d) : Calls Try.prog 32 #[.pointer (some ⟨bo, 0, none⟩)] w (Ret w fun u _ => u = .int .i64 d) := by
  rcases h with ⟨h0, A, L, cn, ci, dn, di, bm, lo, av, hd, G, S, h⟩ | ⟨h0, k, m, t, cn, ci, mv, k2, m2, t2, dn, di, av, h⟩
  · have h1 := Done_ok x A 0 w G cn ci bo bm h.r1 h.o1 h.o2
    have h2 : errK x.k 0 = 0 := by rw [errK, if_neg (by simp [h5 h0])]
    rwa [pl_done h2 h.inv, ← h.dd] at h1
  · have h1 := DoneD_ok k m t cn ci mv e (by rw [h.er]; exact h.ne) w bo h.o1
    rwa [h.er, ← h0] at h1
theorem PQ.rdone {w : World} {n : Nat} {x : V} {bo bx k : Nat} {e d : Int} (hxt : x.t.size ≤ maxLen) (h : PQ w n x bo bx k e d) : Calls Try.prog 33 #[.pointer (some ⟨bx, 0, none⟩)] w (Ret w fun u _ => u = .int .i64 d) := by
  rcases h with ⟨h0, A, L, cn, ci, dn, di, bm, lo, av, hd, G, S, h⟩ | ⟨h0, k, m, t, cn, ci, mv, k2, m2, t2, dn, di, av, h⟩
  · have h1 := yDone_ok L x hxt w _ dn di av bx (rd_u h.r3) (rd_u h.r4) h.o3 (rd_u (arr_rdU h.ar))
    rwa [← h.dd] at h1
  · have h1 := yDoneD_ok k2 m2 t2 dn di av e h.ne w bx h.o3
    rwa [← h0] at h1
theorem asksQ_ok (x : V) (hx : x.wt ≤ 1073741824) (hxt : x.t.size ≤ maxLen) (c : Cl) (hnm : c.nm.size ≤ maxLen) (k : Nat) (hk : k < 100000) (e d : Int) (w : World) (n : Nat) (hn : n ≤ w.heap.size) (bo bx : Nat) (vc : Value) (S0 : BSet) (hc : Rd w S0 c.d vc)
    (ha : e = 0 → x.k = 5 ∧ x.ns.length = x.xs.length ∧ asc x.ns = true) (h : PQ w n x bo bx k e d) : Calls Try.prog 31 #[.pointer (some ⟨bo, 0, none⟩), .pointer (some ⟨bx, 0, none⟩), vc] w (RetN w n fun u W => u = .bool true ∧ ∃ e' d', (e' = 0 → e = 0) ∧ PQ W n x bo bx (k + 1) e' d') := by
  rcases h with ⟨h0, A, L, cn, ci, dn, di, bm, lo, av, hd, G, S, h⟩ | ⟨h0, k, m, t, cn, ci, mv, k2, m2, t2, dn, di, av, h⟩
  · obtain ⟨h5, hl, has⟩ := ha h0
    have he : errK x.k 0 = 0 := by rw [errK, if_neg (by simp [h5])]
    obtain ⟨p1, p2⟩ := pl_ask h5 hl has c
    have hlen := h.len
    have hlt : ∀ b ∈ (bo :: bm :: bx :: (blks hd ++ [])), b < w.heap.size := in_cons h.o1.lt (in_cons h.o2.lt (in_cons h.o3.lt (in_app h.ar.lt in_nil)))
    refine (asksA_ok x A (h.ab.mono (by omega)) hx hxt c hnm w S G cn ci dn di bo bm bx lo av hd L (by omega) h.cln (fun b hb o hs => absurd (h.sn b o hs) (Nat.not_lt.2 (h.nM b hb))) h.gM h.n1 h.n2 h.n3 h.n4 h.n5 h.n6 h.r1 h.r2 h.r3 h.r4 h.o1 h.o2 h.o3 (arr_str h.ar) h.hlo (Nat.le_trans (rl_len h5 hl has _ _) hx) vc (rdCl_any hc)).mono ?_
    rintro en W ⟨v, q1, q2, q3, q4, q5, hd2, ⟨av2, q6, q7, q8⟩, q9⟩
    have hks : ∀ b, b < n → b ∉ (bo :: bm :: bx :: (blks hd ++ [])) := fun b hb hm => absurd (h.nM b hm) (Nat.not_le.2 hb)
    refine ⟨v, q1, q2.mono hks, by rw [q3, p1], ?_⟩
    by_cases hE : qE x 0 c = 0
    · refine ⟨0, dnE x.ns (rqL c L), fun _ => h0, .inl ⟨rfl, qA x A 0 c, rqL c L, cn, ci, dn, di, bm, lo, av2, hd2, fun b o => G b o ∧ b < w.heap.size, S, ?_⟩⟩
      have nin : ∀ b, b < w.heap.size → b ∉ blks hd → b ∉ blks hd2 := fun b hb hn hm => (q9 b hm).elim hn fun h => absurd hb (Nat.not_lt.2 h)
      rw [hE] at q4
      rw [← p2, hE] at q6
      have hq : ∀ b ∈ (bo :: bm :: bx :: (blks hd2 ++ [])), b ∈ (bo :: bm :: bx :: (blks hd ++ [])) ∨ w.heap.size ≤ b := fun b hb => by
        simp only [List.mem_cons, List.mem_append, List.not_mem_nil, or_false] at hb ⊢
        rcases hb with hb | hb | hb | hb
        · exact .inl (.inl hb)
        · exact .inl (.inr (.inl hb))
        · exact .inl (.inr (.inr (.inl hb)))
        · exact (q9 b hb).imp (fun q => .inr (.inr (.inr q))) id
      have hab : AB (k + 1 : Nat) (qA x A 0 c) := by have := h.ab.qA (x := x) (e := 0) (c := c); exact this
      have hln : (rqL c L).length ≤ k + 1 := Nat.le_trans (rqL_len c L) (by omega)
      have hg2 : ∀ b ∈ (bo :: bm :: bx :: (blks hd2 ++ [])), ∀ o, ¬ (G b o ∧ b < w.heap.size) := fun b hb o g => (hq b hb).elim (fun q => h.gM b q o g.1) (fun q => absurd g.2 (Nat.not_lt.2 q))
      have hn2 : ∀ b ∈ (bo :: bm :: bx :: (blks hd2 ++ [])), n ≤ b := fun b hb => (hq b hb).elim (h.nM b) (Nat.le_trans hn)
      exact ⟨hab, pl_inv he h.inv h.ab hE, hln, rfl, fun b o g => h.cln b o g.1, hg2, h.sn, hn2, h.n1, h.n2, h.n3, q8, nin bo h.o1.lt h.n5, nin bm h.o2.lt h.n6,
        (h.r1.mono fun b o g hb => ⟨g, hb⟩).keeps q2 fun b o g hm => h.gM b hm o g.1, (h.r2.mono fun b o g hb => ⟨g, hb⟩).keeps q2 fun b o g hm => h.gM b hm o g.1,
        h.r3.keeps q2 fun b o g => hks b (h.sn b o g), h.r4.keeps q2 fun b o g => hks b (h.sn b o g), q4, q5, q6, q7, Nat.le_trans h.hlo q2.size⟩
    · rw [← p2] at q6
      exact ⟨qE x 0 c, qE x 0 c, fun hq => absurd hq hE, .inr ⟨rfl, x.k, x.n, x.t, cn, ci, _, x.k, x.n, x.t, dn, di, av2, ⟨hE, by rw [errK, if_neg (fun q => hE q.1)], h.nM bo (by simp), h.nM bx (by simp), h.n2, q4, q6⟩⟩⟩
  · refine (asksD_ok k m t cn ci mv e (by rw [h.er]; exact h.ne) k2 m2 t2 dn di av e h.ne c hnm w (fun _ _ => False) vc bo bx (fun _ _ _ h => h) h.n2 h.o1 h.o3 (rdCl_any hc)).mono ?_
    rintro en W ⟨v, q1, q2, q3, q4⟩
    refine ⟨v, q1, q2.mono (fun b hb hm => by rw [List.mem_singleton] at hm; subst hm; exact absurd h.l1 (Nat.not_le.2 hb)), q3, e, e, fun h => h, .inr ⟨rfl, k, m, t, cn, ci, mv, k2, m2, t2, dn, di, av, { h with o1 := q4, o3 := h.o3.keeps q2 (fun hm => by rw [List.mem_singleton] at hm; exact h.n2 hm.symm) }⟩⟩
end Go.Proofs.Ytnobijngkpflcaa
namespace Go.Eng
theorem long_wt {xs : List V} (h : szL xs 0 0 < 20000) : V.wts xs < 20000 := by have := szL_wt xs 0 0 h; omega
end Go.Eng
namespace Go.Proofs.Ytnobijngkpflcaa
open Go.Eng
def PfAt (w W : World) (x : V) (u : Value) : Prop := (ofE x = 0 ∧ PkAt w W 74 x [] 0 u) ∨ (ofE x ≠ 0 ∧ PkD w W 74 (ofE x) u)
def IsPf (w0 : World) (x : V) : Fact := fun _ u W => PfAt w0 W x u
theorem st_pf {w0 : World} {x : V} : Stable All (IsPf w0 x) := ⟨fun _ _ _ _ k h => h.imp (fun q => ⟨q.1, q.2.ext k⟩) (fun ⟨q, bo, h1, h2, h3⟩ => ⟨q, bo, h1, h2, h3.ext k⟩), fun _ _ _ _ _ _ h => h⟩
theorem pf_up {S : Nat → Prop} {w0 W W' : World} {x : V} {u : Value} (hk : Keeps S w0 W) (h : PfAt W W' x u) : PfAt w0 W' x u := h.imp (fun q => ⟨q.1, pk_up hk q.2⟩) (fun q => ⟨q.1, pkd_up hk q.2⟩)
theorem ofF_ok (x : V) (hx : x.wt ≤ 1073741824) (w : World) (S : BSet) (v : Value) (hS : ∀ b o, S b o → Cln o) (hv : Rd w S x.d v) : Calls Try.prog 21 #[v] w (Ret w fun u W => PfAt w W x u) := by
  by_cases h : ofE x = 0
  · exact (Of_ok x hx h w S v hS hv).mono fun _ _ ⟨v, h1, h2, h3⟩ => ⟨v, h1, h2, .inl ⟨h, h3⟩⟩
  · exact (OfD_ok x h w S v hv).mono fun _ _ ⟨v, h1, h2, h3⟩ => ⟨v, h1, h2, .inr ⟨h, h3⟩⟩
theorem pq_init {W0 W1 W2 : World} {x : V} {bx : Nat} {u dn di : Value} {S : BSet} (h : PfAt W0 W1 x u) (q : Ext W1 W2) (lx : W1.heap.size ≤ bx) (k0 : W0.heap.size ≤ W1.heap.size) (ho : Own W2 bx [.int .u8 x.k, .int .i64 x.n, .string x.t, dn, di, .slice none 0 0, .int .i64 (ofE x)] 56)
    (r3 : Rd W2 S (strsD x.ns) dn) (r4 : Rd W2 S (valsD x.xs) di) (sn : ∀ b o, S b o → b < W0.heap.size) : ∃ bo, u = .pointer (some ⟨bo, 0, none⟩) ∧ ∃ e d, (e = 0 → x.k = 5 ∧ x.ns.length = x.xs.length ∧ asc x.ns = true) ∧ PQ W2 W0.heap.size x bo bx 0 e d := by
  rcases h with ⟨h0, bo, bm, cn, ci, h1, h2, h3, h4, h5, h6, h7, h8, h9⟩ | ⟨h0, bo, h1, h2, h3⟩
  · rw [h0] at ho
    have lb := h5.lt
    have lm := h6.lt
    refine ⟨bo, h1, 0, _, fun _ => ofE_alive h0, .inl ⟨rfl, [], [], cn, ci, dn, di, bm, 0, _, none, fun b o => PkF W0 bo bm b o ∧ b < W1.heap.size, S, ⟨by simpa using AB.nil, linv_nil, Nat.le_refl _, rfl, fun b o g => g.1.1.2, ?_, sn, ?_, h4, by omega, by omega, by simp [blks], by simp [blks], by simp [blks], (h7.mono fun b o g hb => ⟨g, hb⟩).ext q, (h8.mono fun b o g hb => ⟨g, hb⟩).ext q, r3, r4, h5.ext q, h6.ext q, ho, arr_nil _ _ _ _ _, Nat.zero_le _⟩⟩⟩
    · intro b hb o g
      simp only [blks, List.append_nil, List.mem_cons, List.not_mem_nil, or_false] at hb
      rcases hb with hb | hb | hb
      · exact g.1.2 (by simp [hb])
      · exact g.1.2 (by simp [hb])
      · subst hb; exact absurd g.2 (Nat.not_lt.2 lx)
    · intro b hb
      simp only [blks, List.append_nil, List.mem_cons, List.not_mem_nil, or_false] at hb
      rcases hb with rfl | rfl | rfl
      · exact h2
      · exact h3
      · exact Nat.le_trans k0 lx
  · have lb := h3.lt
    exact ⟨bo, h1, ofE x, ofE x, fun h => absurd h h0, .inr ⟨rfl, 0, 0, _, _, _, _, x.k, x.n, x.t, dn, di, _, ⟨h0, by rw [errK, if_neg (fun h => h0 h.1)], h2, Nat.le_trans k0 lx, by omega, h3.ext q, ho⟩⟩⟩
set_option maxRecDepth 100000 in
set_option maxHeartbeats 2000000 in
theorem PickPlays_ok (x : V) (l : List Cl) (w : World) (S : BSet) (v vl : Value) (hv : Rd w S x.d v) (h1 : Rd w S (clsD l) vl) : Calls Try.prog 4 #[v, vl] w (Ret w fun r _ => r = .bool true) := by
 obtain ⟨cn0a, cn0c, ci0a, ci0c, ev, ht0, D_cn0, D_ci0⟩ := rdV_out (rd_arg hv)
 subst ev
 obtain ⟨vla, vlc, ev, D_vl⟩ := rdCls_out (rd_arg h1)
 subst ev
 refine enter Try.func4 rfl Try.ntmps4 (lbr rfl) fun a0 y0 zz0 harg => ?_
 have e0 : sl a0 0 = (.agg #[(.int .u8 (x.k)), (.int .i64 (x.n)), (.string (x.t)), (.slice cn0a (x.ns.length) cn0c), (.slice ci0a (x.xs.length) ci0c)]) := harg 0 (lbr rfl)
 have e1 : sl a0 1 = (.slice vla (l.length) vlc) := harg 1 (lbr rfl)
 have kw := Keeps.refl All w
 clear harg
 refine zq fun K1 hK1 => ?_
 refine rg mixed y0 zz0 ?_
 refine .boxOp (v := (.agg #[(.int .u8 (x.k)), (.int .i64 (x.n)), (.string (x.t)), (.slice cn0a (x.ns.length) cn0c), (.slice ci0a (x.xs.length) ci0c)])) (hbs rfl e0) ?_
 refine .ac ?_
 refine .dn fun a2 g W2 y2 zz2 hk hg hV hR hP => ?_
 obtain ⟨-, ⟨b2_2, e2, hb2, own_b2_2⟩, -⟩ := hV
 have lo_b2_2 : w.heap.size ≤ b2_2 := Nat.le_trans kw.size (hg.lo _ _ hb2)
 have own_b2_2 : Own W2 b2_2 [(.int .u8 (x.k)), (.int .i64 (x.n)), (.string (x.t)), (.slice cn0a (x.ns.length) cn0c), (.slice ci0a (x.xs.length) ci0c)] 33 := own_b2_2
 replace e1 := ft hR e1
 replace D_cn0 := sa_more D_cn0 hk [b2_2] (in_cons (hg.lo _ _ hb2) in_nil)
 replace D_ci0 := sa_more D_ci0 hk [b2_2] (in_cons (hg.lo _ _ hb2) in_nil)
 replace D_vl := sa_more D_vl hk [b2_2] (in_cons (hg.lo _ _ hb2) in_nil)
 replace kw := kw.x hk
 clear hR hk hg hP hb2
 refine zn (hK1 _ _ ?_)
 refine zq fun K3 hK3 => ?_
 refine zq fun K4 hK4 => ?_
 refine rg mixed y2 zz2 ?_
 refine .i (v := (.agg #[(.int .u8 (x.k)), (.int .i64 (x.n)), (.string (x.t)), (.slice cn0a (x.ns.length) cn0c), (.slice ci0a (x.xs.length) ci0c)])) (loA (hbs rfl e2) own_b2_2 trivial agg33 sz33 rfl rfl) ?_
 refine .da (X := SA w S [b2_2]) (e := valsD ([x])) (sp_bsl (ds := [V.d (x)]) Try.underlying31 sz33 z33 (lbr rfl) (lbr rfl) ⟨rfl, ((hlc rfl).dat (rdV_in (x := x) ht0 D_cn0 D_ci0 : Rd W2 (SA w S [b2_2]) (V.d (x)) _) sub_all), trivial⟩ rfl (by intro e he; simp at he; rcases he with rfl <;> exact width_V _) (fr_sa kw (in_cons own_b2_2.lt in_nil))) ?_
 refine .i (v := (.bool (decide (20000 ≤ szL ([x]) 0 0)))) (sp_call1 (φ1 := IsD (SA w S [b2_2]) (valsD ([x]))) ent26 (hlc rfl) (fun g u1 W hk hgk h1 => Long_ok ([x]) W _ _ h1)) ?_
 refine .i (sp_move (hlc rfl)) ?_
 refine .em rfl (hlc rfl) rfl e1 ?_
 refine .e (v := (.bool (decide (5000 ≤ szC l 0)))) rfl (hlc rfl) (fun hg => sp_call1 (φ1 := IsD (SA w S [b2_2]) (clsD (l))) ent27 (((hlc rfl).undE hg).dat D_vl sub_all) (fun g u1 W hk hgk h1 => long11_ok (l) W _ _ h1)) ?_
 refine .i (sp_or (hlc rfl) ((hlc rfl).weak fun hq => hq)) ?_
 refine .dn fun a5 g W5 y5 zz5 hk hg hV hR hP => ?_
 obtain ⟨e15, -, -, -, -, -, -, -⟩ := hV
 replace e1 := ft hR e1
 replace e2 := ft hR e2
 replace D_cn0 := D_cn0.ext hk
 replace D_ci0 := D_ci0.ext hk
 replace D_vl := D_vl.ext hk
 replace e15 := e15.q
 replace own_b2_2 := own_b2_2.ext hk
 replace kw := kw.x hk
 clear hR hk hg hP
 refine zn (hK4 _ _ ?_)
 refine zc e15 (fun hc => ?_) (fun hc => ?_)
 ·
  refine zq fun K6 hK6 => ?_
  refine rg mixed y5 zz5 ?_
  refine .i (v := (.bool (true))) (sp_call0  ent28  (fun g  W hk hgk  => awake11_ok W)) ?_
  refine .al rfl ?_
  refine .dn fun a7 g W7 y7 zz7 hk hg hV hR hP => ?_
  obtain ⟨e4, -, -⟩ := hV
  replace D_cn0 := D_cn0.ext hk
  replace D_ci0 := D_ci0.ext hk
  replace D_vl := D_vl.ext hk
  replace e4 := e4.q
  replace own_b2_2 := own_b2_2.ext hk
  replace kw := kw.x hk
  clear hR hk hg hP
  refine zn (hK6 _ _ ?_)
  refine wp_ret ?_
  refine ret1 rfl zz7 e4 ⟨_, rfl, kw, ?_⟩
  exact rfl
 simp only [Bool.or_eq_false_iff, decide_eq_false_iff_not] at hc
 obtain ⟨hlx, hll⟩ := hc
 have hxw : x.wt ≤ 1073741824 := by have := long_wt (Nat.lt_of_not_le hlx); simp only [V.wts] at this; omega
 have hl5 := szC_len l 0 (Nat.lt_of_not_le hll)
 refine wp_skip (hK3 _ _ ?_)
 refine zq fun K8 hK8 => ?_
 refine rg mixed y5 zz5 ?_
 refine .i (v := (.agg #[(.int .u8 (x.k)), (.int .i64 (x.n)), (.string (x.t)), (.slice cn0a (x.ns.length) cn0c), (.slice ci0a (x.xs.length) ci0c)])) (loA (hbs rfl e2) own_b2_2 trivial agg33 sz33 rfl rfl) ?_
 refine .da (X := Fr W5) (e := V.d (x)) (sp_call1 (φ1 := IsD (SA w S [b2_2]) (V.d (x))) ent29 ((hlc rfl).dat (rdV_in (x := x) ht0 D_cn0 D_ci0 : Rd W5 (SA w S [b2_2]) (V.d (x)) _) sub_all) (fun g u1 W hk hgk h1 => (copied_all _ (x) (Nat.le_refl _) hxw W _ _ h1).mono (ret_fr hk hgk))) ?_
 refine .alloc z33 ?_
 refine .dn fun a9 g W9 y9 zz9 hk hg hV hR hP => ?_
 obtain ⟨⟨b5_9, e5, hb5, own_b5_9⟩, e18, -, -⟩ := hV
 have lo_b5_9 : w.heap.size ≤ b5_9 := Nat.le_trans kw.size (hg.lo _ _ hb5)
 have ne_b2_2_b5_9 : b2_2 ≠ b5_9 := Nat.ne_of_lt (Nat.lt_of_lt_of_le own_b2_2.lt (hg.lo _ _ hb5))
 have own_b5_9 : Own W9 b5_9 z5C 33 := own_b5_9
 replace e1 := ft hR e1
 replace e2 := ft hR e2
 replace D_cn0 := sa_more D_cn0 hk [b5_9] (in_cons (hg.lo _ _ hb5) in_nil)
 replace D_ci0 := sa_more D_ci0 hk [b5_9] (in_cons (hg.lo _ _ hb5) in_nil)
 replace D_vl := sa_more D_vl hk [b5_9] (in_cons (hg.lo _ _ hb5) in_nil)
 obtain ⟨v18_9, ev⟩ : ∃ v, sl a9 18 = v := ⟨_, rfl⟩
 rw [ev] at e18
 have D_v18_9 : Rd W9 (SF w [b5_9, b2_2]) (V.d (x)) v18_9 := fr_end (M := [b2_2]) e18 kw [b5_9] (in_cons ⟨_, hb5⟩ in_nil) (in_cons own_b2_2.lt in_nil)
 replace e18 := ev; clear ev
 obtain ⟨cn18_9a, cn18_9c, ci18_9a, ci18_9c, ev, ht_v18_9, D_cn18_9, D_ci18_9⟩ := rdV_out D_v18_9
 subst ev; clear D_v18_9
 replace own_b2_2 := own_b2_2.ext hk
 replace kw := kw.x hk
 clear hR hk hg hP hb5
 refine tail_store e5 e18 sz33 rfl own_b5_9 (lbr rfl) (all_cons rfl (all_cons rfl (all_cons rfl (all_cons rfl (all_cons rfl all_nil))))) (fun W10 hs own_b5_9 => ?_)
 have own_b5_9 : Own W10 b5_9 [(.int .u8 (x.k)), (.int .i64 (x.n)), (.string (x.t)), (.slice cn18_9a (x.ns.length) cn18_9c), (.slice ci18_9a (x.xs.length) ci18_9c)] 33 := own_b5_9
 replace own_b2_2 := own_store own_b2_2 hs ne_b2_2_b5_9
 replace D_cn0 := sa_store D_cn0 hs (by simp)
 replace D_ci0 := sa_store D_ci0 hs (by simp)
 replace D_vl := sa_store D_vl hs (by simp)
 replace D_cn18_9 := sf_store D_cn18_9 hs (by simp)
 replace D_ci18_9 := sf_store D_ci18_9 hs (by simp)
 replace kw := keeps_store kw hs lo_b5_9
 clear hs
 refine zn (hK8 _ _ ?_)
 refine zq fun K11 hK11 => ?_
 have hcx : x.cnt ≤ 1073741824 := Nat.le_trans (cnt_wt x) hxw
 refine rg mixed y9 zz9 ?_
 refine .i (v := (.agg #[(.int .u8 (x.k)), (.int .i64 (x.n)), (.string (x.t)), (.slice cn18_9a (x.ns.length) cn18_9c), (.slice ci18_9a (x.xs.length) ci18_9c)])) (loA (hbs rfl e5) own_b5_9 trivial agg33 sz33 rfl rfl) ?_
 refine .op (φ := IsPf W10 x) st_pf (sp_call1 (φ1 := IsD (SF w [b5_9, b2_2]) (V.d x)) ent21 ((hlc rfl).dat (rdV_in (x := x) ht_v18_9 D_cn18_9 D_ci18_9 : Rd W10 (SF w [b5_9, b2_2]) (V.d x) _) sub_all) (fun g u1 W hk hgk h1 => (ofF_ok x hxw W _ _ (fun b o h => h.1.2.1) h1).mono (fun _ _ ⟨v, q1, q2, q3⟩ => ⟨v, q1, q2, pf_up hk q3⟩))) ?_
 refine .i (v := (.agg #[(.int .u8 (x.k)), (.int .i64 (x.n)), (.string (x.t)), (.slice cn0a (x.ns.length) cn0c), (.slice ci0a (x.xs.length) ci0c)])) (loA (hbs rfl e2) own_b2_2 trivial agg33 sz33 rfl rfl) ?_
 refine .dn fun a41 g W41 y41 zz41 hk hg hV hR hP => ?_
 obtain ⟨e21, e20, -⟩ := hV
 replace e1 := ft hR e1
 replace e2 := ft hR e2
 replace e5 := ft hR e5
 obtain ⟨n, hn⟩ : ∃ n, n = W10.heap.size := ⟨_, rfl⟩
 have l2 : b2_2 < n := by rw [hn]; exact own_b2_2.lt
 have l5 : b5_9 < n := by rw [hn]; exact own_b5_9.lt
 have hwn : w.heap.size ≤ n := by rw [hn]; exact kw.size
 replace D_cn0 : Rd W10 (fun b _ => b < n) (strsD x.ns) (.slice cn0a (x.ns.length) cn0c) := D_cn0.mono fun b _ _ h => hn ▸ h
 replace D_ci0 : Rd W10 (fun b _ => b < n) (valsD x.xs) (.slice ci0a (x.xs.length) ci0c) := D_ci0.mono fun b _ _ h => hn ▸ h
 replace D_vl : Rd W10 (fun b _ => b < n) (clsD l) (.slice vla (l.length) vlc) := D_vl.mono fun b _ _ h => hn ▸ h
 replace D_cn18_9 : Rd W10 (fun b _ => b < n) (strsD x.ns) (.slice cn18_9a (x.ns.length) cn18_9c) := D_cn18_9.mono fun b _ _ h => hn ▸ h
 replace D_ci18_9 : Rd W10 (fun b _ => b < n) (valsD x.xs) (.slice ci18_9a (x.xs.length) ci18_9c) := D_ci18_9.mono fun b _ _ h => hn ▸ h
 replace D_cn0 := D_cn0.ext hk
 replace D_ci0 := D_ci0.ext hk
 replace D_vl := D_vl.ext hk
 replace D_cn18_9 := D_cn18_9.ext hk
 replace D_ci18_9 := D_ci18_9.ext hk
 replace own_b2_2 := own_b2_2.ext hk
 replace own_b5_9 := own_b5_9.ext hk
 replace e21 := e21.q
 obtain ⟨v20, ev⟩ : ∃ v, sl a41 20 = v := ⟨_, rfl⟩
 rw [ev] at e20
 have PF : PfAt W10 W41 x v20 := e20
 replace e20 := ev; clear ev
 have k0 := hk.size
 replace kw := kw.x hk
 clear hR hg hk hP
 refine tail_reg 3 All y41 zz41 st_tr trivial rfl ?_
 refine .op (φ := IsNB W41 [.int .u8 x.k, .int .i64 x.n, .string x.t, (.slice cn0a (x.ns.length) cn0c), (.slice ci0a (x.xs.length) ci0c), .slice none 0 0, .int .i64 (ofE x)] 56) st_nb (sp_call1 (φ1 := Is (.agg #[(.int .u8 (x.k)), (.int .i64 (x.n)), (.string (x.t)), (.slice cn0a (x.ns.length) cn0c), (.slice ci0a (x.xs.length) ci0c)])) ent30 (hbs rfl e21) (fun g u1 W hk hgk h1 => by have h1 : u1 = _ := h1; subst h1; exact (rOfE_ok x ht0 W _ _ _ (D_cn0.ext hk) (D_ci0.ext hk)).mono (fun _ _ ⟨v, q1, q2, q3⟩ => ⟨v, q1, q2, nb_up hk q3⟩))) ?_
 refine .op (φ := Is v20) (st_is _) (sp_assign (hbs rfl e20)) ?_
 refine .op (φ := IsNB W41 [.int .u8 x.k, .int .i64 x.n, .string x.t, (.slice cn0a (x.ns.length) cn0c), (.slice ci0a (x.xs.length) ci0c), .slice none 0 0, .int .i64 (ofE x)] 56) st_nb (sp_assign (hlc rfl)) ?_
 refine .dn fun a42 g W42 y42 zz42 hk hg hV hR hP => ?_
 refine tail_nil ?_
 show runTail _ _ _ _ _ _
 obtain ⟨e7, e6, -⟩ := hV
 replace e1 := ft hR e1
 replace e2 := ft hR e2
 replace e5 := ft hR e5
 replace D_cn0 := D_cn0.ext hk
 replace D_ci0 := D_ci0.ext hk
 replace D_vl := D_vl.ext hk
 replace D_cn18_9 := D_cn18_9.ext hk
 replace D_ci18_9 := D_ci18_9.ext hk
 replace own_b2_2 := own_b2_2.ext hk
 replace own_b5_9 := own_b5_9.ext hk
 obtain ⟨bx, e7, lx, own_bx⟩ : NBox W41 W42 [.int .u8 x.k, .int .i64 x.n, .string x.t, (.slice cn0a (x.ns.length) cn0c), (.slice ci0a (x.xs.length) ci0c), .slice none 0 0, .int .i64 (ofE x)] 56 (sl a42 7) := e7
 replace e6 := e6.q
 obtain ⟨bo, hv20, PQ0⟩ := pq_init PF hk lx k0 own_bx D_cn0 D_ci0 (fun b _ h => hn ▸ h)
 rw [hv20] at e6
 rw [← hn] at PQ0
 have hnW : n ≤ W42.heap.size := by rw [hn]; exact Nat.le_trans k0 hk.size
 replace kw := kw.x hk
 clear hR hg hk hP PF own_bx e20 e21 hv20 k0 lx
 refine zn (hK11 _ _ ?_)
 refine zq fun K50 hK50 => ?_
 refine zq fun K51 hK51 => ?_
 refine rg mixed y42 zz42 ?_
 refine .ac ?_
 refine .dn fun a43 g W43 y43 zz43 hk hg hV hR hP => ?_
 obtain ⟨e8, -⟩ := hV
 replace e1 := ft hR e1
 replace e2 := ft hR e2
 replace e5 := ft hR e5
 replace e6 := ft hR e6
 replace e7 := ft hR e7
 replace D_cn0 := D_cn0.ext hk
 replace D_ci0 := D_ci0.ext hk
 replace D_vl := D_vl.ext hk
 replace D_cn18_9 := D_cn18_9.ext hk
 replace D_ci18_9 := D_ci18_9.ext hk
 replace own_b2_2 := own_b2_2.ext hk
 replace own_b5_9 := own_b5_9.ext hk
 replace e8 := e8.q
 replace hnW := Nat.le_trans hnW hk.size
 obtain ⟨e00, d00, al0, PQ0⟩ := PQ0
 replace PQ0 := PQ0.ext hk
 replace kw := kw.x hk
 clear hR hg hk hP
 refine zn (hK51 _ _ ?_)
 refine wp_block ?_
 refine wp_for (l.length) (fun k a W => a.tmps.size = 66 ∧ a.defers = [] ∧ Keeps All w W ∧ n ≤ W.heap.size ∧ sl a 1 = (.slice vla (l.length) vlc) ∧ sl a 2 = (.pointer (some ⟨b2_2, 0, none⟩)) ∧ sl a 5 = (.pointer (some ⟨b5_9, 0, none⟩)) ∧ sl a 6 = (.pointer (some ⟨bo, 0, none⟩)) ∧ sl a 7 = (.pointer (some ⟨bx, 0, none⟩)) ∧ sl a 8 = (.int .i64 ((k : Nat))) ∧ Own W b2_2 [(.int .u8 (x.k)), (.int .i64 (x.n)), (.string (x.t)), (.slice cn0a (x.ns.length) cn0c), (.slice ci0a (x.xs.length) ci0c)] 33 ∧ Own W b5_9 [(.int .u8 (x.k)), (.int .i64 (x.n)), (.string (x.t)), (.slice cn18_9a (x.ns.length) cn18_9c), (.slice ci18_9a (x.xs.length) ci18_9c)] 33 ∧ Rd W (fun b _ => b < n) (strsD x.ns) (.slice cn0a (x.ns.length) cn0c) ∧ Rd W (fun b _ => b < n) (valsD x.xs) (.slice ci0a (x.xs.length) ci0c) ∧ Rd W (fun b _ => b < n) (clsD l) (.slice vla (l.length) vlc) ∧ Rd W (fun b _ => b < n) (strsD x.ns) (.slice cn18_9a (x.ns.length) cn18_9c) ∧ Rd W (fun b _ => b < n) (valsD x.xs) (.slice ci18_9a (x.xs.length) ci18_9c) ∧ ∃ e d, (e = 0 → x.k = 5 ∧ x.ns.length = x.xs.length ∧ asc x.ns = true) ∧ PQ W n x bo bx k e d) ⟨y43, zz43, kw, hnW, e1, e2, e5, e6, e7, (e8.trans (congrArg (Value.int .i64) rfl)), own_b2_2, own_b5_9, D_cn0, D_ci0, D_vl, D_cn18_9, D_ci18_9, _, _, al0, PQ0⟩ ?_
 clear kw hnW e1 e2 e5 e6 e7 e8 own_b2_2 own_b5_9 D_cn0 D_ci0 D_vl D_cn18_9 D_ci18_9 al0 PQ0
 rintro k a44 W44 hkk ⟨y44, zz44, kw, hnW, e1, e2, e5, e6, e7, e8, own_b2_2, own_b5_9, D_cn0, D_ci0, D_vl, D_cn18_9, D_ci18_9, e, d, al, PQ0⟩
 refine zq fun K52 hK52 => ?_
 refine zq fun K53 hK53 => ?_
 refine rg mixed y44 zz44 ?_
 refine .mb rfl e8 ?_
 refine .mb rfl e1 ?_
 refine .i (sp_lenL Try.underlying46 ((hlc rfl).dat D_vl sub_all)) ?_
 refine .i (sp_lss (hlc rfl) (hlc rfl)) ?_
 refine .dn fun a45 g W45 y45 zz45 hk hg hV hR hP => ?_
 obtain ⟨e26, -, -, -⟩ := hV
 replace e1 := ft hR e1
 replace e2 := ft hR e2
 replace e5 := ft hR e5
 replace e6 := ft hR e6
 replace e7 := ft hR e7
 replace e8 := ft hR e8
 replace D_cn0 := D_cn0.ext hk
 replace D_ci0 := D_ci0.ext hk
 replace D_vl := D_vl.ext hk
 replace D_cn18_9 := D_cn18_9.ext hk
 replace D_ci18_9 := D_ci18_9.ext hk
 replace own_b2_2 := own_b2_2.ext hk
 replace own_b5_9 := own_b5_9.ext hk
 replace PQ0 := PQ0.ext hk
 replace e26 := e26.q
 replace hnW := Nat.le_trans hnW hk.size
 replace kw := kw.x hk
 clear hR hk hg hP
 refine zn (hK53 _ _ ?_)
 refine zc e26 (fun hc => ?_) (fun hc => ?_)
 ·
  have hlt : k < l.length := by simpa using hc
  refine wp_skip (hK52 _ _ ?_)
  refine zq fun K54 hK54 => ?_
  refine wp_block ?_
  refine zq fun K55 hK55 => ?_
  refine wp_reg2 (fun b => b < n) (Ψ := fun W => ∃ e d, (e = 0 → x.k = 5 ∧ x.ns.length = x.xs.length ∧ asc x.ns = true) ∧ PQ W n x bo bx k e d) mixed y45 zz45 (fun W W' q ⟨e, d, h1, h2⟩ => ⟨e, d, h1, h2.ext q⟩) ⟨e, d, al, PQ0⟩ ?_
  refine .mb rfl e6 ?_
  refine .mb rfl e7 ?_
  refine .mb rfl e1 ?_
  refine .mb rfl e8 ?_
  refine .op (φ := IsR (fun b _ => b < n) (Cl.d (l[k]'hlt))) (st_r fun _ _ h => h) (sp_indexL (i := k) ((hlc rfl).dat D_vl (fun _ _ h => h)) (hlc rfl) Try.underlying46 sz54 rfl hlt) ?_
  refine .op (φ := IsD (fun b _ => b < n) (Cl.d (l[k]'hlt))) (st_d fun _ _ h => h) (sp_loadR (hlc rfl) agg54 sz54 (width_Cl _)) ?_
  refine .callL3 (φ1 := Is (.pointer (some ⟨bo, 0, none⟩))) (φ2 := Is (.pointer (some ⟨bx, 0, none⟩))) (φ3 := IsD (fun b _ => b < n) (Cl.d (l[k]'hlt))) (φ := Is (.bool true)) (Ψ' := fun W => ∃ e d, (e = 0 → x.k = 5 ∧ x.ns.length = x.xs.length ∧ asc x.ns = true) ∧ PQ W n x bo bx (k + 1) e d) ent31 (hlc rfl) (hlc rfl) (hlc rfl) (st_is _) (fun W W' q ⟨e, d, h1, h2⟩ => ⟨e, d, h1, h2.ext q⟩) (fun g u1 u2 u3 W hk hg h1 h2 h3 hq => by have h1 : u1 = _ := h1; subst h1; have h2 : u2 = _ := h2; subst h2; obtain ⟨e1, d1, h4, h5⟩ := hq; exact (asksQ_ok x hxw ht0 (l[k]'hlt) (rdCl_out h3).2 k (by omega) e1 d1 W n (Nat.le_trans hnW hk.size) bo bx _ _ h3 h4 h5).mono (fun _ _ ⟨v, q1, q2, q3, e2, d2, q4, q5⟩ => ⟨v, q1, q2, q3, e2, d2, fun h => h4 (q4 h), q5⟩)) ?_
  refine .i (sp_not (hlc rfl)) ?_
  refine .done ⟨by kernel_rfl, by kernel_rfl, fun a46 g W46 y46 zz46 hk hg hV hR hP => ?_⟩
  obtain ⟨e36, -⟩ := hV
  replace e1 := ft hR e1
  replace e2 := ft hR e2
  replace e5 := ft hR e5
  replace e6 := ft hR e6
  replace e7 := ft hR e7
  replace e8 := ft hR e8
  replace D_cn0 := D_cn0.keeps hk fun _ _ h => h
  replace D_ci0 := D_ci0.keeps hk fun _ _ h => h
  replace D_vl := D_vl.keeps hk fun _ _ h => h
  replace D_cn18_9 := D_cn18_9.keeps hk fun _ _ h => h
  replace D_ci18_9 := D_ci18_9.keeps hk fun _ _ h => h
  replace own_b2_2 := own_b2_2.keeps hk l2
  replace own_b5_9 := own_b5_9.keeps hk l5
  replace e36 := e36.q
  replace hnW := Nat.le_trans hnW hk.size
  replace kw := keeps_below kw hk hwn
  clear al PQ0 e d
  obtain ⟨e, d, al, PQ0⟩ := hP
  clear hR hk hg
  simp only [shiftR, shiftO, List.length_cons, List.length_nil, Nat.reduceAdd, List.drop_succ_cons, List.drop_zero, List.map_cons, List.map_nil, Option.map_some, Option.map_none, Nat.reduceSub]
  refine reg_any All y46 zz46 st_tr trivial ?_
  refine .mb rfl e36 ?_
  refine .em rfl (hlc rfl) rfl e6 ?_
  refine .e (v := (.int .i64 e)) rfl (hlc rfl) (fun hg => sp_call1 (φ1 := Is (.pointer (some ⟨bo, 0, none⟩))) ent24 ((hlc rfl).undE hg) (fun g u1 W hk hgk h1 => by have h1 : u1 = _ := h1; subst h1; exact PQ.err (fun h => (al h).1) (PQ0.ext hk))) ?_
  refine .em rfl (hlc rfl) rfl e7 ?_
  refine .e (v := (.pointer (some ⟨bx, 0, none⟩))) rfl (hlc rfl) (fun hg => sp_nilP ((hlc rfl).undE hg)) ?_
  refine .e rfl (hlc rfl) (fun hg => fo 6 ((hlc rfl).undE hg) Try.underlying56 rfl sz28 rfl) ?_
  refine .e (v := (.int .i64 e)) rfl (hlc rfl) (fun hg => sp_loadCell ((hlc rfl).undE hg) agg28 sz28 PQ0.cell) ?_
  refine .e rfl (hlc rfl) (fun hg => sp_neq ((hlc rfl).undE hg) ((hlc rfl).undE hg)) ?_
  refine .i (sp_or (hlc rfl) ((hlc rfl).weak fun hq => hq)) ?_
  refine .i (sp_move (hlc rfl)) ?_
  refine .em rfl (hlc rfl) rfl e6 ?_
  refine .e (v := (.int .i64 d)) rfl (hlc rfl) (fun hg => sp_call1 (φ1 := Is (.pointer (some ⟨bo, 0, none⟩))) ent32 ((hlc rfl).undE hg) (fun g u1 W hk hgk h1 => by have h1 : u1 = _ := h1; subst h1; exact PQ.done (fun h => (al h).1) (PQ0.ext hk))) ?_
  refine .em rfl (hlc rfl) rfl e7 ?_
  refine .e (v := (.int .i64 d)) rfl (hlc rfl) (fun hg => sp_call1 (φ1 := Is (.pointer (some ⟨bx, 0, none⟩))) ent33 ((hlc rfl).undE hg) (fun g u1 W hk hgk h1 => by have h1 : u1 = _ := h1; subst h1; exact PQ.rdone ht0 (PQ0.ext hk))) ?_
  refine .e rfl (hlc rfl) (fun hg => sp_neq ((hlc rfl).undE hg) ((hlc rfl).undE hg)) ?_
  refine .i (sp_or (hlc rfl) ((hlc rfl).weak fun hq => hq)) ?_
  refine .dn fun a47 g W47 y47 zz47 hk hg hV hR hP => ?_
  obtain ⟨e52, -⟩ := hV
  replace e1 := ft hR e1
  replace e2 := ft hR e2
  replace e5 := ft hR e5
  replace e6 := ft hR e6
  replace e7 := ft hR e7
  replace e8 := ft hR e8
  replace D_cn0 := D_cn0.ext hk
  replace D_ci0 := D_ci0.ext hk
  replace D_vl := D_vl.ext hk
  replace D_cn18_9 := D_cn18_9.ext hk
  replace D_ci18_9 := D_ci18_9.ext hk
  replace own_b2_2 := own_b2_2.ext hk
  replace own_b5_9 := own_b5_9.ext hk
  replace PQ0 := PQ0.ext hk
  replace e52 := e52.q
  replace hnW := Nat.le_trans hnW hk.size
  replace kw := kw.x hk
  clear hR hk hg hP
  refine zn (hK55 _ _ ?_)
  refine zc e52 (fun hc => ?_) (fun hc => ?_)
  ·
   exfalso
   simp at hc
  refine wp_skip (hK54 _ _ ?_)
  refine rg mixed y47 zz47 ?_
  refine .mb rfl e8 ?_
  refine .i (sp_add (hlc rfl) Has.cst (i64_in (by omega))) ?_
  refine .al rfl ?_
  refine .dn fun a48 g W48 y48 zz48 hk hg hV hR hP => ?_
  obtain ⟨e8, -, -⟩ := hV
  replace e1 := ft hR e1
  replace e2 := ft hR e2
  replace e5 := ft hR e5
  replace e6 := ft hR e6
  replace e7 := ft hR e7
  replace D_cn0 := D_cn0.ext hk
  replace D_ci0 := D_ci0.ext hk
  replace D_vl := D_vl.ext hk
  replace D_cn18_9 := D_cn18_9.ext hk
  replace D_ci18_9 := D_ci18_9.ext hk
  replace own_b2_2 := own_b2_2.ext hk
  replace own_b5_9 := own_b5_9.ext hk
  replace PQ0 := PQ0.ext hk
  replace e8 := e8.q
  replace hnW := Nat.le_trans hnW hk.size
  replace kw := kw.x hk
  clear hR hk hg hP
  exact tail_nil ⟨hlt, y48, zz48, kw, hnW, e1, e2, e5, e6, e7, (e8.trans (congrArg (Value.int .i64) (by simp))), own_b2_2, own_b5_9, D_cn0, D_ci0, D_vl, D_cn18_9, D_ci18_9, _, _, al, PQ0⟩
 refine wp_exit (hK50 _ _ ?_)
 refine zq fun K60 hK60 => ?_
 refine rg mixed y45 zz45 ?_
 refine .i (v := (.agg #[(.int .u8 (x.k)), (.int .i64 (x.n)), (.string (x.t)), (.slice cn18_9a (x.ns.length) cn18_9c), (.slice ci18_9a (x.xs.length) ci18_9c)])) (loA (hbs rfl e5) own_b5_9 trivial agg33 sz33 rfl rfl) ?_
 refine .i (v := (.agg #[(.int .u8 (x.k)), (.int .i64 (x.n)), (.string (x.t)), (.slice cn0a (x.ns.length) cn0c), (.slice ci0a (x.xs.length) ci0c)])) (loA (hbs rfl e2) own_b2_2 trivial agg33 sz33 rfl rfl) ?_
 refine .i (v := (.bool (V.beq x x))) (sp_call2 (φ1 := IsD (fun b _ => b < n) (V.d x)) (φ2 := IsD (fun b _ => b < n) (V.d x)) ent34 ((hlc rfl).dat (rdV_in (x := x) ht_v18_9 D_cn18_9 D_ci18_9 : Rd W45 (fun b _ => b < n) (V.d x) _) sub_all) ((hlc rfl).dat (rdV_in (x := x) ht0 D_cn0 D_ci0 : Rd W45 (fun b _ => b < n) (V.d x) _) sub_all) (fun g u1 u2 W hk hgk h1 h2 => refSame_all _ x x (Nat.le_refl _) hcx W _ _ _ h1 h2)) ?_
 refine .i (sp_move (hlc rfl)) ?_
 refine .em rfl (hlc rfl) rfl e6 ?_
 refine .e (v := (.int .i64 d)) rfl (hlc rfl) (fun hg => sp_call1 (φ1 := Is (.pointer (some ⟨bo, 0, none⟩))) ent32 ((hlc rfl).undE hg) (fun g u1 W hk hgk h1 => by have h1 : u1 = _ := h1; subst h1; exact PQ.done (fun h => (al h).1) (PQ0.ext hk))) ?_
 refine .em rfl (hlc rfl) rfl e7 ?_
 refine .e (v := (.int .i64 d)) rfl (hlc rfl) (fun hg => sp_call1 (φ1 := Is (.pointer (some ⟨bx, 0, none⟩))) ent33 ((hlc rfl).undE hg) (fun g u1 W hk hgk h1 => by have h1 : u1 = _ := h1; subst h1; exact PQ.rdone ht0 (PQ0.ext hk))) ?_
 refine .e rfl (hlc rfl) (fun hg => sp_eql ((hlc rfl).undE hg) ((hlc rfl).undE hg)) ?_
 refine .i (sp_and (hlc rfl) ((hlc rfl).weak fun hq => hq)) ?_
 refine .i (sp_move (hlc rfl)) ?_
 refine .e (v := (.bool true)) rfl (hlc rfl) (fun hg => sp_call0 ent28 (fun g W hk hgk => awake11_ok W)) ?_
 refine .i (sp_and (hlc rfl) ((hlc rfl).weak fun hq => hq)) ?_
 refine .al rfl ?_
 refine .dn fun a61 g W61 y61 zz61 hk hg hV hR hP => ?_
 obtain ⟨e4, -⟩ := hV
 replace e4 := e4.q
 replace kw := kw.x hk
 clear hR hk hg hP
 refine zn (hK60 _ _ ?_)
 refine wp_ret ?_
 refine ret1 rfl zz61 e4 ⟨_, rfl, kw, ?_⟩
 exact congrArg Value.bool (by rw [beq_refl]; simp)
end Go.Proofs.Ytnobijngkpflcaa
