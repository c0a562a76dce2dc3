/-
  The law PickNames of package legatelaw11 (a closed statement) returns true. No condition beyond the row's own.
-/
import Derived.Test.YtnobijngkpflcaaPn4
import Derived.KernelRfl
namespace Go.Proofs.Ytnobijngkpflcaa
open Go.Eng
set_option maxRecDepth 100000 in
theorem rText_ok (m : ByteArray) (hm : m.size ≤ maxLen) (x : V) (hxt : x.t.size ≤ maxLen) (w : World) (S : BSet) (cn ci : Value) (bx : Nat) (hM : ∀ b ∈ [bx], ∀ o, ¬ S b o) (hv : Rd w S (strsD x.ns) cn) (hu : Rd w S (valsD x.xs) ci) (own_bx : Own w bx [.int .u8 x.k, .int .i64 x.n, .string x.t, cn, ci, .slice none 0 0, .int .i64 0] 56) : Calls Try.prog 83 #[.pointer (some ⟨bx, 0, none⟩), .string m] w (RetL w [bx] fun u _ => u = .string (rtV x m 3).t) := by
 obtain ⟨cna, cnc, ev, D_cn⟩ := rdS_out (rd_argM (M := [bx]) hv hM)
 subst ev
 obtain ⟨cia, cic, ev, D_ci⟩ := rdVs_out (rd_argM (M := [bx]) hu hM)
 subst ev
 refine enter Try.func83 rfl Try.ntmps83 (lbr rfl) fun a0 y0 zz0 harg => ?_
 have e0 : sl a0 0 = (.pointer (some ⟨bx, 0, none⟩)) := harg 0 (lbr rfl)
 have e1 : sl a0 1 = (.string (m)) := harg 1 (lbr rfl)
 have kw := Keeps.refl (fun k => k ∉ [bx]) w
 clear harg
 refine zq fun K1 hK1 => ?_
 refine rg mixed y0 zz0 ?_
 refine .ac ?_
 refine .dn fun a2 g W2 y2 zz2 hk hg hV hR hP => ?_
 obtain ⟨-, -⟩ := hV
 replace e0 := ft hR e0
 replace e1 := ft hR e1
 replace D_cn := D_cn.ext hk
 replace D_ci := D_ci.ext hk
 replace own_bx := own_bx.ext hk
 replace kw := kw.x hk
 clear hR hk hg hP
 refine zn (hK1 _ _ ?_)
 refine zq fun K3 hK3 => ?_
 refine wp_reg (fun k => k ∉ [bx]) (Ψ := fun W => Own W bx [(.int .u8 (x.k)), (.int .i64 (x.n)), (.string (x.t)), (.slice cna (x.ns.length) cnc), (.slice cia (x.xs.length) cic), (.slice none 0 0), (.int .i64 (0))] 56) mixed y2 zz2 stE_own own_bx ?_
 refine .mb rfl e0 ?_
 refine .mb rfl e1 ?_
 refine .callL3 (φ1 := Is (.pointer (some ⟨bx, 0, none⟩))) (φ2 := Is (.string (m))) (φ3 := Is (.int .u8 (3))) (φ := IsT (IsD (SA w S [bx]) (V.d (rtV x m 3))) (Is (.bool (rtB x m 3)))) (Ψ' := fun W => ∃ avx : Value, Own W bx [(.int .u8 (x.k)), (.int .i64 (x.n)), (.string (x.t)), (.slice cna (x.ns.length) cnc), (.slice cia (x.xs.length) cic), avx, (.int .i64 (rtE x m 3))] 56) ent141 (hlc rfl) (hlc rfl) Has.cst (st_t (st_d (sub_nl (by simp))) (st_is _)) stE_ownX (fun g u1 u2 u3 W hk hg h1 h2 h3 hP => by have h1 : u1 = _ := h1; subst u1; have h2 : u2 = _ := h2; subst u2; have h3 : u3 = _ := h3; subst u3; exact ((rTake_ok m hm 3 (x) hxt W _ _ _ _ (fun b hb o h => (sa_notin (by simp : ∀ b ∈ [bx], b ∈ [bx])) b hb o h.1) (rd_base D_cn hk hg (sub_nl (by simp))) (rd_base D_ci hk hg (sub_nl (by simp))) hP).mono fun _ _ ⟨v, h1, h2, r1, av, h3, h4, h5⟩ => ⟨v, h1, h2, ⟨r1, _, h3, rd_ar_sa kw (in_cons own_bx.lt in_nil) hk hg h4, rfl⟩, av, h5⟩)) ?_
 refine .op (φ := IsT (IsD (SA w S [bx]) (V.d (rtV x m 3))) (Is (.bool (rtB x m 3)))) (st_t (st_d (sub_nl (by simp))) (st_is _)) (sp_move (hlc rfl)) ?_
 refine .op (φ := IsD (SA w S [bx]) (V.d (rtV x m 3))) (st_d (sub_nl (by simp))) (sp_ext2 (hlc rfl) rfl) ?_
 refine .i (v := (.bool (rtB x m 3))) (sp_ext2' (hlc rfl) rfl) ?_
 refine .dn fun a4 g W4 y4 zz4 hk hg hV hR hP => ?_
 obtain ⟨e12, e11, -, -, -, -, -⟩ := hV
 obtain ⟨v11_4, ev⟩ : ∃ v, sl a4 11 = v := ⟨_, rfl⟩
 rw [ev] at e11
 have D_v11_4 : Rd W4 (SA w S [bx]) (V.d (rtV x m 3)) v11_4 := sa_end e11 (Keeps.refl All W4) [] in_nil
 replace e11 := ev; clear ev
 obtain ⟨cn11_4a, cn11_4c, ci11_4a, ci11_4c, ev, ht_v11_4, D_cn11_4, D_ci11_4⟩ := rdV_out D_v11_4
 subst ev; clear D_v11_4
 replace e12 := e12.q
 replace D_cn := sa_keepL D_cn hk (by simp)
 replace D_ci := sa_keepL D_ci hk (by simp)
 obtain ⟨av_4, own_bx⟩ := hP
 replace own_bx : Own W4 bx [(.int .u8 (x.k)), (.int .i64 (x.n)), (.string (x.t)), (.slice cna (x.ns.length) cnc), (.slice cia (x.xs.length) cic), av_4, (.int .i64 (rtE x m 3))] 56 := own_bx
 replace kw := keeps_L kw hk (in_cons (.inr (by simp)) in_nil)
 clear hR hk hg
 refine tail_reg 1 All y4 zz4 st_tr trivial rfl ?_
 refine .alloc z33 ?_
 refine .dn fun a5 g W5 y5 zz5 hk hg hV hR hP => ?_
 refine tail_nil ?_
 show runTail _ _ _ _ _ _
 obtain ⟨⟨b5_5, e5, hb5, own_b5_5⟩, -⟩ := hV
 have lo_b5_5 : w.heap.size ≤ b5_5 := Nat.le_trans kw.size (hg.lo _ _ hb5)
 have ne_bx_b5_5 : bx ≠ b5_5 := Nat.ne_of_lt (Nat.lt_of_lt_of_le own_bx.lt (hg.lo _ _ hb5))
 have own_b5_5 : Own W5 b5_5 [(.int .u8 (0)), (.int .i64 (0)), (.string (⟨#[]⟩)), (.slice none 0 0), (.slice none 0 0)] 33 := own_b5_5
 replace e11 := ft hR e11
 replace e12 := ft hR e12
 replace D_cn := sa_more D_cn hk [b5_5] (in_cons (hg.lo _ _ hb5) in_nil)
 replace D_ci := sa_more D_ci hk [b5_5] (in_cons (hg.lo _ _ hb5) in_nil)
 replace D_cn11_4 := sa_more D_cn11_4 hk [b5_5] (in_cons (hg.lo _ _ hb5) in_nil)
 replace D_ci11_4 := sa_more D_ci11_4 hk [b5_5] (in_cons (hg.lo _ _ hb5) in_nil)
 replace own_bx := own_bx.ext hk
 replace kw := kw.x hk
 clear hR hk hg hP hb5
 refine tail_store e5 e11 sz33 rfl own_b5_5 (lbr rfl) (all_cons rfl (all_cons rfl (all_cons rfl (all_cons rfl (all_cons rfl all_nil))))) (fun W6 hs own_b5_5 => ?_)
 have own_b5_5 : Own W6 b5_5 [(.int .u8 ((rtV x m 3).k)), (.int .i64 ((rtV x m 3).n)), (.string ((rtV x m 3).t)), (.slice cn11_4a (((rtV x m 3).ns).length) cn11_4c), (.slice ci11_4a (((rtV x m 3).xs).length) ci11_4c)] 33 := own_b5_5
 replace own_bx := own_store own_bx hs ne_bx_b5_5
 replace D_cn := sa_store D_cn hs (by simp)
 replace D_ci := sa_store D_ci hs (by simp)
 replace D_cn11_4 := sa_store D_cn11_4 hs (by simp)
 replace D_ci11_4 := sa_store D_ci11_4 hs (by simp)
 replace kw := keeps_store kw hs lo_b5_5
 clear hs
 refine tail_assign (v := (.bool (rtB x m 3))) e12 (by rw [y5]; exact Nat.le_of_ble_eq_true rfl) (fun a7 y7 zz7 e6 hr => ?_)
 replace y7 := y7.trans y5; replace zz7 := zz7.trans zz5
 replace e11 := (hr 11 (by decide)).trans e11
 replace e12 := (hr 12 (by decide)).trans e12
 replace e5 := (hr 5 (by decide)).trans e5
 clear hr
 refine zn (hK3 _ _ ?_)
 refine zq fun K8 hK8 => ?_
 refine rg mixed y7 zz7 ?_
 refine .i (fo 2 (hbs rfl e5) Try.underlying33 rfl sz9 rfl) ?_
 refine .i (lo1 (hlc rfl) own_b5_5 trivial agg9 sz9 rfl) ?_
 refine .al rfl ?_
 refine .dn fun a9 g W9 y9 zz9 hk hg hV hR hP => ?_
 obtain ⟨e4, -, -, -⟩ := hV
 replace D_cn := D_cn.ext hk
 replace D_ci := D_ci.ext hk
 replace D_cn11_4 := D_cn11_4.ext hk
 replace D_ci11_4 := D_ci11_4.ext hk
 replace e4 := e4.q
 replace own_bx := own_bx.ext hk
 replace own_b5_5 := own_b5_5.ext hk
 replace kw := kw.x hk
 clear hR hk hg hP
 refine zn (hK8 _ _ ?_)
 refine wp_ret ?_
 refine ret1 rfl zz9 e4 ⟨_, rfl, kw, ?_⟩
 exact rfl
set_option maxRecDepth 100000 in
theorem rBool_ok (m : ByteArray) (hm : m.size ≤ maxLen) (x : V) (hxt : x.t.size ≤ maxLen) (w : World) (S : BSet) (cn ci : Value) (bx : Nat) (hM : ∀ b ∈ [bx], ∀ o, ¬ S b o) (hv : Rd w S (strsD x.ns) cn) (hu : Rd w S (valsD x.xs) ci) (own_bx : Own w bx [.int .u8 x.k, .int .i64 x.n, .string x.t, cn, ci, .slice none 0 0, .int .i64 0] 56) : Calls Try.prog 85 #[.pointer (some ⟨bx, 0, none⟩), .string m] w (RetL w [bx] fun u _ => u = .bool ((rtV x m 1).n == 1)) := by
 obtain ⟨cna, cnc, ev, D_cn⟩ := rdS_out (rd_argM (M := [bx]) hv hM)
 subst ev
 obtain ⟨cia, cic, ev, D_ci⟩ := rdVs_out (rd_argM (M := [bx]) hu hM)
 subst ev
 refine enter Try.func85 rfl Try.ntmps85 (lbr rfl) fun a0 y0 zz0 harg => ?_
 have e0 : sl a0 0 = (.pointer (some ⟨bx, 0, none⟩)) := harg 0 (lbr rfl)
 have e1 : sl a0 1 = (.string (m)) := harg 1 (lbr rfl)
 have kw := Keeps.refl (fun k => k ∉ [bx]) w
 clear harg
 refine zq fun K1 hK1 => ?_
 refine rg mixed y0 zz0 ?_
 refine .ac ?_
 refine .dn fun a2 g W2 y2 zz2 hk hg hV hR hP => ?_
 obtain ⟨-, -⟩ := hV
 replace e0 := ft hR e0
 replace e1 := ft hR e1
 replace D_cn := D_cn.ext hk
 replace D_ci := D_ci.ext hk
 replace own_bx := own_bx.ext hk
 replace kw := kw.x hk
 clear hR hk hg hP
 refine zn (hK1 _ _ ?_)
 refine zq fun K3 hK3 => ?_
 refine wp_reg (fun k => k ∉ [bx]) (Ψ := fun W => Own W bx [(.int .u8 (x.k)), (.int .i64 (x.n)), (.string (x.t)), (.slice cna (x.ns.length) cnc), (.slice cia (x.xs.length) cic), (.slice none 0 0), (.int .i64 (0))] 56) mixed y2 zz2 stE_own own_bx ?_
 refine .mb rfl e0 ?_
 refine .mb rfl e1 ?_
 refine .callL3 (φ1 := Is (.pointer (some ⟨bx, 0, none⟩))) (φ2 := Is (.string (m))) (φ3 := Is (.int .u8 (1))) (φ := IsT (IsD (SA w S [bx]) (V.d (rtV x m 1))) (Is (.bool (rtB x m 1)))) (Ψ' := fun W => ∃ avx : Value, Own W bx [(.int .u8 (x.k)), (.int .i64 (x.n)), (.string (x.t)), (.slice cna (x.ns.length) cnc), (.slice cia (x.xs.length) cic), avx, (.int .i64 (rtE x m 1))] 56) ent141 (hlc rfl) (hlc rfl) Has.cst (st_t (st_d (sub_nl (by simp))) (st_is _)) stE_ownX (fun g u1 u2 u3 W hk hg h1 h2 h3 hP => by have h1 : u1 = _ := h1; subst u1; have h2 : u2 = _ := h2; subst u2; have h3 : u3 = _ := h3; subst u3; exact ((rTake_ok m hm 1 (x) hxt W _ _ _ _ (fun b hb o h => (sa_notin (by simp : ∀ b ∈ [bx], b ∈ [bx])) b hb o h.1) (rd_base D_cn hk hg (sub_nl (by simp))) (rd_base D_ci hk hg (sub_nl (by simp))) hP).mono fun _ _ ⟨v, h1, h2, r1, av, h3, h4, h5⟩ => ⟨v, h1, h2, ⟨r1, _, h3, rd_ar_sa kw (in_cons own_bx.lt in_nil) hk hg h4, rfl⟩, av, h5⟩)) ?_
 refine .op (φ := IsT (IsD (SA w S [bx]) (V.d (rtV x m 1))) (Is (.bool (rtB x m 1)))) (st_t (st_d (sub_nl (by simp))) (st_is _)) (sp_move (hlc rfl)) ?_
 refine .op (φ := IsD (SA w S [bx]) (V.d (rtV x m 1))) (st_d (sub_nl (by simp))) (sp_ext2 (hlc rfl) rfl) ?_
 refine .i (v := (.bool (rtB x m 1))) (sp_ext2' (hlc rfl) rfl) ?_
 refine .dn fun a4 g W4 y4 zz4 hk hg hV hR hP => ?_
 obtain ⟨e12, e11, -, -, -, -, -⟩ := hV
 obtain ⟨v11_4, ev⟩ : ∃ v, sl a4 11 = v := ⟨_, rfl⟩
 rw [ev] at e11
 have D_v11_4 : Rd W4 (SA w S [bx]) (V.d (rtV x m 1)) v11_4 := sa_end e11 (Keeps.refl All W4) [] in_nil
 replace e11 := ev; clear ev
 obtain ⟨cn11_4a, cn11_4c, ci11_4a, ci11_4c, ev, ht_v11_4, D_cn11_4, D_ci11_4⟩ := rdV_out D_v11_4
 subst ev; clear D_v11_4
 replace e12 := e12.q
 replace D_cn := sa_keepL D_cn hk (by simp)
 replace D_ci := sa_keepL D_ci hk (by simp)
 obtain ⟨av_4, own_bx⟩ := hP
 replace own_bx : Own W4 bx [(.int .u8 (x.k)), (.int .i64 (x.n)), (.string (x.t)), (.slice cna (x.ns.length) cnc), (.slice cia (x.xs.length) cic), av_4, (.int .i64 (rtE x m 1))] 56 := own_bx
 replace kw := keeps_L kw hk (in_cons (.inr (by simp)) in_nil)
 clear hR hk hg
 refine tail_reg 1 All y4 zz4 st_tr trivial rfl ?_
 refine .alloc z33 ?_
 refine .dn fun a5 g W5 y5 zz5 hk hg hV hR hP => ?_
 refine tail_nil ?_
 show runTail _ _ _ _ _ _
 obtain ⟨⟨b5_5, e5, hb5, own_b5_5⟩, -⟩ := hV
 have lo_b5_5 : w.heap.size ≤ b5_5 := Nat.le_trans kw.size (hg.lo _ _ hb5)
 have ne_bx_b5_5 : bx ≠ b5_5 := Nat.ne_of_lt (Nat.lt_of_lt_of_le own_bx.lt (hg.lo _ _ hb5))
 have own_b5_5 : Own W5 b5_5 [(.int .u8 (0)), (.int .i64 (0)), (.string (⟨#[]⟩)), (.slice none 0 0), (.slice none 0 0)] 33 := own_b5_5
 replace e11 := ft hR e11
 replace e12 := ft hR e12
 replace D_cn := sa_more D_cn hk [b5_5] (in_cons (hg.lo _ _ hb5) in_nil)
 replace D_ci := sa_more D_ci hk [b5_5] (in_cons (hg.lo _ _ hb5) in_nil)
 replace D_cn11_4 := sa_more D_cn11_4 hk [b5_5] (in_cons (hg.lo _ _ hb5) in_nil)
 replace D_ci11_4 := sa_more D_ci11_4 hk [b5_5] (in_cons (hg.lo _ _ hb5) in_nil)
 replace own_bx := own_bx.ext hk
 replace kw := kw.x hk
 clear hR hk hg hP hb5
 refine tail_store e5 e11 sz33 rfl own_b5_5 (lbr rfl) (all_cons rfl (all_cons rfl (all_cons rfl (all_cons rfl (all_cons rfl all_nil))))) (fun W6 hs own_b5_5 => ?_)
 have own_b5_5 : Own W6 b5_5 [(.int .u8 ((rtV x m 1).k)), (.int .i64 ((rtV x m 1).n)), (.string ((rtV x m 1).t)), (.slice cn11_4a (((rtV x m 1).ns).length) cn11_4c), (.slice ci11_4a (((rtV x m 1).xs).length) ci11_4c)] 33 := own_b5_5
 replace own_bx := own_store own_bx hs ne_bx_b5_5
 replace D_cn := sa_store D_cn hs (by simp)
 replace D_ci := sa_store D_ci hs (by simp)
 replace D_cn11_4 := sa_store D_cn11_4 hs (by simp)
 replace D_ci11_4 := sa_store D_ci11_4 hs (by simp)
 replace kw := keeps_store kw hs lo_b5_5
 clear hs
 refine tail_assign (v := (.bool (rtB x m 1))) e12 (by rw [y5]; exact Nat.le_of_ble_eq_true rfl) (fun a7 y7 zz7 e6 hr => ?_)
 replace y7 := y7.trans y5; replace zz7 := zz7.trans zz5
 replace e11 := (hr 11 (by decide)).trans e11
 replace e12 := (hr 12 (by decide)).trans e12
 replace e5 := (hr 5 (by decide)).trans e5
 clear hr
 refine zn (hK3 _ _ ?_)
 refine zq fun K8 hK8 => ?_
 refine rg mixed y7 zz7 ?_
 refine .i (fo 1 (hbs rfl e5) Try.underlying33 rfl sz2 rfl) ?_
 refine .i (lo1 (hlc rfl) own_b5_5 trivial agg2 sz2 rfl) ?_
 refine .i (sp_eql (hlc rfl) Has.cst) ?_
 refine .al rfl ?_
 refine .dn fun a9 g W9 y9 zz9 hk hg hV hR hP => ?_
 obtain ⟨e4, -, -, -, -⟩ := hV
 replace D_cn := D_cn.ext hk
 replace D_ci := D_ci.ext hk
 replace D_cn11_4 := D_cn11_4.ext hk
 replace D_ci11_4 := D_ci11_4.ext hk
 replace e4 := e4.q
 replace own_bx := own_bx.ext hk
 replace own_b5_5 := own_b5_5.ext hk
 replace kw := kw.x hk
 clear hR hk hg hP
 refine zn (hK8 _ _ ?_)
 refine wp_ret ?_
 refine ret1 rfl zz9 e4 ⟨_, rfl, kw, ?_⟩
 exact rfl
set_option maxRecDepth 100000 in
theorem rNum_ok (m : ByteArray) (hm : m.size ≤ maxLen) (lo hi : Int) (x : V) (hxt : x.t.size ≤ maxLen) (w : World) (S : BSet) (cn ci : Value) (bx : Nat) (hM : ∀ b ∈ [bx], ∀ o, ¬ S b o) (hv : Rd w S (strsD x.ns) cn) (hu : Rd w S (valsD x.xs) ci) (own_bx : Own w bx [.int .u8 x.k, .int .i64 x.n, .string x.t, cn, ci, .slice none 0 0, .int .i64 0] 56) : Calls Try.prog 84 #[.pointer (some ⟨bx, 0, none⟩), .string m, .int .i64 lo, .int .i64 hi] w (RetL w [bx] fun u _ => u = .int .i64 (rnN' x m lo hi)) := by
 obtain ⟨cna, cnc, ev, D_cn⟩ := rdS_out (rd_argM (M := [bx]) hv hM)
 subst ev
 obtain ⟨cia, cic, ev, D_ci⟩ := rdVs_out (rd_argM (M := [bx]) hu hM)
 subst ev
 refine enter Try.func84 rfl Try.ntmps84 (lbr rfl) fun a0 y0 zz0 harg => ?_
 have e0 : sl a0 0 = (.pointer (some ⟨bx, 0, none⟩)) := harg 0 (lbr rfl)
 have e1 : sl a0 1 = (.string (m)) := harg 1 (lbr rfl)
 have e2 : sl a0 2 = (.int .i64 (lo)) := harg 2 (lbr rfl)
 have e3 : sl a0 3 = (.int .i64 (hi)) := harg 3 (lbr rfl)
 have kw := Keeps.refl (fun k => k ∉ [bx]) w
 clear harg
 refine zq fun K1 hK1 => ?_
 refine rg mixed y0 zz0 ?_
 refine .ac ?_
 refine .dn fun a2 g W2 y2 zz2 hk hg hV hR hP => ?_
 obtain ⟨-, -⟩ := hV
 replace e0 := ft hR e0
 replace e1 := ft hR e1
 replace e2 := ft hR e2
 replace e3 := ft hR e3
 replace D_cn := D_cn.ext hk
 replace D_ci := D_ci.ext hk
 replace own_bx := own_bx.ext hk
 replace kw := kw.x hk
 clear hR hk hg hP
 refine zn (hK1 _ _ ?_)
 refine zq fun K3 hK3 => ?_
 refine wp_reg (fun k => k ∉ [bx]) (Ψ := fun W => Own W bx [(.int .u8 (x.k)), (.int .i64 (x.n)), (.string (x.t)), (.slice cna (x.ns.length) cnc), (.slice cia (x.xs.length) cic), (.slice none 0 0), (.int .i64 (0))] 56) mixed y2 zz2 stE_own own_bx ?_
 refine .mb rfl e0 ?_
 refine .mb rfl e1 ?_
 refine .callL3 (φ1 := Is (.pointer (some ⟨bx, 0, none⟩))) (φ2 := Is (.string (m))) (φ3 := Is (.int .u8 (2))) (φ := IsT (IsD (SA w S [bx]) (V.d (rtV x m 2))) (Is (.bool (rtB x m 2)))) (Ψ' := fun W => ∃ avx : Value, Own W bx [(.int .u8 (x.k)), (.int .i64 (x.n)), (.string (x.t)), (.slice cna (x.ns.length) cnc), (.slice cia (x.xs.length) cic), avx, (.int .i64 (rtE x m 2))] 56) ent141 (hlc rfl) (hlc rfl) Has.cst (st_t (st_d (sub_nl (by simp))) (st_is _)) stE_ownX (fun g u1 u2 u3 W hk hg h1 h2 h3 hP => by have h1 : u1 = _ := h1; subst u1; have h2 : u2 = _ := h2; subst u2; have h3 : u3 = _ := h3; subst u3; exact ((rTake_ok m hm 2 (x) hxt W _ _ _ _ (fun b hb o h => (sa_notin (by simp : ∀ b ∈ [bx], b ∈ [bx])) b hb o h.1) (rd_base D_cn hk hg (sub_nl (by simp))) (rd_base D_ci hk hg (sub_nl (by simp))) hP).mono fun _ _ ⟨v, h1, h2, r1, av, h3, h4, h5⟩ => ⟨v, h1, h2, ⟨r1, _, h3, rd_ar_sa kw (in_cons own_bx.lt in_nil) hk hg h4, rfl⟩, av, h5⟩)) ?_
 refine .op (φ := IsT (IsD (SA w S [bx]) (V.d (rtV x m 2))) (Is (.bool (rtB x m 2)))) (st_t (st_d (sub_nl (by simp))) (st_is _)) (sp_move (hlc rfl)) ?_
 refine .op (φ := IsD (SA w S [bx]) (V.d (rtV x m 2))) (st_d (sub_nl (by simp))) (sp_ext2 (hlc rfl) rfl) ?_
 refine .i (v := (.bool (rtB x m 2))) (sp_ext2' (hlc rfl) rfl) ?_
 refine .dn fun a4 g W4 y4 zz4 hk hg hV hR hP => ?_
 obtain ⟨e16, e15, -, -, -, -, -⟩ := hV
 replace e0 := ft hR e0
 replace e2 := ft hR e2
 replace e3 := ft hR e3
 obtain ⟨v15_4, ev⟩ : ∃ v, sl a4 15 = v := ⟨_, rfl⟩
 rw [ev] at e15
 have D_v15_4 : Rd W4 (SA w S [bx]) (V.d (rtV x m 2)) v15_4 := sa_end e15 (Keeps.refl All W4) [] in_nil
 replace e15 := ev; clear ev
 obtain ⟨cn15_4a, cn15_4c, ci15_4a, ci15_4c, ev, ht_v15_4, D_cn15_4, D_ci15_4⟩ := rdV_out D_v15_4
 subst ev; clear D_v15_4
 replace e16 := e16.q
 replace D_cn := sa_keepL D_cn hk (by simp)
 replace D_ci := sa_keepL D_ci hk (by simp)
 obtain ⟨av_4, own_bx⟩ := hP
 replace own_bx : Own W4 bx [(.int .u8 (x.k)), (.int .i64 (x.n)), (.string (x.t)), (.slice cna (x.ns.length) cnc), (.slice cia (x.xs.length) cic), av_4, (.int .i64 (rtE x m 2))] 56 := own_bx
 replace kw := keeps_L kw hk (in_cons (.inr (by simp)) in_nil)
 clear hR hk hg
 refine tail_reg 1 All y4 zz4 st_tr trivial rfl ?_
 refine .alloc z33 ?_
 refine .dn fun a5 g W5 y5 zz5 hk hg hV hR hP => ?_
 refine tail_nil ?_
 show runTail _ _ _ _ _ _
 obtain ⟨⟨b9_5, e9, hb9, own_b9_5⟩, -⟩ := hV
 have lo_b9_5 : w.heap.size ≤ b9_5 := Nat.le_trans kw.size (hg.lo _ _ hb9)
 have ne_bx_b9_5 : bx ≠ b9_5 := Nat.ne_of_lt (Nat.lt_of_lt_of_le own_bx.lt (hg.lo _ _ hb9))
 have own_b9_5 : Own W5 b9_5 [(.int .u8 (0)), (.int .i64 (0)), (.string (⟨#[]⟩)), (.slice none 0 0), (.slice none 0 0)] 33 := own_b9_5
 replace e0 := ft hR e0
 replace e2 := ft hR e2
 replace e3 := ft hR e3
 replace e15 := ft hR e15
 replace e16 := ft hR e16
 replace D_cn := sa_more D_cn hk [b9_5] (in_cons (hg.lo _ _ hb9) in_nil)
 replace D_ci := sa_more D_ci hk [b9_5] (in_cons (hg.lo _ _ hb9) in_nil)
 replace D_cn15_4 := sa_more D_cn15_4 hk [b9_5] (in_cons (hg.lo _ _ hb9) in_nil)
 replace D_ci15_4 := sa_more D_ci15_4 hk [b9_5] (in_cons (hg.lo _ _ hb9) in_nil)
 replace own_bx := own_bx.ext hk
 replace kw := kw.x hk
 clear hR hk hg hP hb9
 refine tail_store e9 e15 sz33 rfl own_b9_5 (lbr rfl) (all_cons rfl (all_cons rfl (all_cons rfl (all_cons rfl (all_cons rfl all_nil))))) (fun W6 hs own_b9_5 => ?_)
 have own_b9_5 : Own W6 b9_5 [(.int .u8 ((rtV x m 2).k)), (.int .i64 ((rtV x m 2).n)), (.string ((rtV x m 2).t)), (.slice cn15_4a (((rtV x m 2).ns).length) cn15_4c), (.slice ci15_4a (((rtV x m 2).xs).length) ci15_4c)] 33 := own_b9_5
 replace own_bx := own_store own_bx hs ne_bx_b9_5
 replace D_cn := sa_store D_cn hs (by simp)
 replace D_ci := sa_store D_ci hs (by simp)
 replace D_cn15_4 := sa_store D_cn15_4 hs (by simp)
 replace D_ci15_4 := sa_store D_ci15_4 hs (by simp)
 replace kw := keeps_store kw hs lo_b9_5
 clear hs
 refine tail_assign (v := (.bool (rtB x m 2))) e16 (by rw [y5]; exact Nat.le_of_ble_eq_true rfl) (fun a7 y7 zz7 e10 hr => ?_)
 replace y7 := y7.trans y5; replace zz7 := zz7.trans zz5
 replace e0 := (hr 0 (by decide)).trans e0
 replace e2 := (hr 2 (by decide)).trans e2
 replace e3 := (hr 3 (by decide)).trans e3
 replace e15 := (hr 15 (by decide)).trans e15
 replace e16 := (hr 16 (by decide)).trans e16
 replace e9 := (hr 9 (by decide)).trans e9
 clear hr
 refine zn (hK3 _ _ ?_)
 refine zq fun K8 hK8 => ?_
 refine zq fun K9 hK9 => ?_
 refine rg mixed y7 zz7 ?_
 refine .mb rfl e10 ?_
 refine .i (sp_move (hlc rfl)) ?_
 refine .e rfl (hlc rfl) (fun hg => fo 1 (hbs rfl e9) Try.underlying33 rfl sz2 rfl) ?_
 refine .e rfl (hlc rfl) (fun hg => lo1 ((hlc rfl).undE hg) own_b9_5 trivial agg2 sz2 rfl) ?_
 refine .em rfl (hlc rfl) rfl e2 ?_
 refine .e rfl (hlc rfl) (fun hg => sp_lss ((hlc rfl).undE hg) ((hlc rfl).undE hg)) ?_
 refine .e rfl (hlc rfl) (fun hg => sp_move ((hlc rfl).undE hg)) ?_
 refine .opEE (t := 23) (x := decide (((rtV x m 2).n : Int) < (lo : Int))) (p := (rtB x m 2) = true) (φ := Is (.pointer (some ⟨b9_5, 1, none⟩))) rfl (hlc rfl) (st_is _) (fun hg => sp_fieldO (hbs rfl e9) Try.underlying33 rfl sz2 rfl) ?_
 refine .opEE (t := 23) (x := decide (((rtV x m 2).n : Int) < (lo : Int))) (p := (rtB x m 2) = true) (φ := Is (.int .i64 ((rtV x m 2).n))) rfl (hlc rfl) (st_is _) (fun hg => sp_loadO (v := (.int .i64 ((rtV x m 2).n))) ((hlc rfl).undE hg) own_b9_5 trivial agg2 sz2 (lbr rfl) (fun h => by first | rfl | cases h) rfl) ?_
 refine .opEE (t := 23) (x := decide (((rtV x m 2).n : Int) < (lo : Int))) (p := (rtB x m 2) = true) (φ := Is (.int .i64 (hi))) rfl (hlc rfl) (st_is _) (fun hg => sp_move (hbs rfl e3)) ?_
 refine .opEE (t := 23) (x := decide (((rtV x m 2).n : Int) < (lo : Int))) (p := (rtB x m 2) = true) (φ := Is (.bool (decide ((hi : Int) < ((rtV x m 2).n : Int))))) rfl (hlc rfl) (st_is _) (fun hg => sp_gtr ((hlc rfl).undE hg) ((hlc rfl).undE hg)) ?_
 refine .e rfl (hlc rfl) (fun hg => sp_or ((hlc rfl).undE hg) ((hlc rfl).weak fun hq => ⟨hg, hq⟩)) ?_
 refine .i (sp_and (hlc rfl) ((hlc rfl).weak fun hq => hq)) ?_
 refine .dn fun a10 g W10 y10 zz10 hk hg hV hR hP => ?_
 obtain ⟨e29, -, -, -, -, -, -, -, -, -, -, -, -, -⟩ := hV
 replace e0 := ft hR e0
 replace e9 := ft hR e9
 replace D_cn := D_cn.ext hk
 replace D_ci := D_ci.ext hk
 replace D_cn15_4 := D_cn15_4.ext hk
 replace D_ci15_4 := D_ci15_4.ext hk
 replace e29 := e29.q
 replace own_bx := own_bx.ext hk
 replace own_b9_5 := own_b9_5.ext hk
 replace kw := kw.x hk
 clear hR hk hg hP
 refine zn (hK9 _ _ ?_)
 refine zc e29 (fun hc => ?_) (fun hc => ?_)
 ·
  have hfin : rnN' x m lo hi = 0 := by rw [rnN', if_pos]; simpa using hc
  refine zq fun K11 hK11 => ?_
  refine rg mixed y10 zz10 ?_
  refine .mb rfl e0 ?_
  refine .i (sp_nilP (hlc rfl)) ?_
  refine .i (fo 6 (hlc rfl) Try.underlying56 rfl sz28 rfl) ?_
  refine .dn fun a12 g W12 y12 zz12 hk hg hV hR hP => ?_
  obtain ⟨e32, -, -, -⟩ := hV
  replace D_cn := D_cn.ext hk
  replace D_ci := D_ci.ext hk
  replace D_cn15_4 := D_cn15_4.ext hk
  replace D_ci15_4 := D_ci15_4.ext hk
  have e32 : sl a12 32 = (.pointer (some ⟨bx, 6, none⟩)) := e32
  replace own_bx := own_bx.ext hk
  replace own_b9_5 := own_b9_5.ext hk
  replace kw := kw.x hk
  clear hR hk hg hP
  refine tail_store (b := bx) (o := 6) (v := (.int .i64 (1))) e32 rfl sz28 rfl own_bx (lbr rfl) (all_cons rfl all_nil) (fun W13 hs own_bx => ?_)
  have own_bx : Own W13 bx [(.int .u8 (x.k)), (.int .i64 (x.n)), (.string (x.t)), (.slice cna (x.ns.length) cnc), (.slice cia (x.xs.length) cic), av_4, (.int .i64 (1))] 56 := own_bx
  replace own_b9_5 := own_store own_b9_5 hs ne_bx_b9_5.symm
  replace D_cn := sa_store D_cn hs (by simp)
  replace D_ci := sa_store D_ci hs (by simp)
  replace D_cn15_4 := sa_store D_cn15_4 hs (by simp)
  replace D_ci15_4 := sa_store D_ci15_4 hs (by simp)
  replace kw := keeps_storeN kw hs (by simp)
  clear hs
  refine zn (hK11 _ _ ?_)
  refine zq fun K14 hK14 => ?_
  refine rg mixed y12 zz12 ?_
  refine .ac ?_
  refine .dn fun a15 g W15 y15 zz15 hk hg hV hR hP => ?_
  obtain ⟨e8, -⟩ := hV
  replace D_cn := D_cn.ext hk
  replace D_ci := D_ci.ext hk
  replace e8 := e8.q
  replace own_bx := own_bx.ext hk
  replace own_b9_5 := own_b9_5.ext hk
  replace kw := kw.x hk
  clear hR hk hg hP
  refine zn (hK14 _ _ ?_)
  refine wp_ret ?_
  refine ret1 rfl zz15 e8 ⟨_, rfl, kw, ?_⟩
  rw [hfin]
 have hfin : rnN' x m lo hi = (rtV x m 2).n := by rw [rnN', if_neg]; simp at hc; rintro ⟨h1, h2⟩; have h3 := hc h1; omega
 refine wp_skip (hK8 _ _ ?_)
 refine zq fun K16 hK16 => ?_
 refine rg mixed y10 zz10 ?_
 refine .i (fo 1 (hbs rfl e9) Try.underlying33 rfl sz2 rfl) ?_
 refine .i (lo1 (hlc rfl) own_b9_5 trivial agg2 sz2 rfl) ?_
 refine .al rfl ?_
 refine .dn fun a17 g W17 y17 zz17 hk hg hV hR hP => ?_
 obtain ⟨e8, -, -, -⟩ := hV
 replace D_cn := D_cn.ext hk
 replace D_ci := D_ci.ext hk
 replace D_cn15_4 := D_cn15_4.ext hk
 replace D_ci15_4 := D_ci15_4.ext hk
 replace e8 := e8.q
 replace own_bx := own_bx.ext hk
 replace own_b9_5 := own_b9_5.ext hk
 replace kw := kw.x hk
 clear hR hk hg hP
 refine zn (hK16 _ _ ?_)
 refine wp_ret ?_
 refine ret1 rfl zz17 e8 ⟨_, rfl, kw, ?_⟩
 rw [hfin]
set_option maxRecDepth 100000 in
theorem rList_ok (m : ByteArray) (hm : m.size ≤ maxLen) (mo : Int) (x : V) (hxt : x.t.size ≤ maxLen) (w : World) (S : BSet) (cn ci : Value) (bx : Nat) (hM : ∀ b ∈ [bx], ∀ o, ¬ S b o) (hv : Rd w S (strsD x.ns) cn) (hu : Rd w S (valsD x.xs) ci) (own_bx : Own w bx [.int .u8 x.k, .int .i64 x.n, .string x.t, cn, ci, .slice none 0 0, .int .i64 0] 56) : Calls Try.prog 87 #[.pointer (some ⟨bx, 0, none⟩), .string m, .int .i64 mo] w (RetL w [bx] fun u W => ∃ av, Rd W (Ar w S) (valsD (rlL x m mo)) u ∧ Own W bx [.int .u8 x.k, .int .i64 x.n, .string x.t, cn, ci, av, .int .i64 (rlE x m mo)] 56) := by
 obtain ⟨cna, cnc, ev, D_cn⟩ := rdS_out (rd_argM (M := [bx]) hv hM)
 subst ev
 obtain ⟨cia, cic, ev, D_ci⟩ := rdVs_out (rd_argM (M := [bx]) hu hM)
 subst ev
 refine enter Try.func87 rfl Try.ntmps87 (lbr rfl) fun a0 y0 zz0 harg => ?_
 have e0 : sl a0 0 = (.pointer (some ⟨bx, 0, none⟩)) := harg 0 (lbr rfl)
 have e1 : sl a0 1 = (.string (m)) := harg 1 (lbr rfl)
 have e2 : sl a0 2 = (.int .i64 (mo)) := harg 2 (lbr rfl)
 have kw := Keeps.refl (fun k => k ∉ [bx]) w
 clear harg
 refine zq fun K1 hK1 => ?_
 refine rg mixed y0 zz0 ?_
 refine .ac ?_
 refine .dn fun a2 g W2 y2 zz2 hk hg hV hR hP => ?_
 obtain ⟨-, -⟩ := hV
 replace e0 := ft hR e0
 replace e1 := ft hR e1
 replace e2 := ft hR e2
 replace D_cn := D_cn.ext hk
 replace D_ci := D_ci.ext hk
 replace own_bx := own_bx.ext hk
 replace kw := kw.x hk
 clear hR hk hg hP
 refine zn (hK1 _ _ ?_)
 refine zq fun K3 hK3 => ?_
 refine wp_reg (fun k => k ∉ [bx]) (Ψ := fun W => Own W bx [(.int .u8 (x.k)), (.int .i64 (x.n)), (.string (x.t)), (.slice cna (x.ns.length) cnc), (.slice cia (x.xs.length) cic), (.slice none 0 0), (.int .i64 (0))] 56) mixed y2 zz2 stE_own own_bx ?_
 refine .mb rfl e0 ?_
 refine .mb rfl e1 ?_
 refine .callL3 (φ1 := Is (.pointer (some ⟨bx, 0, none⟩))) (φ2 := Is (.string (m))) (φ3 := Is (.int .u8 (4))) (φ := IsT (IsD (SA w S [bx]) (V.d (rtV x m 4))) (Is (.bool (rtB x m 4)))) (Ψ' := fun W => ∃ avx : Value, Own W bx [(.int .u8 (x.k)), (.int .i64 (x.n)), (.string (x.t)), (.slice cna (x.ns.length) cnc), (.slice cia (x.xs.length) cic), avx, (.int .i64 (rtE x m 4))] 56) ent141 (hlc rfl) (hlc rfl) Has.cst (st_t (st_d (sub_nl (by simp))) (st_is _)) stE_ownX (fun g u1 u2 u3 W hk hg h1 h2 h3 hP => by have h1 : u1 = _ := h1; subst u1; have h2 : u2 = _ := h2; subst u2; have h3 : u3 = _ := h3; subst u3; exact ((rTake_ok m hm 4 (x) hxt W _ _ _ _ (fun b hb o h => (sa_notin (by simp : ∀ b ∈ [bx], b ∈ [bx])) b hb o h.1) (rd_base D_cn hk hg (sub_nl (by simp))) (rd_base D_ci hk hg (sub_nl (by simp))) hP).mono fun _ _ ⟨v, h1, h2, r1, av, h3, h4, h5⟩ => ⟨v, h1, h2, ⟨r1, _, h3, rd_ar_sa kw (in_cons own_bx.lt in_nil) hk hg h4, rfl⟩, av, h5⟩)) ?_
 refine .op (φ := IsT (IsD (SA w S [bx]) (V.d (rtV x m 4))) (Is (.bool (rtB x m 4)))) (st_t (st_d (sub_nl (by simp))) (st_is _)) (sp_move (hlc rfl)) ?_
 refine .op (φ := IsD (SA w S [bx]) (V.d (rtV x m 4))) (st_d (sub_nl (by simp))) (sp_ext2 (hlc rfl) rfl) ?_
 refine .i (v := (.bool (rtB x m 4))) (sp_ext2' (hlc rfl) rfl) ?_
 refine .dn fun a4 g W4 y4 zz4 hk hg hV hR hP => ?_
 obtain ⟨e14, e13, -, -, -, -, -⟩ := hV
 replace e0 := ft hR e0
 replace e2 := ft hR e2
 obtain ⟨v13_4, ev⟩ : ∃ v, sl a4 13 = v := ⟨_, rfl⟩
 rw [ev] at e13
 have D_v13_4 : Rd W4 (SA w S [bx]) (V.d (rtV x m 4)) v13_4 := sa_end e13 (Keeps.refl All W4) [] in_nil
 replace e13 := ev; clear ev
 obtain ⟨cn13_4a, cn13_4c, ci13_4a, ci13_4c, ev, ht_v13_4, D_cn13_4, D_ci13_4⟩ := rdV_out D_v13_4
 subst ev; clear D_v13_4
 replace e14 := e14.q
 replace D_cn := sa_keepL D_cn hk (by simp)
 replace D_ci := sa_keepL D_ci hk (by simp)
 obtain ⟨av_4, own_bx⟩ := hP
 replace own_bx : Own W4 bx [(.int .u8 (x.k)), (.int .i64 (x.n)), (.string (x.t)), (.slice cna (x.ns.length) cnc), (.slice cia (x.xs.length) cic), av_4, (.int .i64 (rtE x m 4))] 56 := own_bx
 replace kw := keeps_L kw hk (in_cons (.inr (by simp)) in_nil)
 clear hR hk hg
 refine tail_reg 1 All y4 zz4 st_tr trivial rfl ?_
 refine .alloc z33 ?_
 refine .dn fun a5 g W5 y5 zz5 hk hg hV hR hP => ?_
 refine tail_nil ?_
 show runTail _ _ _ _ _ _
 obtain ⟨⟨b7_5, e7, hb7, own_b7_5⟩, -⟩ := hV
 have lo_b7_5 : w.heap.size ≤ b7_5 := Nat.le_trans kw.size (hg.lo _ _ hb7)
 have ne_bx_b7_5 : bx ≠ b7_5 := Nat.ne_of_lt (Nat.lt_of_lt_of_le own_bx.lt (hg.lo _ _ hb7))
 have own_b7_5 : Own W5 b7_5 [(.int .u8 (0)), (.int .i64 (0)), (.string (⟨#[]⟩)), (.slice none 0 0), (.slice none 0 0)] 33 := own_b7_5
 replace e0 := ft hR e0
 replace e2 := ft hR e2
 replace e13 := ft hR e13
 replace e14 := ft hR e14
 replace D_cn := sa_more D_cn hk [b7_5] (in_cons (hg.lo _ _ hb7) in_nil)
 replace D_ci := sa_more D_ci hk [b7_5] (in_cons (hg.lo _ _ hb7) in_nil)
 replace D_cn13_4 := sa_more D_cn13_4 hk [b7_5] (in_cons (hg.lo _ _ hb7) in_nil)
 replace D_ci13_4 := sa_more D_ci13_4 hk [b7_5] (in_cons (hg.lo _ _ hb7) in_nil)
 replace own_bx := own_bx.ext hk
 replace kw := kw.x hk
 clear hR hk hg hP hb7
 refine tail_store e7 e13 sz33 rfl own_b7_5 (lbr rfl) (all_cons rfl (all_cons rfl (all_cons rfl (all_cons rfl (all_cons rfl all_nil))))) (fun W6 hs own_b7_5 => ?_)
 have own_b7_5 : Own W6 b7_5 [(.int .u8 ((rtV x m 4).k)), (.int .i64 ((rtV x m 4).n)), (.string ((rtV x m 4).t)), (.slice cn13_4a (((rtV x m 4).ns).length) cn13_4c), (.slice ci13_4a (((rtV x m 4).xs).length) ci13_4c)] 33 := own_b7_5
 replace own_bx := own_store own_bx hs ne_bx_b7_5
 replace D_cn := sa_store D_cn hs (by simp)
 replace D_ci := sa_store D_ci hs (by simp)
 replace D_cn13_4 := sa_store D_cn13_4 hs (by simp)
 replace D_ci13_4 := sa_store D_ci13_4 hs (by simp)
 replace kw := keeps_store kw hs lo_b7_5
 clear hs
 refine tail_assign (v := (.bool (rtB x m 4))) e14 (by rw [y5]; exact Nat.le_of_ble_eq_true rfl) (fun a7 y7 zz7 e8 hr => ?_)
 replace y7 := y7.trans y5; replace zz7 := zz7.trans zz5
 replace e0 := (hr 0 (by decide)).trans e0
 replace e2 := (hr 2 (by decide)).trans e2
 replace e13 := (hr 13 (by decide)).trans e13
 replace e14 := (hr 14 (by decide)).trans e14
 replace e7 := (hr 7 (by decide)).trans e7
 clear hr
 refine zn (hK3 _ _ ?_)
 refine zq fun K8 hK8 => ?_
 refine zq fun K9 hK9 => ?_
 refine rg mixed y7 zz7 ?_
 refine .mb rfl e8 ?_
 refine .i (sp_move (hlc rfl)) ?_
 refine .e rfl (hlc rfl) (fun hg => fo 4 (hbs rfl e7) Try.underlying33 rfl sz31 rfl) ?_
 refine .e rfl (hlc rfl) (fun hg => lo1 ((hlc rfl).undE hg) own_b7_5 trivial agg31 sz31 rfl) ?_
 refine .e rfl (hlc rfl) (fun hg => sp_lenVs Try.underlying31 (((hlc rfl).undE hg).dat D_ci13_4 sub_all)) ?_
 refine .em rfl (hlc rfl) rfl e2 ?_
 refine .e rfl (hlc rfl) (fun hg => sp_gtr ((hlc rfl).undE hg) ((hlc rfl).undE hg)) ?_
 refine .i (sp_and (hlc rfl) ((hlc rfl).weak fun hq => hq)) ?_
 refine .dn fun a10 g W10 y10 zz10 hk hg hV hR hP => ?_
 obtain ⟨e22, -, -, -, -, -, -, -, -⟩ := hV
 replace e0 := ft hR e0
 replace e7 := ft hR e7
 replace D_cn := D_cn.ext hk
 replace D_ci := D_ci.ext hk
 replace D_cn13_4 := D_cn13_4.ext hk
 replace D_ci13_4 := D_ci13_4.ext hk
 replace e22 := e22.q
 replace own_bx := own_bx.ext hk
 replace own_b7_5 := own_b7_5.ext hk
 replace kw := kw.x hk
 clear hR hk hg hP
 refine zn (hK9 _ _ ?_)
 refine zc e22 (fun hc => ?_) (fun hc => ?_)
 ·
  have hbg : rbig x m 4 mo = true := by unfold rbig; simpa using hc
  have hfl : rlL x m mo = [] := by rw [rlL, if_pos hbg]
  have hfe : rlE x m mo = 5 := by rw [rlE, if_pos hbg]
  refine zq fun K11 hK11 => ?_
  refine rg mixed y10 zz10 ?_
  refine .mb rfl e0 ?_
  refine .i (sp_nilP (hlc rfl)) ?_
  refine .i (fo 6 (hlc rfl) Try.underlying56 rfl sz28 rfl) ?_
  refine .dn fun a12 g W12 y12 zz12 hk hg hV hR hP => ?_
  obtain ⟨e25, -, -, -⟩ := hV
  replace D_cn := D_cn.ext hk
  replace D_ci := D_ci.ext hk
  replace D_cn13_4 := D_cn13_4.ext hk
  replace D_ci13_4 := D_ci13_4.ext hk
  have e25 : sl a12 25 = (.pointer (some ⟨bx, 6, none⟩)) := e25
  replace own_bx := own_bx.ext hk
  replace own_b7_5 := own_b7_5.ext hk
  replace kw := kw.x hk
  clear hR hk hg hP
  refine tail_store (b := bx) (o := 6) (v := (.int .i64 (5))) e25 rfl sz28 rfl own_bx (lbr rfl) (all_cons rfl all_nil) (fun W13 hs own_bx => ?_)
  have own_bx : Own W13 bx [(.int .u8 (x.k)), (.int .i64 (x.n)), (.string (x.t)), (.slice cna (x.ns.length) cnc), (.slice cia (x.xs.length) cic), av_4, (.int .i64 (5))] 56 := own_bx
  replace own_b7_5 := own_store own_b7_5 hs ne_bx_b7_5.symm
  replace D_cn := sa_store D_cn hs (by simp)
  replace D_ci := sa_store D_ci hs (by simp)
  replace D_cn13_4 := sa_store D_cn13_4 hs (by simp)
  replace D_ci13_4 := sa_store D_ci13_4 hs (by simp)
  replace kw := keeps_storeN kw hs (by simp)
  clear hs
  refine zn (hK11 _ _ ?_)
  refine zq fun K14 hK14 => ?_
  refine rg mixed y12 zz12 ?_
  refine .ac ?_
  refine .dn fun a15 g W15 y15 zz15 hk hg hV hR hP => ?_
  obtain ⟨e6, -⟩ := hV
  replace D_cn := D_cn.ext hk
  replace D_ci := D_ci.ext hk
  replace e6 := e6.q
  replace own_bx := own_bx.ext hk
  replace own_b7_5 := own_b7_5.ext hk
  replace kw := kw.x hk
  clear hR hk hg hP
  refine zn (hK14 _ _ ?_)
  refine wp_ret ?_
  refine ret1 rfl zz15 e6 ⟨_, rfl, kw, ?_⟩
  refine ⟨_, by rw [hfl]; exact rd_nil _, by rw [hfe]; exact own_bx⟩
 have hbg : ¬ rbig x m 4 mo = true := by unfold rbig; simpa using hc
 have hfl : rlL x m mo = (rtV x m 4).xs := by rw [rlL, if_neg hbg]
 have hfe : rlE x m mo = rtE x m 4 := by rw [rlE, if_neg hbg]
 refine wp_skip (hK8 _ _ ?_)
 refine zq fun K16 hK16 => ?_
 refine rg mixed y10 zz10 ?_
 refine .i (fo 4 (hbs rfl e7) Try.underlying33 rfl sz31 rfl) ?_
 refine .i (lo1 (hlc rfl) own_b7_5 trivial agg31 sz31 rfl) ?_
 refine .al rfl ?_
 refine .dn fun a17 g W17 y17 zz17 hk hg hV hR hP => ?_
 obtain ⟨e6, -, -, -⟩ := hV
 replace D_cn := D_cn.ext hk
 replace D_ci := D_ci.ext hk
 replace D_cn13_4 := D_cn13_4.ext hk
 replace D_ci13_4 := D_ci13_4.ext hk
 replace e6 := e6.q
 replace own_bx := own_bx.ext hk
 replace own_b7_5 := own_b7_5.ext hk
 replace kw := kw.x hk
 clear hR hk hg hP
 refine zn (hK16 _ _ ?_)
 refine wp_ret ?_
 refine ret1 rfl zz17 e6 ⟨_, rfl, kw, ?_⟩
 refine ⟨_, ?_, by rw [hfe]; exact own_bx⟩
 rw [hfl]
 exact sa_ar D_ci13_4
set_option maxRecDepth 100000 in
theorem rObject_ok (m : ByteArray) (hm : m.size ≤ maxLen) (mo : Int) (x : V) (hxt : x.t.size ≤ maxLen) (w : World) (S : BSet) (cn ci : Value) (bx : Nat) (hM : ∀ b ∈ [bx], ∀ o, ¬ S b o) (hv : Rd w S (strsD x.ns) cn) (hu : Rd w S (valsD x.xs) ci) (own_bx : Own w bx [.int .u8 x.k, .int .i64 x.n, .string x.t, cn, ci, .slice none 0 0, .int .i64 0] 56) : Calls Try.prog 91 #[.pointer (some ⟨bx, 0, none⟩), .string m, .int .i64 mo] w (RetL w [bx] fun u W => Rd W (Ar w S) (V.d (roV x m mo)) u) := by
 obtain ⟨cna, cnc, ev, D_cn⟩ := rdS_out (rd_argM (M := [bx]) hv hM)
 subst ev
 obtain ⟨cia, cic, ev, D_ci⟩ := rdVs_out (rd_argM (M := [bx]) hu hM)
 subst ev
 refine enter Try.func91 rfl Try.ntmps91 (lbr rfl) fun a0 y0 zz0 harg => ?_
 have e0 : sl a0 0 = (.pointer (some ⟨bx, 0, none⟩)) := harg 0 (lbr rfl)
 have e1 : sl a0 1 = (.string (m)) := harg 1 (lbr rfl)
 have e2 : sl a0 2 = (.int .i64 (mo)) := harg 2 (lbr rfl)
 have kw := Keeps.refl (fun k => k ∉ [bx]) w
 clear harg
 refine zq fun K1 hK1 => ?_
 refine rg mixed y0 zz0 ?_
 refine .alloc z33 ?_
 refine .dn fun a2 g W2 y2 zz2 hk hg hV hR hP => ?_
 obtain ⟨⟨b6_2, e6, hb6, own_b6_2⟩, -⟩ := hV
 have lo_b6_2 : w.heap.size ≤ b6_2 := Nat.le_trans kw.size (hg.lo _ _ hb6)
 have ne_bx_b6_2 : bx ≠ b6_2 := Nat.ne_of_lt (Nat.lt_of_lt_of_le own_bx.lt (hg.lo _ _ hb6))
 have own_b6_2 : Own W2 b6_2 [(.int .u8 (0)), (.int .i64 (0)), (.string (⟨#[]⟩)), (.slice none 0 0), (.slice none 0 0)] 33 := own_b6_2
 replace e0 := ft hR e0
 replace e1 := ft hR e1
 replace e2 := ft hR e2
 replace D_cn := sa_more D_cn hk [b6_2] (in_cons (hg.lo _ _ hb6) in_nil)
 replace D_ci := sa_more D_ci hk [b6_2] (in_cons (hg.lo _ _ hb6) in_nil)
 replace own_bx := own_bx.ext hk
 replace kw := kw.x hk
 clear hR hk hg hP hb6
 refine zn (hK1 _ _ ?_)
 refine zq fun K3 hK3 => ?_
 refine wp_reg (fun k => k ∉ [bx]) (Ψ := fun W => Own W bx [(.int .u8 (x.k)), (.int .i64 (x.n)), (.string (x.t)), (.slice cna (x.ns.length) cnc), (.slice cia (x.xs.length) cic), (.slice none 0 0), (.int .i64 (0))] 56) mixed y2 zz2 stE_own own_bx ?_
 refine .mb rfl e0 ?_
 refine .mb rfl e1 ?_
 refine .callL3 (φ1 := Is (.pointer (some ⟨bx, 0, none⟩))) (φ2 := Is (.string (m))) (φ3 := Is (.int .u8 (5))) (φ := IsT (IsD (SA w S [b6_2, bx]) (V.d (rtV x m 5))) (Is (.bool (rtB x m 5)))) (Ψ' := fun W => ∃ avx : Value, Own W bx [(.int .u8 (x.k)), (.int .i64 (x.n)), (.string (x.t)), (.slice cna (x.ns.length) cnc), (.slice cia (x.xs.length) cic), avx, (.int .i64 (rtE x m 5))] 56) ent141 (hlc rfl) (hlc rfl) Has.cst (st_t (st_d (sub_nl (by simp))) (st_is _)) stE_ownX (fun g u1 u2 u3 W hk hg h1 h2 h3 hP => by have h1 : u1 = _ := h1; subst u1; have h2 : u2 = _ := h2; subst u2; have h3 : u3 = _ := h3; subst u3; exact ((rTake_ok m hm 5 (x) hxt W _ _ _ _ (fun b hb o h => (sa_notin (by simp : ∀ b ∈ [bx], b ∈ [b6_2, bx])) b hb o h.1) (rd_base D_cn hk hg (sub_nl (by simp))) (rd_base D_ci hk hg (sub_nl (by simp))) hP).mono fun _ _ ⟨v, h1, h2, r1, av, h3, h4, h5⟩ => ⟨v, h1, h2, ⟨r1, _, h3, rd_ar_sa kw (in_cons own_b6_2.lt (in_cons own_bx.lt in_nil)) hk hg h4, rfl⟩, av, h5⟩)) ?_
 refine .op (φ := IsT (IsD (SA w S [b6_2, bx]) (V.d (rtV x m 5))) (Is (.bool (rtB x m 5)))) (st_t (st_d (sub_nl (by simp))) (st_is _)) (sp_move (hlc rfl)) ?_
 refine .op (φ := IsD (SA w S [b6_2, bx]) (V.d (rtV x m 5))) (st_d (sub_nl (by simp))) (sp_ext2 (hlc rfl) rfl) ?_
 refine .i (v := (.bool (rtB x m 5))) (sp_ext2' (hlc rfl) rfl) ?_
 refine .dn fun a4 g W4 y4 zz4 hk hg hV hR hP => ?_
 obtain ⟨e14, e13, -, -, -, -, -⟩ := hV
 replace e0 := ft hR e0
 replace e2 := ft hR e2
 replace e6 := ft hR e6
 obtain ⟨v13_4, ev⟩ : ∃ v, sl a4 13 = v := ⟨_, rfl⟩
 rw [ev] at e13
 have D_v13_4 : Rd W4 (SA w S [b6_2, bx]) (V.d (rtV x m 5)) v13_4 := sa_end e13 (Keeps.refl All W4) [] in_nil
 replace e13 := ev; clear ev
 obtain ⟨cn13_4a, cn13_4c, ci13_4a, ci13_4c, ev, ht_v13_4, D_cn13_4, D_ci13_4⟩ := rdV_out D_v13_4
 subst ev; clear D_v13_4
 replace e14 := e14.q
 replace D_cn := sa_keepL D_cn hk (by simp)
 replace D_ci := sa_keepL D_ci hk (by simp)
 replace own_b6_2 := own_keepL own_b6_2 hk (by simp [ne_bx_b6_2.symm])
 obtain ⟨av_4, own_bx⟩ := hP
 replace own_bx : Own W4 bx [(.int .u8 (x.k)), (.int .i64 (x.n)), (.string (x.t)), (.slice cna (x.ns.length) cnc), (.slice cia (x.xs.length) cic), av_4, (.int .i64 (rtE x m 5))] 56 := own_bx
 replace kw := keeps_L kw hk (in_cons (.inr (by simp)) in_nil)
 clear hR hk hg
 refine tail_reg 1 All y4 zz4 st_tr trivial rfl ?_
 refine .alloc z33 ?_
 refine .dn fun a5 g W5 y5 zz5 hk hg hV hR hP => ?_
 refine tail_nil ?_
 show runTail _ _ _ _ _ _
 obtain ⟨⟨b7_5, e7, hb7, own_b7_5⟩, -⟩ := hV
 have lo_b7_5 : w.heap.size ≤ b7_5 := Nat.le_trans kw.size (hg.lo _ _ hb7)
 have ne_bx_b7_5 : bx ≠ b7_5 := Nat.ne_of_lt (Nat.lt_of_lt_of_le own_bx.lt (hg.lo _ _ hb7))
 have ne_b6_2_b7_5 : b6_2 ≠ b7_5 := Nat.ne_of_lt (Nat.lt_of_lt_of_le own_b6_2.lt (hg.lo _ _ hb7))
 have own_b7_5 : Own W5 b7_5 [(.int .u8 (0)), (.int .i64 (0)), (.string (⟨#[]⟩)), (.slice none 0 0), (.slice none 0 0)] 33 := own_b7_5
 replace e0 := ft hR e0
 replace e2 := ft hR e2
 replace e6 := ft hR e6
 replace e13 := ft hR e13
 replace e14 := ft hR e14
 replace D_cn := sa_more D_cn hk [b7_5] (in_cons (hg.lo _ _ hb7) in_nil)
 replace D_ci := sa_more D_ci hk [b7_5] (in_cons (hg.lo _ _ hb7) in_nil)
 replace D_cn13_4 := sa_more D_cn13_4 hk [b7_5] (in_cons (hg.lo _ _ hb7) in_nil)
 replace D_ci13_4 := sa_more D_ci13_4 hk [b7_5] (in_cons (hg.lo _ _ hb7) in_nil)
 replace own_bx := own_bx.ext hk
 replace own_b6_2 := own_b6_2.ext hk
 replace kw := kw.x hk
 clear hR hk hg hP hb7
 refine tail_store e7 e13 sz33 rfl own_b7_5 (lbr rfl) (all_cons rfl (all_cons rfl (all_cons rfl (all_cons rfl (all_cons rfl all_nil))))) (fun W6 hs own_b7_5 => ?_)
 have own_b7_5 : Own W6 b7_5 [(.int .u8 ((rtV x m 5).k)), (.int .i64 ((rtV x m 5).n)), (.string ((rtV x m 5).t)), (.slice cn13_4a (((rtV x m 5).ns).length) cn13_4c), (.slice ci13_4a (((rtV x m 5).xs).length) ci13_4c)] 33 := own_b7_5
 replace own_bx := own_store own_bx hs ne_bx_b7_5
 replace own_b6_2 := own_store own_b6_2 hs ne_b6_2_b7_5
 replace D_cn := sa_store D_cn hs (by simp)
 replace D_ci := sa_store D_ci hs (by simp)
 replace D_cn13_4 := sa_store D_cn13_4 hs (by simp)
 replace D_ci13_4 := sa_store D_ci13_4 hs (by simp)
 replace kw := keeps_store kw hs lo_b7_5
 clear hs
 refine tail_assign (v := (.bool (rtB x m 5))) e14 (by rw [y5]; exact Nat.le_of_ble_eq_true rfl) (fun a7 y7 zz7 e8 hr => ?_)
 replace y7 := y7.trans y5; replace zz7 := zz7.trans zz5
 replace e0 := (hr 0 (by decide)).trans e0
 replace e2 := (hr 2 (by decide)).trans e2
 replace e6 := (hr 6 (by decide)).trans e6
 replace e13 := (hr 13 (by decide)).trans e13
 replace e14 := (hr 14 (by decide)).trans e14
 replace e7 := (hr 7 (by decide)).trans e7
 clear hr
 refine zn (hK3 _ _ ?_)
 refine zq fun K8 hK8 => ?_
 refine zq fun K9 hK9 => ?_
 refine rg mixed y7 zz7 ?_
 refine .mb rfl e8 ?_
 refine .i (sp_move (hlc rfl)) ?_
 refine .e rfl (hlc rfl) (fun hg => fo 4 (hbs rfl e7) Try.underlying33 rfl sz31 rfl) ?_
 refine .e rfl (hlc rfl) (fun hg => lo1 ((hlc rfl).undE hg) own_b7_5 trivial agg31 sz31 rfl) ?_
 refine .e rfl (hlc rfl) (fun hg => sp_lenVs Try.underlying31 (((hlc rfl).undE hg).dat D_ci13_4 sub_all)) ?_
 refine .em rfl (hlc rfl) rfl e2 ?_
 refine .e rfl (hlc rfl) (fun hg => sp_gtr ((hlc rfl).undE hg) ((hlc rfl).undE hg)) ?_
 refine .i (sp_and (hlc rfl) ((hlc rfl).weak fun hq => hq)) ?_
 refine .dn fun a10 g W10 y10 zz10 hk hg hV hR hP => ?_
 obtain ⟨e22, -, -, -, -, -, -, -, -⟩ := hV
 replace e0 := ft hR e0
 replace e6 := ft hR e6
 replace e7 := ft hR e7
 replace D_cn := D_cn.ext hk
 replace D_ci := D_ci.ext hk
 replace D_cn13_4 := D_cn13_4.ext hk
 replace D_ci13_4 := D_ci13_4.ext hk
 replace e22 := e22.q
 replace own_bx := own_bx.ext hk
 replace own_b6_2 := own_b6_2.ext hk
 replace own_b7_5 := own_b7_5.ext hk
 replace kw := kw.x hk
 clear hR hk hg hP
 refine zn (hK9 _ _ ?_)
 refine zc e22 (fun hc => ?_) (fun hc => ?_)
 ·
  have hbg : rbig x m 5 mo = true := by unfold rbig; simpa using hc
  have hfo : roV x m mo = V.zero := by rw [roV, if_pos hbg]
  refine zq fun K11 hK11 => ?_
  refine rg mixed y10 zz10 ?_
  refine .mb rfl e0 ?_
  refine .i (sp_nilP (hlc rfl)) ?_
  refine .i (fo 6 (hlc rfl) Try.underlying56 rfl sz28 rfl) ?_
  refine .dn fun a12 g W12 y12 zz12 hk hg hV hR hP => ?_
  obtain ⟨e25, -, -, -⟩ := hV
  replace e6 := ft hR e6
  replace D_cn := D_cn.ext hk
  replace D_ci := D_ci.ext hk
  replace D_cn13_4 := D_cn13_4.ext hk
  replace D_ci13_4 := D_ci13_4.ext hk
  have e25 : sl a12 25 = (.pointer (some ⟨bx, 6, none⟩)) := e25
  replace own_bx := own_bx.ext hk
  replace own_b6_2 := own_b6_2.ext hk
  replace own_b7_5 := own_b7_5.ext hk
  replace kw := kw.x hk
  clear hR hk hg hP
  refine tail_store (b := bx) (o := 6) (v := (.int .i64 (5))) e25 rfl sz28 rfl own_bx (lbr rfl) (all_cons rfl all_nil) (fun W13 hs own_bx => ?_)
  have own_bx : Own W13 bx [(.int .u8 (x.k)), (.int .i64 (x.n)), (.string (x.t)), (.slice cna (x.ns.length) cnc), (.slice cia (x.xs.length) cic), av_4, (.int .i64 (5))] 56 := own_bx
  replace own_b6_2 := own_store own_b6_2 hs ne_bx_b6_2.symm
  replace own_b7_5 := own_store own_b7_5 hs ne_bx_b7_5.symm
  replace D_cn := sa_store D_cn hs (by simp)
  replace D_ci := sa_store D_ci hs (by simp)
  replace D_cn13_4 := sa_store D_cn13_4 hs (by simp)
  replace D_ci13_4 := sa_store D_ci13_4 hs (by simp)
  replace kw := keeps_storeN kw hs (by simp)
  clear hs
  refine zn (hK11 _ _ ?_)
  refine zq fun K14 hK14 => ?_
  refine rg mixed y12 zz12 ?_
  refine .i (v := (.agg #[(.int .u8 (0)), (.int .i64 (0)), (.string (⟨#[]⟩)), (.slice none 0 0), (.slice none 0 0)])) (sp_build (vs := []) Try.underlying33 z33 (pl33 Try.underlying33) trivial rfl) ?_
  refine .dn fun a15 g W15 y15 zz15 hk hg hV hR hP => ?_
  obtain ⟨e26, -⟩ := hV
  replace e6 := ft hR e6
  replace D_cn := D_cn.ext hk
  replace D_ci := D_ci.ext hk
  replace e26 := e26.q
  replace own_bx := own_bx.ext hk
  replace own_b6_2 := own_b6_2.ext hk
  replace own_b7_5 := own_b7_5.ext hk
  replace kw := kw.x hk
  clear hR hk hg hP
  refine tail_store e6 e26 sz33 rfl own_b6_2 (lbr rfl) (all_cons rfl (all_cons rfl (all_cons rfl (all_cons rfl (all_cons rfl all_nil))))) (fun W16 hs own_b6_2 => ?_)
  have own_b6_2 : Own W16 b6_2 [(.int .u8 (0)), (.int .i64 (0)), (.string (⟨#[]⟩)), (.slice none 0 0), (.slice none 0 0)] 33 := own_b6_2
  replace own_bx := own_store own_bx hs ne_bx_b6_2
  replace own_b7_5 := own_store own_b7_5 hs ne_b6_2_b7_5.symm
  replace D_cn := sa_store D_cn hs (by simp)
  replace D_ci := sa_store D_ci hs (by simp)
  replace kw := keeps_store kw hs lo_b6_2
  clear hs
  refine zn (hK14 _ _ ?_)
  refine wp_ret ?_
  refine retC (v := (.agg #[(.int .u8 (0)), (.int .i64 (0)), (.string (⟨#[]⟩)), (.slice none 0 0), (.slice none 0 0)])) rfl zz15 e6 own_b6_2 agg33 sz33 rfl (fun h => by cases h) rfl ⟨_, rfl, kw, ?_⟩
  rw [hfo]
  exact sa_ar (rdV_mk (lbr rfl) (rd_nil _) (rd_nil _) : Rd W16 (SA w S [b7_5, b6_2, bx]) (V.d (V.mk (0) (0) (⟨#[]⟩) ([]) ([]))) _)
 have hbg : ¬ rbig x m 5 mo = true := by unfold rbig; simpa using hc
 have hfo : roV x m mo = rtV x m 5 := by rw [roV, if_neg hbg]
 refine wp_skip (hK8 _ _ ?_)
 refine zq fun K17 hK17 => ?_
 refine rg mixed y10 zz10 ?_
 refine .i (v := (.agg #[(.int .u8 ((rtV x m 5).k)), (.int .i64 ((rtV x m 5).n)), (.string ((rtV x m 5).t)), (.slice cn13_4a (((rtV x m 5).ns).length) cn13_4c), (.slice ci13_4a (((rtV x m 5).xs).length) ci13_4c)])) (loA (hbs rfl e7) own_b7_5 trivial agg33 sz33 rfl rfl) ?_
 refine .dn fun a18 g W18 y18 zz18 hk hg hV hR hP => ?_
 obtain ⟨e27, -⟩ := hV
 replace e6 := ft hR e6
 replace D_cn := D_cn.ext hk
 replace D_ci := D_ci.ext hk
 replace D_cn13_4 := D_cn13_4.ext hk
 replace D_ci13_4 := D_ci13_4.ext hk
 replace e27 := e27.q
 replace own_bx := own_bx.ext hk
 replace own_b6_2 := own_b6_2.ext hk
 replace own_b7_5 := own_b7_5.ext hk
 replace kw := kw.x hk
 clear hR hk hg hP
 refine tail_store e6 e27 sz33 rfl own_b6_2 (lbr rfl) (all_cons rfl (all_cons rfl (all_cons rfl (all_cons rfl (all_cons rfl all_nil))))) (fun W19 hs own_b6_2 => ?_)
 have own_b6_2 : Own W19 b6_2 [(.int .u8 ((rtV x m 5).k)), (.int .i64 ((rtV x m 5).n)), (.string ((rtV x m 5).t)), (.slice cn13_4a (((rtV x m 5).ns).length) cn13_4c), (.slice ci13_4a (((rtV x m 5).xs).length) ci13_4c)] 33 := own_b6_2
 replace own_bx := own_store own_bx hs ne_bx_b6_2
 replace own_b7_5 := own_store own_b7_5 hs ne_b6_2_b7_5.symm
 replace D_cn := sa_store D_cn hs (by simp)
 replace D_ci := sa_store D_ci hs (by simp)
 replace D_cn13_4 := sa_store D_cn13_4 hs (by simp)
 replace D_ci13_4 := sa_store D_ci13_4 hs (by simp)
 replace kw := keeps_store kw hs lo_b6_2
 clear hs
 refine zn (hK17 _ _ ?_)
 refine wp_ret ?_
 refine retC (v := (.agg #[(.int .u8 ((rtV x m 5).k)), (.int .i64 ((rtV x m 5).n)), (.string ((rtV x m 5).t)), (.slice cn13_4a (((rtV x m 5).ns).length) cn13_4c), (.slice ci13_4a (((rtV x m 5).xs).length) ci13_4c)])) rfl zz18 e6 own_b6_2 agg33 sz33 rfl (fun h => by cases h) rfl ⟨_, rfl, kw, ?_⟩
 rw [hfo]
 exact sa_ar (rdV_in (x := (rtV x m 5)) ht_v13_4 D_cn13_4 D_ci13_4 : Rd W19 (SA w S [b7_5, b6_2, bx]) (V.d ((rtV x m 5))) _)
set_option maxRecDepth 100000 in
theorem rAny_ok (m : ByteArray) (hm : m.size ≤ maxLen) (x : V) (hxt : x.t.size ≤ maxLen) (w : World) (S : BSet) (cn ci : Value) (bx : Nat) (hM : ∀ b ∈ [bx], ∀ o, ¬ S b o) (hv : Rd w S (strsD x.ns) cn) (hu : Rd w S (valsD x.xs) ci) (own_bx : Own w bx [.int .u8 x.k, .int .i64 x.n, .string x.t, cn, ci, .slice none 0 0, .int .i64 0] 56) : Calls Try.prog 92 #[.pointer (some ⟨bx, 0, none⟩), .string m] w (RetL w [bx] fun u W => Rd W (Ar w S) (V.d (rtV x m 0)) u) := by
 obtain ⟨cna, cnc, ev, D_cn⟩ := rdS_out (rd_argM (M := [bx]) hv hM)
 subst ev
 obtain ⟨cia, cic, ev, D_ci⟩ := rdVs_out (rd_argM (M := [bx]) hu hM)
 subst ev
 refine enter Try.func92 rfl Try.ntmps92 (lbr rfl) fun a0 y0 zz0 harg => ?_
 have e0 : sl a0 0 = (.pointer (some ⟨bx, 0, none⟩)) := harg 0 (lbr rfl)
 have e1 : sl a0 1 = (.string (m)) := harg 1 (lbr rfl)
 have kw := Keeps.refl (fun k => k ∉ [bx]) w
 clear harg
 refine zq fun K1 hK1 => ?_
 refine rg mixed y0 zz0 ?_
 refine .alloc z33 ?_
 refine .dn fun a2 g W2 y2 zz2 hk hg hV hR hP => ?_
 obtain ⟨⟨b4_2, e4, hb4, own_b4_2⟩, -⟩ := hV
 have lo_b4_2 : w.heap.size ≤ b4_2 := Nat.le_trans kw.size (hg.lo _ _ hb4)
 have ne_bx_b4_2 : bx ≠ b4_2 := Nat.ne_of_lt (Nat.lt_of_lt_of_le own_bx.lt (hg.lo _ _ hb4))
 have own_b4_2 : Own W2 b4_2 [(.int .u8 (0)), (.int .i64 (0)), (.string (⟨#[]⟩)), (.slice none 0 0), (.slice none 0 0)] 33 := own_b4_2
 replace e0 := ft hR e0
 replace e1 := ft hR e1
 replace D_cn := sa_more D_cn hk [b4_2] (in_cons (hg.lo _ _ hb4) in_nil)
 replace D_ci := sa_more D_ci hk [b4_2] (in_cons (hg.lo _ _ hb4) in_nil)
 replace own_bx := own_bx.ext hk
 replace kw := kw.x hk
 clear hR hk hg hP hb4
 refine zn (hK1 _ _ ?_)
 refine zq fun K3 hK3 => ?_
 refine wp_reg (fun k => k ∉ [bx]) (Ψ := fun W => Own W bx [(.int .u8 (x.k)), (.int .i64 (x.n)), (.string (x.t)), (.slice cna (x.ns.length) cnc), (.slice cia (x.xs.length) cic), (.slice none 0 0), (.int .i64 (0))] 56) mixed y2 zz2 stE_own own_bx ?_
 refine .mb rfl e0 ?_
 refine .mb rfl e1 ?_
 refine .callL3 (φ1 := Is (.pointer (some ⟨bx, 0, none⟩))) (φ2 := Is (.string (m))) (φ3 := Is (.int .u8 (0))) (φ := IsT (IsD (SA w S [b4_2, bx]) (V.d (rtV x m 0))) (Is (.bool (rtB x m 0)))) (Ψ' := fun W => ∃ avx : Value, Own W bx [(.int .u8 (x.k)), (.int .i64 (x.n)), (.string (x.t)), (.slice cna (x.ns.length) cnc), (.slice cia (x.xs.length) cic), avx, (.int .i64 (rtE x m 0))] 56) ent141 (hlc rfl) (hlc rfl) Has.cst (st_t (st_d (sub_nl (by simp))) (st_is _)) stE_ownX (fun g u1 u2 u3 W hk hg h1 h2 h3 hP => by have h1 : u1 = _ := h1; subst u1; have h2 : u2 = _ := h2; subst u2; have h3 : u3 = _ := h3; subst u3; exact ((rTake_ok m hm 0 (x) hxt W _ _ _ _ (fun b hb o h => (sa_notin (by simp : ∀ b ∈ [bx], b ∈ [b4_2, bx])) b hb o h.1) (rd_base D_cn hk hg (sub_nl (by simp))) (rd_base D_ci hk hg (sub_nl (by simp))) hP).mono fun _ _ ⟨v, h1, h2, r1, av, h3, h4, h5⟩ => ⟨v, h1, h2, ⟨r1, _, h3, rd_ar_sa kw (in_cons own_b4_2.lt (in_cons own_bx.lt in_nil)) hk hg h4, rfl⟩, av, h5⟩)) ?_
 refine .op (φ := IsT (IsD (SA w S [b4_2, bx]) (V.d (rtV x m 0))) (Is (.bool (rtB x m 0)))) (st_t (st_d (sub_nl (by simp))) (st_is _)) (sp_move (hlc rfl)) ?_
 refine .op (φ := IsD (SA w S [b4_2, bx]) (V.d (rtV x m 0))) (st_d (sub_nl (by simp))) (sp_ext2 (hlc rfl) rfl) ?_
 refine .i (v := (.bool (rtB x m 0))) (sp_ext2' (hlc rfl) rfl) ?_
 refine .dn fun a4 g W4 y4 zz4 hk hg hV hR hP => ?_
 obtain ⟨e12, e11, -, -, -, -, -⟩ := hV
 replace e4 := ft hR e4
 obtain ⟨v11_4, ev⟩ : ∃ v, sl a4 11 = v := ⟨_, rfl⟩
 rw [ev] at e11
 have D_v11_4 : Rd W4 (SA w S [b4_2, bx]) (V.d (rtV x m 0)) v11_4 := sa_end e11 (Keeps.refl All W4) [] in_nil
 replace e11 := ev; clear ev
 obtain ⟨cn11_4a, cn11_4c, ci11_4a, ci11_4c, ev, ht_v11_4, D_cn11_4, D_ci11_4⟩ := rdV_out D_v11_4
 subst ev; clear D_v11_4
 replace e12 := e12.q
 replace D_cn := sa_keepL D_cn hk (by simp)
 replace D_ci := sa_keepL D_ci hk (by simp)
 replace own_b4_2 := own_keepL own_b4_2 hk (by simp [ne_bx_b4_2.symm])
 obtain ⟨av_4, own_bx⟩ := hP
 replace own_bx : Own W4 bx [(.int .u8 (x.k)), (.int .i64 (x.n)), (.string (x.t)), (.slice cna (x.ns.length) cnc), (.slice cia (x.xs.length) cic), av_4, (.int .i64 (rtE x m 0))] 56 := own_bx
 replace kw := keeps_L kw hk (in_cons (.inr (by simp)) in_nil)
 clear hR hk hg
 refine tail_reg 1 All y4 zz4 st_tr trivial rfl ?_
 refine .alloc z33 ?_
 refine .dn fun a5 g W5 y5 zz5 hk hg hV hR hP => ?_
 refine tail_nil ?_
 show runTail _ _ _ _ _ _
 obtain ⟨⟨b5_5, e5, hb5, own_b5_5⟩, -⟩ := hV
 have lo_b5_5 : w.heap.size ≤ b5_5 := Nat.le_trans kw.size (hg.lo _ _ hb5)
 have ne_bx_b5_5 : bx ≠ b5_5 := Nat.ne_of_lt (Nat.lt_of_lt_of_le own_bx.lt (hg.lo _ _ hb5))
 have ne_b4_2_b5_5 : b4_2 ≠ b5_5 := Nat.ne_of_lt (Nat.lt_of_lt_of_le own_b4_2.lt (hg.lo _ _ hb5))
 have own_b5_5 : Own W5 b5_5 [(.int .u8 (0)), (.int .i64 (0)), (.string (⟨#[]⟩)), (.slice none 0 0), (.slice none 0 0)] 33 := own_b5_5
 replace e4 := ft hR e4
 replace e11 := ft hR e11
 replace e12 := ft hR e12
 replace D_cn := sa_more D_cn hk [b5_5] (in_cons (hg.lo _ _ hb5) in_nil)
 replace D_ci := sa_more D_ci hk [b5_5] (in_cons (hg.lo _ _ hb5) in_nil)
 replace D_cn11_4 := sa_more D_cn11_4 hk [b5_5] (in_cons (hg.lo _ _ hb5) in_nil)
 replace D_ci11_4 := sa_more D_ci11_4 hk [b5_5] (in_cons (hg.lo _ _ hb5) in_nil)
 replace own_bx := own_bx.ext hk
 replace own_b4_2 := own_b4_2.ext hk
 replace kw := kw.x hk
 clear hR hk hg hP hb5
 refine tail_store e5 e11 sz33 rfl own_b5_5 (lbr rfl) (all_cons rfl (all_cons rfl (all_cons rfl (all_cons rfl (all_cons rfl all_nil))))) (fun W6 hs own_b5_5 => ?_)
 have own_b5_5 : Own W6 b5_5 [(.int .u8 ((rtV x m 0).k)), (.int .i64 ((rtV x m 0).n)), (.string ((rtV x m 0).t)), (.slice cn11_4a (((rtV x m 0).ns).length) cn11_4c), (.slice ci11_4a (((rtV x m 0).xs).length) ci11_4c)] 33 := own_b5_5
 replace own_bx := own_store own_bx hs ne_bx_b5_5
 replace own_b4_2 := own_store own_b4_2 hs ne_b4_2_b5_5
 replace D_cn := sa_store D_cn hs (by simp)
 replace D_ci := sa_store D_ci hs (by simp)
 replace D_cn11_4 := sa_store D_cn11_4 hs (by simp)
 replace D_ci11_4 := sa_store D_ci11_4 hs (by simp)
 replace kw := keeps_store kw hs lo_b5_5
 clear hs
 refine tail_assign (v := (.bool (rtB x m 0))) e12 (by rw [y5]; exact Nat.le_of_ble_eq_true rfl) (fun a7 y7 zz7 e6 hr => ?_)
 replace y7 := y7.trans y5; replace zz7 := zz7.trans zz5
 replace e4 := (hr 4 (by decide)).trans e4
 replace e11 := (hr 11 (by decide)).trans e11
 replace e12 := (hr 12 (by decide)).trans e12
 replace e5 := (hr 5 (by decide)).trans e5
 clear hr
 refine zn (hK3 _ _ ?_)
 refine zq fun K8 hK8 => ?_
 refine rg mixed y7 zz7 ?_
 refine .i (v := (.agg #[(.int .u8 ((rtV x m 0).k)), (.int .i64 ((rtV x m 0).n)), (.string ((rtV x m 0).t)), (.slice cn11_4a (((rtV x m 0).ns).length) cn11_4c), (.slice ci11_4a (((rtV x m 0).xs).length) ci11_4c)])) (loA (hbs rfl e5) own_b5_5 trivial agg33 sz33 rfl rfl) ?_
 refine .dn fun a9 g W9 y9 zz9 hk hg hV hR hP => ?_
 obtain ⟨e13, -⟩ := hV
 replace e4 := ft hR e4
 replace D_cn := D_cn.ext hk
 replace D_ci := D_ci.ext hk
 replace D_cn11_4 := D_cn11_4.ext hk
 replace D_ci11_4 := D_ci11_4.ext hk
 replace e13 := e13.q
 replace own_bx := own_bx.ext hk
 replace own_b4_2 := own_b4_2.ext hk
 replace own_b5_5 := own_b5_5.ext hk
 replace kw := kw.x hk
 clear hR hk hg hP
 refine tail_store e4 e13 sz33 rfl own_b4_2 (lbr rfl) (all_cons rfl (all_cons rfl (all_cons rfl (all_cons rfl (all_cons rfl all_nil))))) (fun W10 hs own_b4_2 => ?_)
 have own_b4_2 : Own W10 b4_2 [(.int .u8 ((rtV x m 0).k)), (.int .i64 ((rtV x m 0).n)), (.string ((rtV x m 0).t)), (.slice cn11_4a (((rtV x m 0).ns).length) cn11_4c), (.slice ci11_4a (((rtV x m 0).xs).length) ci11_4c)] 33 := own_b4_2
 replace own_bx := own_store own_bx hs ne_bx_b4_2
 replace own_b5_5 := own_store own_b5_5 hs ne_b4_2_b5_5.symm
 replace D_cn := sa_store D_cn hs (by simp)
 replace D_ci := sa_store D_ci hs (by simp)
 replace D_cn11_4 := sa_store D_cn11_4 hs (by simp)
 replace D_ci11_4 := sa_store D_ci11_4 hs (by simp)
 replace kw := keeps_store kw hs lo_b4_2
 clear hs
 refine zn (hK8 _ _ ?_)
 refine wp_ret ?_
 refine retC (v := (.agg #[(.int .u8 ((rtV x m 0).k)), (.int .i64 ((rtV x m 0).n)), (.string ((rtV x m 0).t)), (.slice cn11_4a (((rtV x m 0).ns).length) cn11_4c), (.slice ci11_4a (((rtV x m 0).xs).length) ci11_4c)])) rfl zz9 e4 own_b4_2 agg33 sz33 rfl (fun h => by cases h) rfl ⟨_, rfl, kw, ?_⟩
 exact sa_ar (rdV_in (x := (rtV x m 0)) ht_v11_4 D_cn11_4 D_ci11_4 : Rd W10 (SA w S [b5_5, b4_2, bx]) (V.d ((rtV x m 0))) _)
end Go.Proofs.Ytnobijngkpflcaa
namespace Go.Proofs.Ytnobijngkpflcaa
open Go.Eng
set_option maxRecDepth 100000 in
theorem rTexts_ok (m : ByteArray) (hm : m.size ≤ maxLen) (mo : Int) (x : V) (hxt : x.t.size ≤ maxLen) (w : World) (S : BSet) (cn ci : Value) (bx : Nat) (hM : ∀ b ∈ [bx], ∀ o, ¬ S b o) (hv : Rd w S (strsD x.ns) cn) (hu : Rd w S (valsD x.xs) ci) (own_bx : Own w bx [.int .u8 x.k, .int .i64 x.n, .string x.t, cn, ci, .slice none 0 0, .int .i64 0] 56) (hl : (rlL x m mo).length ≤ 1073741824): Calls Try.prog 90 #[.pointer (some ⟨bx, 0, none⟩), .string m, .int .i64 mo] w (RetL w [bx] fun u W => Rd W (Ar w S) (strsD (rxT (rlL x m mo))) u) := by
 obtain ⟨cna, cnc, ev, D_cn⟩ := rdS_out (rd_argM (M := [bx]) hv hM)
 subst ev
 obtain ⟨cia, cic, ev, D_ci⟩ := rdVs_out (rd_argM (M := [bx]) hu hM)
 subst ev
 refine enter Try.func90 rfl Try.ntmps90 (lbr rfl) fun a0 y0 zz0 harg => ?_
 have e0 : sl a0 0 = (.pointer (some ⟨bx, 0, none⟩)) := harg 0 (lbr rfl)
 have e1 : sl a0 1 = (.string (m)) := harg 1 (lbr rfl)
 have e2 : sl a0 2 = (.int .i64 (mo)) := harg 2 (lbr rfl)
 have kw := Keeps.refl (fun k => k ∉ [bx]) w
 clear harg
 refine zq fun K1 hK1 => ?_
 refine rg mixed y0 zz0 ?_
 refine .ac ?_
 refine .dn fun a2 g W2 y2 zz2 hk hg hV hR hP => ?_
 obtain ⟨-, -⟩ := hV
 replace e0 := ft hR e0
 replace e1 := ft hR e1
 replace e2 := ft hR e2
 replace D_cn := D_cn.ext hk
 replace D_ci := D_ci.ext hk
 replace own_bx := own_bx.ext hk
 replace kw := kw.x hk
 clear hR hk hg hP
 refine zn (hK1 _ _ ?_)
 refine zq fun K3 hK3 => ?_
 refine wp_reg (fun k => k ∉ [bx]) (Ψ := fun W => Own W bx [(.int .u8 (x.k)), (.int .i64 (x.n)), (.string (x.t)), (.slice cna (x.ns.length) cnc), (.slice cia (x.xs.length) cic), (.slice none 0 0), (.int .i64 (0))] 56) mixed y2 zz2 stE_own own_bx ?_
 refine .mb rfl e0 ?_
 refine .mb rfl e1 ?_
 refine .mb rfl e2 ?_
 refine .callL3 (φ1 := Is (.pointer (some ⟨bx, 0, none⟩))) (φ2 := Is (.string (m))) (φ3 := Is (.int .i64 (mo))) (φ := IsD (SA w S [bx]) (valsD (rlL x m mo))) (Ψ' := fun W => ∃ avx : Value, Own W bx [(.int .u8 (x.k)), (.int .i64 (x.n)), (.string (x.t)), (.slice cna (x.ns.length) cnc), (.slice cia (x.xs.length) cic), avx, (.int .i64 (rlE x m mo))] 56) ent87 (hlc rfl) (hlc rfl) (hlc rfl) (st_d (sub_nl (by simp))) stE_ownX (fun g u1 u2 u3 W hk hg h1 h2 h3 hP => by have h1 : u1 = _ := h1; subst u1; have h2 : u2 = _ := h2; subst u2; have h3 : u3 = _ := h3; subst u3; exact ((rList_ok m hm mo (x) hxt W _ _ _ _ (fun b hb o h => (sa_notin (by simp : ∀ b ∈ [bx], b ∈ [bx])) b hb o h.1) (rd_base D_cn hk hg (sub_nl (by simp))) (rd_base D_ci hk hg (sub_nl (by simp))) hP).mono fun _ _ ⟨v, h1, h2, av, h4, h5⟩ => ⟨v, h1, h2, rd_ar_sa kw (in_cons own_bx.lt in_nil) hk hg h4, av, h5⟩)) ?_
 refine .op (φ := IsD (SA w S [bx]) (valsD (rlL x m mo))) (st_d (sub_nl (by simp))) (sp_assign (hlc rfl)) ?_
 refine .dn fun a4 g W4 y4 zz4 hk hg hV hR hP => ?_
 obtain ⟨e7, -, -, -, -, -⟩ := hV
 replace e0 := ft hR e0
 obtain ⟨v7_4, ev⟩ : ∃ v, sl a4 7 = v := ⟨_, rfl⟩
 rw [ev] at e7
 have D_v7_4 : Rd W4 (SA w S [bx]) (valsD (rlL x m mo)) v7_4 := sa_end e7 (Keeps.refl All W4) [] in_nil
 replace e7 := ev; clear ev
 obtain ⟨v7_4a, v7_4c, ev, D2⟩ := rdVs_out D_v7_4
 subst ev; replace D_v7_4 := D2; clear D2
 replace D_cn := sa_keepL D_cn hk (by simp)
 replace D_ci := sa_keepL D_ci hk (by simp)
 obtain ⟨av_4, own_bx⟩ := hP
 replace own_bx : Own W4 bx [(.int .u8 (x.k)), (.int .i64 (x.n)), (.string (x.t)), (.slice cna (x.ns.length) cnc), (.slice cia (x.xs.length) cic), av_4, (.int .i64 (rlE x m mo))] 56 := own_bx
 replace kw := keeps_L kw hk (in_cons (.inr (by simp)) in_nil)
 clear hR hk hg
 have hbt : ∀ i (h : i < (rlL x m mo).length), ((rlL x m mo)[i]'h).t.size ≤ maxLen := fun i h => rd_tAt D_v7_4 h
 refine zn (hK3 _ _ ?_)
 refine zq fun K5 hK5 => ?_
 refine rg mixed y4 zz4 ?_
 refine .ac ?_
 refine .dn fun a6 g W6 y6 zz6 hk hg hV hR hP => ?_
 obtain ⟨e8, -⟩ := hV
 replace e0 := ft hR e0
 replace e7 := ft hR e7
 replace D_cn := D_cn.ext hk
 replace D_ci := D_ci.ext hk
 replace D_v7_4 := D_v7_4.ext hk
 replace e8 := e8.q
 replace own_bx := own_bx.ext hk
 replace kw := kw.x hk
 clear hR hk hg hP
 refine zn (hK5 _ _ ?_)
 refine zq fun K7 hK7 => ?_
 refine zq fun K8 hK8 => ?_
 refine rg mixed y6 zz6 ?_
 refine .ac ?_
 refine .dn fun a9 g W9 y9 zz9 hk hg hV hR hP => ?_
 obtain ⟨e9, -⟩ := hV
 replace e0 := ft hR e0
 replace e7 := ft hR e7
 replace e8 := ft hR e8
 replace D_cn := D_cn.ext hk
 replace D_ci := D_ci.ext hk
 replace D_v7_4 := D_v7_4.ext hk
 replace e9 := e9.q
 replace own_bx := own_bx.ext hk
 replace kw := kw.x hk
 clear hR hk hg hP
 refine zn (hK8 _ _ ?_)
 refine wp_block ?_
 have A_ar10 : Arr W9 w.heap.size 9 1 (SA w S (blks none ++ (bx :: []))) (List.map D.str ([])) (.slice none 0 0) none := arr_nil _ _ _ _ _
 replace D_cn : Rd W9 (SA w S (blks none ++ (bx :: []))) (strsD (x.ns)) (.slice cna (x.ns.length) cnc) := D_cn
 replace D_ci : Rd W9 (SA w S (blks none ++ (bx :: []))) (valsD (x.xs)) (.slice cia (x.xs.length) cic) := D_ci
 replace D_v7_4 : Rd W9 (SA w S (blks none ++ (bx :: []))) (valsD (rlL x m mo)) (.slice v7_4a ((rlL x m mo).length) v7_4c) := D_v7_4
 refine wp_for ((rlL x m mo).length) (fun k a W => ∃ (vs8_11 : Value), ∃ (hds8_11 : Option Nat), a.tmps.size = 38 ∧ a.defers = [] ∧ Keeps (fun k => k ∉ [bx]) w W ∧ sl a 0 = (.pointer (some ⟨bx, 0, none⟩)) ∧ sl a 7 = (.slice v7_4a ((rlL x m mo).length) v7_4c) ∧ sl a 8 = vs8_11 ∧ sl a 9 = (.int .i64 ((k : Nat))) ∧ Own W bx [(.int .u8 (x.k)), (.int .i64 (x.n)), (.string (x.t)), (.slice cna (x.ns.length) cnc), (.slice cia (x.xs.length) cic), av_4, (.int .i64 (rlE x m mo))] 56 ∧ Rd W (SA w S (blks hds8_11 ++ (bx :: []))) (strsD (x.ns)) (.slice cna (x.ns.length) cnc) ∧ Rd W (SA w S (blks hds8_11 ++ (bx :: []))) (valsD (x.xs)) (.slice cia (x.xs.length) cic) ∧ Rd W (SA w S (blks hds8_11 ++ (bx :: []))) (valsD (rlL x m mo)) (.slice v7_4a ((rlL x m mo).length) v7_4c) ∧ Arr W w.heap.size 9 1 (SA w S (blks hds8_11 ++ (bx :: []))) (List.map D.str (List.map V.t ((rlL x m mo).take k))) vs8_11 hds8_11 ∧ bx ∉ blks hds8_11 ∧ (∀ i (h : i < (rlL x m mo).length), i < k → ((rlL x m mo)[i]'h).k = 3)) ⟨(.slice none 0 0), none, y9, zz9, kw, e0, e7, e8, (e9.trans (congrArg (Value.int .i64) (rfl))), own_bx, D_cn, D_ci, D_v7_4, A_ar10, nb_none, fun i h hi => absurd hi (by omega)⟩ ?_
 clear kw e0 e7 e8 e9 own_bx D_cn D_ci D_v7_4 A_ar10
 rintro k a11 W11 hkk ⟨vs8_11, hds8_11, y11, zz11, kw, e0, e7, e8, e9, own_bx, D_cn, D_ci, D_v7_4, As8_11, nb_bx_ar10_11, hinv⟩
 refine zq fun K12 hK12 => ?_
 refine zq fun K13 hK13 => ?_
 refine rg mixed y11 zz11 ?_
 refine .mb rfl e9 ?_
 refine .mb rfl e7 ?_
 refine .i (sp_lenVs Try.underlying31 ((hlc rfl).dat D_v7_4 sub_all)) ?_
 refine .i (sp_lss (hlc rfl) (hlc rfl)) ?_
 refine .dn fun a14 g W14 y14 zz14 hk hg hV hR hP => ?_
 obtain ⟨e17, -, -, -, -⟩ := hV
 replace e0 := ft hR e0
 replace e7 := ft hR e7
 replace e8 := ft hR e8
 replace e9 := ft hR e9
 replace As8_11 := As8_11.ext hk
 replace D_cn := D_cn.ext hk
 replace D_ci := D_ci.ext hk
 replace D_v7_4 := D_v7_4.ext hk
 replace e17 := e17.q
 replace own_bx := own_bx.ext hk
 replace kw := kw.x hk
 clear hR hk hg hP
 refine zn (hK13 _ _ ?_)
 refine zc e17 (fun hc => ?_) (fun hc => ?_)
 ·
  have hlt : k < (rlL x m mo).length := by simpa using hc
  refine wp_skip (hK12 _ _ ?_)
  refine zq fun K15 hK15 => ?_
  refine wp_block ?_
  refine zq fun K16 hK16 => ?_
  refine zq fun K17 hK17 => ?_
  refine rg mixed y14 zz14 ?_
  refine .mb rfl e7 ?_
  refine .mb rfl e9 ?_
  refine .rf (sp_indexV (i := k) ((hlc rfl).dat D_v7_4 sub_all) (hlc rfl) Try.underlying31 sz33 rfl hlt) ?_
  refine .rf (X := SA w S (blks hds8_11 ++ (bx :: []))) (e := D.int .u8 (((rlL x m mo)[k]'hlt).k)) (sp_fieldV (hlc rfl) Try.underlying33 rfl sz5 rfl rfl) ?_
  refine .i (sp_loadInt (hlc rfl) agg5 sz5) ?_
  refine .i (sp_neq (hlc rfl) Has.cst) ?_
  refine .dn fun a18 g W18 y18 zz18 hk hg hV hR hP => ?_
  obtain ⟨e25, -, -, -, -, -, -⟩ := hV
  replace e0 := ft hR e0
  replace e7 := ft hR e7
  replace e8 := ft hR e8
  replace e9 := ft hR e9
  replace As8_11 := As8_11.ext hk
  replace D_cn := D_cn.ext hk
  replace D_ci := D_ci.ext hk
  replace D_v7_4 := D_v7_4.ext hk
  replace e25 := e25.q
  replace own_bx := own_bx.ext hk
  replace kw := kw.x hk
  clear hR hk hg hP
  refine zn (hK17 _ _ ?_)
  refine zc e25 (fun hc => ?_) (fun hc => ?_)
  ·
   have hfx : rxT (rlL x m mo) = [] := rxT_no hlt (by simp at hc; omega)
   refine zq fun K19 hK19 => ?_
   refine rg mixed y18 zz18 ?_
   refine .mb rfl e0 ?_
   refine .i (sp_nilP (hlc rfl)) ?_
   refine .i (fo 6 (hlc rfl) Try.underlying56 rfl sz28 rfl) ?_
   refine .dn fun a20 g W20 y20 zz20 hk hg hV hR hP => ?_
   obtain ⟨e28, -, -, -⟩ := hV
   replace As8_11 := As8_11.ext hk
   replace D_cn := D_cn.ext hk
   replace D_ci := D_ci.ext hk
   replace D_v7_4 := D_v7_4.ext hk
   have e28 : sl a20 28 = (.pointer (some ⟨bx, 6, none⟩)) := e28
   replace own_bx := own_bx.ext hk
   replace kw := kw.x hk
   clear hR hk hg hP
   refine tail_store (b := bx) (o := 6) (v := (.int .i64 (10))) e28 rfl sz28 rfl own_bx (lbr rfl) (all_cons rfl all_nil) (fun W21 hs own_bx => ?_)
   have own_bx : Own W21 bx [(.int .u8 (x.k)), (.int .i64 (x.n)), (.string (x.t)), (.slice cna (x.ns.length) cnc), (.slice cia (x.xs.length) cic), av_4, (.int .i64 (10))] 56 := own_bx
   replace D_cn := sa_store D_cn hs (by simp)
   replace D_ci := sa_store D_ci hs (by simp)
   replace D_v7_4 := sa_store D_v7_4 hs (by simp)
   replace As8_11 := arrA_store As8_11 hs (by simp) nb_bx_ar10_11
   replace kw := keeps_storeN kw hs (by simp)
   clear hs
   refine zn (hK19 _ _ ?_)
   refine zq fun K22 hK22 => ?_
   refine rg mixed y20 zz20 ?_
   refine .ac ?_
   refine .dn fun a23 g W23 y23 zz23 hk hg hV hR hP => ?_
   obtain ⟨e6, -⟩ := hV
   replace As8_11 := As8_11.ext hk
   replace D_cn := D_cn.ext hk
   replace D_ci := D_ci.ext hk
   replace e6 := e6.q
   replace own_bx := own_bx.ext hk
   replace kw := kw.x hk
   clear hR hk hg hP
   refine zn (hK22 _ _ ?_)
   refine wp_ret ?_
   refine ret1 rfl zz23 e6 ⟨_, rfl, kw, ?_⟩
   rw [hfx]
   exact rd_nil _
  have hk1 : ((rlL x m mo)[k]'hlt).k = 3 := by simp at hc; omega
  refine wp_skip (hK16 _ _ ?_)
  refine wp_reg (fun k => k ∉ blks hds8_11) (Ψ := fun W => Arr W w.heap.size 9 1 (SA w S (blks hds8_11 ++ (bx :: []))) (List.map D.str (List.map V.t ((rlL x m mo).take k))) vs8_11 hds8_11) mixed y18 zz18 (fun W W' k h => h.ext k) As8_11 ?_
  refine .mb rfl e8 ?_
  refine .mb rfl e7 ?_
  refine .mb rfl e9 ?_
  refine .op (φ := IsR (SA w S (blks hds8_11 ++ (bx :: []))) (V.d ((rlL x m mo)[k]'hlt))) (st_r (sub_nb (fun b hb => List.mem_append_left _ hb))) (sp_indexV (i := k) ((hlc rfl).dat D_v7_4 (sub_nb (fun b hb => List.mem_append_left _ hb))) (hlc rfl) Try.underlying31 sz33 rfl hlt) ?_
  refine .op (φ := IsR (SA w S (blks hds8_11 ++ (bx :: []))) (D.str (((rlL x m mo)[k]'hlt).t))) (st_r (sub_nb (fun b hb => List.mem_append_left _ hb))) (sp_fieldV (hlc rfl) Try.underlying33 rfl sz9 rfl rfl) ?_
  refine .i (sp_loadStr (hlc rfl) agg9 sz9) ?_
  refine .op (φ := IsD (SA w S (blks hds8_11 ++ (bx :: []))) (strsD ([((rlL x m mo)[k]'hlt).t]))) (st_d (sub_nb (fun b hb => List.mem_append_left _ hb))) (sp_bsl (ds := [D.str (((rlL x m mo)[k]'hlt).t)]) Try.underlying23 sz9 z9 (lbr rfl) (lbr rfl) ⟨rfl, ((hlc rfl).str (hbt k hlt)), trivial⟩ rfl (by simp [width]) (fr_sa kw (in_app As8_11.lt (in_cons own_bx.lt in_nil)))) ?_
  refine .appB (ds := List.map D.str (List.map V.t ((rlL x m mo).take k))) (es := [D.str (((rlL x m mo)[k]'hlt).t)]) (X := SA w S (blks hds8_11 ++ (bx :: []))) Try.underlying23 inf9 (lbr rfl) (hlc rfl) (hlc rfl) (sub_nb (fun b hb => List.mem_append_left _ hb)) (by simp [maxLen]; omega) (by simp; omega) kw.size ?_
  refine .dn fun a24 g W24 y24 zz24 hk hg hV hR hP => ?_
  obtain ⟨e36, -, -, -, -, -, -, -, -⟩ := hV
  replace e0 := ft hR e0
  replace e7 := ft hR e7
  replace e8 := ft hR e8
  replace e9 := ft hR e9
  obtain ⟨v36_24, ev⟩ : ∃ v, sl a24 36 = v := ⟨_, rfl⟩
  rw [ev] at e36
  obtain ⟨hd36_24, A_36_24, hf36_24⟩ := e36
  have e36 := ev; clear ev
  obtain ⟨v36_24a, v36_24n, v36_24c, ev⟩ := arr_sl A_36_24; subst ev
  replace A_36_24 := arrA_new (M' := (blks hd36_24 ++ (bx :: []))) A_36_24 (rep_app (rep_q fun _ h => h) (rep_cons rep_nil))
  replace A_36_24 : Arr W24 w.heap.size 9 1 (SA w S (blks hd36_24 ++ (bx :: []))) (List.map D.str ((List.map V.t ((rlL x m mo).take k)) ++ [((rlL x m mo)[k]'hlt).t])) (.slice v36_24a v36_24n v36_24c) hd36_24 := by first | exact A_36_24 | (rw [List.map_append]; exact A_36_24)
  have nb_bx_24 : bx ∉ blks hd36_24 := nb_new nb_bx_ar10_11 own_bx.lt hf36_24
  replace D_cn := sa_app (M' := (blks hd36_24 ++ (bx :: []))) D_cn hk (fun b hb => List.mem_append_left _ hb) (rep_app hf36_24 (rep_cons rep_nil))
  replace D_ci := sa_app (M' := (blks hd36_24 ++ (bx :: []))) D_ci hk (fun b hb => List.mem_append_left _ hb) (rep_app hf36_24 (rep_cons rep_nil))
  replace D_v7_4 := sa_app (M' := (blks hd36_24 ++ (bx :: []))) D_v7_4 hk (fun b hb => List.mem_append_left _ hb) (rep_app hf36_24 (rep_cons rep_nil))
  replace own_bx := own_app own_bx hk nb_bx_ar10_11
  replace kw := keeps_app kw hk As8_11.ge
  clear hR hk hg hP hf36_24 As8_11
  refine tail_assign (v := (.slice v36_24a v36_24n v36_24c)) e36 (by rw [y24]; exact Nat.le_of_ble_eq_true rfl) (fun a25 y25 zz25 e8 hr => ?_)
  replace y25 := y25.trans y24; replace zz25 := zz25.trans zz24
  replace e0 := (hr 0 (by decide)).trans e0
  replace e7 := (hr 7 (by decide)).trans e7
  replace e9 := (hr 9 (by decide)).trans e9
  replace e36 := (hr 36 (by decide)).trans e36
  clear hr
  refine zn (hK15 _ _ ?_)
  refine rg mixed y25 zz25 ?_
  refine .mb rfl e9 ?_
  refine .i (sp_add (hlc rfl) Has.cst (i64_in (by omega))) ?_
  refine .al rfl ?_
  refine .dn fun a26 g W26 y26 zz26 hk hg hV hR hP => ?_
  obtain ⟨e9, -, -, -⟩ := hV
  replace e0 := ft hR e0
  replace e7 := ft hR e7
  replace e8 := ft hR e8
  replace A_36_24 := A_36_24.ext hk
  replace D_cn := D_cn.ext hk
  replace D_ci := D_ci.ext hk
  replace D_v7_4 := D_v7_4.ext hk
  replace e9 := e9.q
  replace own_bx := own_bx.ext hk
  replace kw := kw.x hk
  clear hR hk hg hP
  rw [show (List.map V.t ((rlL x m mo).take k)) ++ [((rlL x m mo)[k]'hlt).t] = List.map V.t ((rlL x m mo).take (k + 1)) by rw [List.take_succ_eq_append_getElem hlt, List.map_append]; rfl] at A_36_24
  exact tail_nil ⟨hlt, (.slice v36_24a v36_24n v36_24c), hd36_24, y26, zz26, kw, e0, e7, e8, (e9.trans (congrArg (Value.int .i64) (by simp))), own_bx, D_cn, D_ci, D_v7_4, A_36_24, nb_bx_24, fun i h hi => by rcases Nat.lt_succ_iff_lt_or_eq.1 hi with h1 | h1; exact hinv i h h1; subst h1; exact hk1⟩
 have hge0 : ¬ k < (rlL x m mo).length := by simpa using hc
 have hge : k = (rlL x m mo).length := by omega
 have hfx : rxT (rlL x m mo) = List.map V.t (rlL x m mo) := rxT_yes fun i h => hinv i h (by omega)
 rw [show List.map V.t ((rlL x m mo).take k) = List.map V.t (rlL x m mo) by rw [hge, List.take_length]] at As8_11
 have D_vs8_11 : Rd W14 (SA w S [bx]) (strsD (List.map V.t (rlL x m mo))) vs8_11 := arrA_rd As8_11 (ls_skipA (ls_keep ls_nil)) (nin_cons nb_bx_ar10_11 nin_nil)
 obtain ⟨vs8_11a, vs8_11c, ev, D2⟩ := rdS_out D_vs8_11
 subst ev; replace D_vs8_11 := D2; clear D2
 replace D_cn := sa_less (M' := [bx]) D_cn (ls_skipA (ls_keep ls_nil))
 replace D_ci := sa_less (M' := [bx]) D_ci (ls_skipA (ls_keep ls_nil))
 replace D_v7_4 := sa_less (M' := [bx]) D_v7_4 (ls_skipA (ls_keep ls_nil))
 refine wp_exit (hK7 _ _ ?_)
 refine zq fun K27 hK27 => ?_
 refine rg mixed y14 zz14 ?_
 refine .mb rfl e8 ?_
 refine .al rfl ?_
 refine .dn fun a28 g W28 y28 zz28 hk hg hV hR hP => ?_
 obtain ⟨e6, -, -⟩ := hV
 replace D_cn := D_cn.ext hk
 replace D_ci := D_ci.ext hk
 replace D_v7_4 := D_v7_4.ext hk
 replace D_vs8_11 := D_vs8_11.ext hk
 replace e6 := e6.q
 replace own_bx := own_bx.ext hk
 replace kw := kw.x hk
 clear hR hk hg hP
 refine zn (hK27 _ _ ?_)
 refine wp_ret ?_
 refine ret1 rfl zz28 e6 ⟨_, rfl, kw, ?_⟩
 rw [hfx]
 exact sa_ar D_vs8_11
set_option maxRecDepth 100000 in
theorem rFail_ok (f : Int) (x : V) (hxt : x.t.size ≤ maxLen) (w : World) (S : BSet) (cn ci : Value) (bx : Nat) (hM : ∀ b ∈ [bx], ∀ o, ¬ S b o) (hv : Rd w S (strsD x.ns) cn) (hu : Rd w S (valsD x.xs) ci) (own_bx : Own w bx [.int .u8 x.k, .int .i64 x.n, .string x.t, cn, ci, .slice none 0 0, .int .i64 0] 56) : Calls Try.prog 93 #[.pointer (some ⟨bx, 0, none⟩), .int .i64 f] w (RetL w [bx] fun u _ => u = .tuple #[]) := by
 obtain ⟨cna, cnc, ev, D_cn⟩ := rdS_out (rd_argM (M := [bx]) hv hM)
 subst ev
 obtain ⟨cia, cic, ev, D_ci⟩ := rdVs_out (rd_argM (M := [bx]) hu hM)
 subst ev
 refine enter Try.func93 rfl Try.ntmps93 (lbr rfl) fun a0 y0 zz0 harg => ?_
 have e0 : sl a0 0 = (.pointer (some ⟨bx, 0, none⟩)) := harg 0 (lbr rfl)
 have e1 : sl a0 1 = (.int .i64 (f)) := harg 1 (lbr rfl)
 have kw := Keeps.refl (fun k => k ∉ [bx]) w
 clear harg
 refine zq fun K1 hK1 => ?_
 refine rg mixed y0 zz0 ?_
 refine .mb rfl e0 ?_
 refine .i (sp_nilP (hlc rfl)) ?_
 refine .i (fo 6 (hlc rfl) Try.underlying56 rfl sz28 rfl) ?_
 refine .i (lo1 (hlc rfl) own_bx trivial agg28 sz28 rfl) ?_
 refine .i (sp_eql (hlc rfl) Has.cst) ?_
 refine .dn fun a2 g W2 y2 zz2 hk hg hV hR hP => ?_
 obtain ⟨e8, -, -, -, -, -⟩ := hV
 replace e0 := ft hR e0
 replace e1 := ft hR e1
 replace D_cn := D_cn.ext hk
 replace D_ci := D_ci.ext hk
 replace e8 := e8.q
 replace own_bx := own_bx.ext hk
 replace kw := kw.x hk
 clear hR hk hg hP
 refine zn (hK1 _ _ ?_)
 refine wp_cond_true (e8.trans (congrArg Value.bool (by decide))) ?_
 refine rg mixed y2 zz2 ?_
 refine .mb rfl e0 ?_
 refine .mb rfl e1 ?_
 refine .i (sp_nilP (hlc rfl)) ?_
 refine .i (fo 6 (hlc rfl) Try.underlying56 rfl sz28 rfl) ?_
 refine .dn fun a3 g W3 y3 zz3 hk hg hV hR hP => ?_
 obtain ⟨e12, -, e10, -, -⟩ := hV
 replace D_cn := D_cn.ext hk
 replace D_ci := D_ci.ext hk
 replace e10 := e10.q
 have e12 : sl a3 12 = (.pointer (some ⟨bx, 6, none⟩)) := e12
 replace own_bx := own_bx.ext hk
 replace kw := kw.x hk
 clear hR hk hg hP
 refine tail_store e12 e10 sz28 rfl own_bx (lbr rfl) (all_cons rfl all_nil) (fun W4 hs own_bx => ?_)
 have own_bx : Own W4 bx [(.int .u8 (x.k)), (.int .i64 (x.n)), (.string (x.t)), (.slice cna (x.ns.length) cnc), (.slice cia (x.xs.length) cic), (.slice none 0 0), (.int .i64 (f))] 56 := own_bx
 replace D_cn := sa_store D_cn hs (by simp)
 replace D_ci := sa_store D_ci hs (by simp)
 replace kw := keeps_storeN kw hs (by simp)
 clear hs
 refine tail_nil ?_
 refine ret0 rfl zz3 ⟨_, rfl, kw, ?_⟩
 exact rfl
set_option maxRecDepth 100000 in
theorem rHas_ok (m : ByteArray) (x : V) (hxt : x.t.size ≤ maxLen) (w : World) (S : BSet) (cn ci : Value) (bx : Nat) (hv : Rd w S (strsD x.ns) cn) (hu : Rd w S (valsD x.xs) ci) (own_bx : Own w bx [.int .u8 x.k, .int .i64 x.n, .string x.t, cn, ci, .slice none 0 0, .int .i64 0] 56) : Calls Try.prog 82 #[.pointer (some ⟨bx, 0, none⟩), .string m] w (Ret w fun u _ => u = .bool (grB x m)) := by
 obtain ⟨cna, cnc, ev, D_cn⟩ := rdS_out (rd_arg hv)
 subst ev
 obtain ⟨cia, cic, ev, D_ci⟩ := rdVs_out (rd_arg hu)
 subst ev
 refine enter Try.func82 rfl Try.ntmps82 (lbr rfl) fun a0 y0 zz0 harg => ?_
 have e0 : sl a0 0 = (.pointer (some ⟨bx, 0, none⟩)) := harg 0 (lbr rfl)
 have e1 : sl a0 1 = (.string (m)) := harg 1 (lbr rfl)
 have kw := Keeps.refl All w
 clear harg
 refine zq fun K1 hK1 => ?_
 refine rg mixed y0 zz0 ?_
 refine .ac ?_
 refine .dn fun a2 g W2 y2 zz2 hk hg hV hR hP => ?_
 obtain ⟨-, -⟩ := hV
 replace e0 := ft hR e0
 replace e1 := ft hR e1
 replace D_cn := D_cn.ext hk
 replace D_ci := D_ci.ext hk
 replace own_bx := own_bx.ext hk
 replace kw := kw.x hk
 clear hR hk hg hP
 refine zn (hK1 _ _ ?_)
 refine zq fun K3 hK3 => ?_
 refine zq fun K4 hK4 => ?_
 refine rg mixed y2 zz2 ?_
 refine .mb rfl e0 ?_
 refine .i (sp_nilP (hlc rfl)) ?_
 refine .i (fo 6 (hlc rfl) Try.underlying56 rfl sz28 rfl) ?_
 refine .i (lo1 (hlc rfl) own_bx trivial agg28 sz28 rfl) ?_
 refine .i (sp_neq (hlc rfl) Has.cst) ?_
 refine .dn fun a5 g W5 y5 zz5 hk hg hV hR hP => ?_
 obtain ⟨e11, -, -, -, -, -⟩ := hV
 replace e0 := ft hR e0
 replace e1 := ft hR e1
 replace D_cn := D_cn.ext hk
 replace D_ci := D_ci.ext hk
 replace e11 := e11.q
 replace own_bx := own_bx.ext hk
 replace kw := kw.x hk
 clear hR hk hg hP
 refine zn (hK4 _ _ ?_)
 refine wp_cond_false (e11.trans (congrArg Value.bool (by decide))) ?_
 refine wp_skip (hK3 _ _ ?_)
 refine zq fun K6 hK6 => ?_
 refine rg mixed y5 zz5 ?_
 refine .mb rfl e0 ?_
 refine .i (sp_nilP (hlc rfl)) ?_
 refine .i (fo 0 (hlc rfl) Try.underlying56 rfl sz33 rfl) ?_
 refine .i (v := (.agg #[(.int .u8 (x.k)), (.int .i64 (x.n)), (.string (x.t)), (.slice cna (x.ns.length) cnc), (.slice cia (x.xs.length) cic)])) (loA (hlc rfl) own_bx trivial agg33 sz33 rfl rfl) ?_
 refine .mb rfl e1 ?_
 refine .op (φ := IsT (IsD (SA w S []) (V.d (grV x m))) (Is (.bool (grB x m)))) (st_t (st_d sub_all) (st_is _)) (sp_call2 (φ1 := IsD (SA w S []) (V.d (x))) (φ2 := Is (.string (m))) ent140 ((hlc rfl).dat (rdV_in (x := x) hxt D_cn D_ci : Rd W5 (SA w S []) (V.d (x)) _) sub_all) (hlc rfl) (fun g u1 u2 W hk hgk h1 h2 => by have h2 : u2 = _ := h2; subst u2; exact (GetR_ok (x) (m) W _ _ h1).mono (fun _ _ ⟨v, h1, h2, r1, h3, h4⟩ => ⟨v, h1, h2, r1, _, h3, rd_ar_sa kw in_nil hk hgk h4, rfl⟩))) ?_
 refine .op (φ := IsT (IsD (SA w S []) (V.d (grV x m))) (Is (.bool (grB x m)))) (st_t (st_d sub_all) (st_is _)) (sp_move (hlc rfl)) ?_
 refine .da (X := SA w S []) (e := V.d (grV x m)) (sp_ext2 (hlc rfl) rfl) ?_
 refine .i (v := (.bool (grB x m))) (sp_ext2' (hlc rfl) rfl) ?_
 refine .alloc z33 ?_
 refine .dn fun a7 g W7 y7 zz7 hk hg hV hR hP => ?_
 obtain ⟨⟨b5_7, e5, hb5, own_b5_7⟩, e20, e19, -, -, -, -, -, -, -, -⟩ := hV
 have lo_b5_7 : w.heap.size ≤ b5_7 := Nat.le_trans kw.size (hg.lo _ _ hb5)
 have ne_bx_b5_7 : bx ≠ b5_7 := Nat.ne_of_lt (Nat.lt_of_lt_of_le own_bx.lt (hg.lo _ _ hb5))
 have own_b5_7 : Own W7 b5_7 [(.int .u8 (0)), (.int .i64 (0)), (.string (⟨#[]⟩)), (.slice none 0 0), (.slice none 0 0)] 33 := own_b5_7
 replace D_cn := sa_more D_cn hk [b5_7] (in_cons (hg.lo _ _ hb5) in_nil)
 replace D_ci := sa_more D_ci hk [b5_7] (in_cons (hg.lo _ _ hb5) in_nil)
 obtain ⟨v19_7, ev⟩ : ∃ v, sl a7 19 = v := ⟨_, rfl⟩
 rw [ev] at e19
 have D_v19_7 : Rd W7 (SA w S [b5_7]) (V.d (grV x m)) v19_7 := sa_end e19 hk [b5_7] (in_cons ⟨_, hb5⟩ in_nil)
 replace e19 := ev; clear ev
 obtain ⟨cn19_7a, cn19_7c, ci19_7a, ci19_7c, ev, ht_v19_7, D_cn19_7, D_ci19_7⟩ := rdV_out D_v19_7
 subst ev; clear D_v19_7
 replace e20 := e20.q
 replace own_bx := own_bx.ext hk
 replace kw := kw.x hk
 clear hR hk hg hP hb5
 refine tail_store e5 e19 sz33 rfl own_b5_7 (lbr rfl) (all_cons rfl (all_cons rfl (all_cons rfl (all_cons rfl (all_cons rfl all_nil))))) (fun W8 hs own_b5_7 => ?_)
 have own_b5_7 : Own W8 b5_7 [(.int .u8 ((grV x m).k)), (.int .i64 ((grV x m).n)), (.string ((grV x m).t)), (.slice cn19_7a (((grV x m).ns).length) cn19_7c), (.slice ci19_7a (((grV x m).xs).length) ci19_7c)] 33 := own_b5_7
 replace own_bx := own_store own_bx hs ne_bx_b5_7
 replace D_cn := sa_store D_cn hs (by simp)
 replace D_ci := sa_store D_ci hs (by simp)
 replace D_cn19_7 := sa_store D_cn19_7 hs (by simp)
 replace D_ci19_7 := sa_store D_ci19_7 hs (by simp)
 replace kw := keeps_store kw hs lo_b5_7
 clear hs
 refine tail_assign (v := (.bool (grB x m))) e20 (by rw [y7]; exact Nat.le_of_ble_eq_true rfl) (fun a9 y9 zz9 e6 hr => ?_)
 replace y9 := y9.trans y7; replace zz9 := zz9.trans zz7
 replace e5 := (hr 5 (by decide)).trans e5
 replace e19 := (hr 19 (by decide)).trans e19
 replace e20 := (hr 20 (by decide)).trans e20
 clear hr
 refine zn (hK6 _ _ ?_)
 refine zq fun K10 hK10 => ?_
 refine rg mixed y9 zz9 ?_
 refine .mb rfl e6 ?_
 refine .al rfl ?_
 refine .dn fun a11 g W11 y11 zz11 hk hg hV hR hP => ?_
 obtain ⟨e4, -, -⟩ := hV
 replace D_cn := D_cn.ext hk
 replace D_ci := D_ci.ext hk
 replace e4 := e4.q
 replace own_bx := own_bx.ext hk
 replace own_b5_7 := own_b5_7.ext hk
 replace kw := kw.x hk
 clear hR hk hg hP
 refine zn (hK10 _ _ ?_)
 refine wp_ret ?_
 refine ret1 rfl zz11 e4 ⟨_, rfl, kw, ?_⟩
 exact rfl
set_option maxRecDepth 100000 in
theorem SameAll_ok (p q : List V) (hp : (V.mk 0 0 ⟨#[]⟩ [] p).cnt ≤ 1073741824) (w : World) (S : BSet) (v u : Value) (hv : Rd w S (valsD p) v) (hu : Rd w S (valsD q) u) : Calls Try.prog 86 #[v, u] w (Ret w fun r _ => r = .bool (V.beq (V.mk 0 0 ⟨#[]⟩ [] p) (V.mk 0 0 ⟨#[]⟩ [] q))) := by
 obtain ⟨va, vc, ev, D_v⟩ := rdVs_out (rd_arg hv)
 subst ev
 obtain ⟨ua, uc, ev, D_u⟩ := rdVs_out (rd_arg hu)
 subst ev
 refine enter Try.func86 rfl Try.ntmps86 (lbr rfl) fun a0 y0 zz0 harg => ?_
 have e0 : sl a0 0 = (.slice va (p.length) vc) := harg 0 (lbr rfl)
 have e1 : sl a0 1 = (.slice ua (q.length) uc) := harg 1 (lbr rfl)
 have kw := Keeps.refl All w
 clear harg
 refine zq fun K1 hK1 => ?_
 refine rg mixed y0 zz0 ?_
 refine .ac ?_
 refine .dn fun a2 g W2 y2 zz2 hk hg hV hR hP => ?_
 obtain ⟨-, -⟩ := hV
 replace e0 := ft hR e0
 replace e1 := ft hR e1
 replace D_v := D_v.ext hk
 replace D_u := D_u.ext hk
 replace kw := kw.x hk
 clear hR hk hg hP
 refine zn (hK1 _ _ ?_)
 refine zq fun K3 hK3 => ?_
 refine rg mixed y2 zz2 ?_
 refine .mb rfl e0 ?_
 refine .i (v := (.agg #[(.int .u8 (0)), (.int .i64 (0)), (.string (⟨#[]⟩)), (.slice none 0 0), (.slice va (p.length) vc)])) (sp_build (vs := [(4, (.slice va (p.length) vc))]) Try.underlying33 z33 (pl33 Try.underlying33) ⟨rfl, (hlc rfl), trivial⟩ rfl) ?_
 refine .mb rfl e1 ?_
 refine .i (v := (.agg #[(.int .u8 (0)), (.int .i64 (0)), (.string (⟨#[]⟩)), (.slice none 0 0), (.slice ua (q.length) uc)])) (sp_build (vs := [(4, (.slice ua (q.length) uc))]) Try.underlying33 z33 (pl33 Try.underlying33) ⟨rfl, (hlc rfl), trivial⟩ rfl) ?_
 refine .i (v := (.bool (V.beq (V.mk (0) (0) (⟨#[]⟩) ([]) (p)) (V.mk (0) (0) (⟨#[]⟩) ([]) (q))))) (sp_call2 (φ1 := IsD (SA w S []) (V.d (V.mk (0) (0) (⟨#[]⟩) ([]) (p)))) (φ2 := IsD (SA w S []) (V.d (V.mk (0) (0) (⟨#[]⟩) ([]) (q)))) ent34 ((hlc rfl).dat (rdV_mk (lbr rfl) (rd_nil _) D_v : Rd W2 (SA w S []) (V.d (V.mk (0) (0) (⟨#[]⟩) ([]) (p))) _) sub_all) ((hlc rfl).dat (rdV_mk (lbr rfl) (rd_nil _) D_u : Rd W2 (SA w S []) (V.d (V.mk (0) (0) (⟨#[]⟩) ([]) (q))) _) sub_all) (fun g u1 u2 W hk hgk h1 h2 => refSame_all _ (V.mk (0) (0) (⟨#[]⟩) ([]) (p)) (V.mk (0) (0) (⟨#[]⟩) ([]) (q)) (Nat.le_refl _) (by first | omega | exact Nat.le_of_ble_eq_true (by kernel_rfl)) W _ _ _ h1 h2)) ?_
 refine .al rfl ?_
 refine .dn fun a4 g W4 y4 zz4 hk hg hV hR hP => ?_
 obtain ⟨e4, -, -, -, -, -, -⟩ := hV
 replace D_v := D_v.ext hk
 replace D_u := D_u.ext hk
 replace e4 := e4.q
 replace kw := kw.x hk
 clear hR hk hg hP
 refine zn (hK3 _ _ ?_)
 refine wp_ret ?_
 refine ret1 rfl zz4 e4 ⟨_, rfl, kw, ?_⟩
 exact rfl
set_option maxRecDepth 100000 in
theorem texts11_ok (p q : List ByteArray) (w : World) (S : BSet) (v u : Value) (hv : Rd w S (strsD p) v) (hu : Rd w S (strsD q) u) : Calls Try.prog 89 #[v, u] w (Ret w fun r _ => r = .bool (decide (p = q))) := by
 have hln : p.length ≤ maxLen := rd_lenS hv
 simp only [maxLen] at hln
 obtain ⟨va, vc, ev, D_v⟩ := rdS_out (rd_arg hv)
 subst ev
 obtain ⟨ua, uc, ev, D_u⟩ := rdS_out (rd_arg hu)
 subst ev
 refine enter Try.func89 rfl Try.ntmps89 (lbr rfl) fun a0 y0 zz0 harg => ?_
 have e0 : sl a0 0 = (.slice va (p.length) vc) := harg 0 (lbr rfl)
 have e1 : sl a0 1 = (.slice ua (q.length) uc) := harg 1 (lbr rfl)
 have kw := Keeps.refl All w
 clear harg
 refine zq fun K1 hK1 => ?_
 refine rg mixed y0 zz0 ?_
 refine .ac ?_
 refine .dn fun a2 g W2 y2 zz2 hk hg hV hR hP => ?_
 obtain ⟨-, -⟩ := hV
 replace e0 := ft hR e0
 replace e1 := ft hR e1
 replace D_v := D_v.ext hk
 replace D_u := D_u.ext hk
 replace kw := kw.x hk
 clear hR hk hg hP
 refine zn (hK1 _ _ ?_)
 refine zq fun K3 hK3 => ?_
 refine zq fun K4 hK4 => ?_
 refine rg mixed y2 zz2 ?_
 refine .mb rfl e0 ?_
 refine .i (sp_lenSs Try.underlying23 ((hlc rfl).dat D_v sub_all)) ?_
 refine .mb rfl e1 ?_
 refine .i (sp_lenSs Try.underlying23 ((hlc rfl).dat D_u sub_all)) ?_
 refine .i (sp_neq (hlc rfl) (hlc rfl)) ?_
 refine .dn fun a5 g W5 y5 zz5 hk hg hV hR hP => ?_
 obtain ⟨e10, -, -, -, -, -⟩ := hV
 replace e0 := ft hR e0
 replace e1 := ft hR e1
 replace D_v := D_v.ext hk
 replace D_u := D_u.ext hk
 replace e10 := e10.q
 replace kw := kw.x hk
 clear hR hk hg hP
 refine zn (hK4 _ _ ?_)
 refine zc e10 (fun hc => ?_) (fun hc => ?_)
 ·
  have hfin : decide (p = q) = false := decide_eq_false fun h => by rw [h] at hc; simp at hc
  refine zq fun K6 hK6 => ?_
  refine rg mixed y5 zz5 ?_
  refine .ac ?_
  refine .dn fun a7 g W7 y7 zz7 hk hg hV hR hP => ?_
  obtain ⟨e4, -⟩ := hV
  replace D_v := D_v.ext hk
  replace D_u := D_u.ext hk
  replace e4 := e4.q
  replace kw := kw.x hk
  clear hR hk hg hP
  refine zn (hK6 _ _ ?_)
  refine wp_ret ?_
  refine ret1 rfl zz7 e4 ⟨_, rfl, kw, ?_⟩
  rw [hfin]
 have hlen : p.length = q.length := by simp at hc; omega
 refine wp_skip (hK3 _ _ ?_)
 refine zq fun K8 hK8 => ?_
 refine zq fun K9 hK9 => ?_
 refine rg mixed y5 zz5 ?_
 refine .ac ?_
 refine .dn fun a10 g W10 y10 zz10 hk hg hV hR hP => ?_
 obtain ⟨e5, -⟩ := hV
 replace e0 := ft hR e0
 replace e1 := ft hR e1
 replace D_v := D_v.ext hk
 replace D_u := D_u.ext hk
 replace e5 := e5.q
 replace kw := kw.x hk
 clear hR hk hg hP
 refine zn (hK9 _ _ ?_)
 refine wp_block ?_
 refine wp_for (p.length) (fun k a W => a.tmps.size = 26 ∧ a.defers = [] ∧ Keeps All w W ∧ sl a 0 = (.slice va (p.length) vc) ∧ sl a 1 = (.slice ua (q.length) uc) ∧ sl a 5 = (.int .i64 ((k : Nat))) ∧ Rd W (SA w S []) (strsD (p)) (.slice va (p.length) vc) ∧ Rd W (SA w S []) (strsD (q)) (.slice ua (q.length) uc) ∧ (∀ i (h1 : i < p.length) (h2 : i < q.length), i < k → p[i] = q[i])) ⟨y10, zz10, kw, e0, e1, (e5.trans (congrArg (Value.int .i64) (rfl))), D_v, D_u, fun i h1 h2 hi => absurd hi (by omega)⟩ ?_
 clear kw e0 e1 e5 D_v D_u
 rintro k a11 W11 hkk ⟨y11, zz11, kw, e0, e1, e5, D_v, D_u, hinv⟩
 refine zq fun K12 hK12 => ?_
 refine zq fun K13 hK13 => ?_
 refine rg mixed y11 zz11 ?_
 refine .mb rfl e5 ?_
 refine .mb rfl e0 ?_
 refine .i (sp_lenSs Try.underlying23 ((hlc rfl).dat D_v sub_all)) ?_
 refine .i (sp_lss (hlc rfl) (hlc rfl)) ?_
 refine .dn fun a14 g W14 y14 zz14 hk hg hV hR hP => ?_
 obtain ⟨e14, -, -, -, -⟩ := hV
 replace e0 := ft hR e0
 replace e1 := ft hR e1
 replace e5 := ft hR e5
 replace D_v := D_v.ext hk
 replace D_u := D_u.ext hk
 replace e14 := e14.q
 replace kw := kw.x hk
 clear hR hk hg hP
 refine zn (hK13 _ _ ?_)
 refine zc e14 (fun hc => ?_) (fun hc => ?_)
 ·
  have hlt : k < p.length := by simpa using hc
  have hlq : k < q.length := by omega
  refine wp_skip (hK12 _ _ ?_)
  refine zq fun K15 hK15 => ?_
  refine wp_block ?_
  refine zq fun K16 hK16 => ?_
  refine rg mixed y14 zz14 ?_
  refine .mb rfl e0 ?_
  refine .mb rfl e5 ?_
  refine .rf (sp_indexS (i := k) ((hlc rfl).dat D_v sub_all) (hlc rfl) Try.underlying23 sz9 rfl hlt) ?_
  refine .i (sp_loadStr (hlc rfl) agg9 sz9) ?_
  refine .mb rfl e1 ?_
  refine .mb rfl e5 ?_
  refine .rf (sp_indexS (i := k) ((hlc rfl).dat D_u sub_all) (hlc rfl) Try.underlying23 sz9 rfl hlq) ?_
  refine .i (sp_loadStr (hlc rfl) agg9 sz9) ?_
  refine .i (sp_sNeq (hlc rfl) (hlc rfl)) ?_
  refine .dn fun a17 g W17 y17 zz17 hk hg hV hR hP => ?_
  obtain ⟨e25, -, -, -, -, -, -, -, -, -⟩ := hV
  replace e0 := ft hR e0
  replace e1 := ft hR e1
  replace e5 := ft hR e5
  replace D_v := D_v.ext hk
  replace D_u := D_u.ext hk
  replace e25 := e25.q
  replace kw := kw.x hk
  clear hR hk hg hP
  refine zn (hK16 _ _ ?_)
  refine zc e25 (fun hc => ?_) (fun hc => ?_)
  ·
   have hfin : decide (p = q) = false := decide_eq_false fun h => by subst h; simp at hc
   refine zq fun K18 hK18 => ?_
   refine rg mixed y17 zz17 ?_
   refine .ac ?_
   refine .dn fun a19 g W19 y19 zz19 hk hg hV hR hP => ?_
   obtain ⟨e4, -⟩ := hV
   replace D_v := D_v.ext hk
   replace D_u := D_u.ext hk
   replace e4 := e4.q
   replace kw := kw.x hk
   clear hR hk hg hP
   refine zn (hK18 _ _ ?_)
   refine wp_ret ?_
   refine ret1 rfl zz19 e4 ⟨_, rfl, kw, ?_⟩
   rw [hfin]
  have hk1 : p[k]'hlt = q[k]'hlq := by simpa using hc
  refine wp_skip (hK15 _ _ ?_)
  refine rg mixed y17 zz17 ?_
  refine .mb rfl e5 ?_
  refine .i (sp_add (hlc rfl) Has.cst (i64_in (by omega))) ?_
  refine .al rfl ?_
  refine .dn fun a20 g W20 y20 zz20 hk hg hV hR hP => ?_
  obtain ⟨e5, -, -, -⟩ := hV
  replace e0 := ft hR e0
  replace e1 := ft hR e1
  replace D_v := D_v.ext hk
  replace D_u := D_u.ext hk
  replace e5 := e5.q
  replace kw := kw.x hk
  clear hR hk hg hP
  exact tail_nil ⟨hlt, y20, zz20, kw, e0, e1, (e5.trans (congrArg (Value.int .i64) (by simp))), D_v, D_u, fun i h1 h2 hi => by rcases Nat.lt_succ_iff_lt_or_eq.1 hi with h3 | h3; exact hinv i h1 h2 h3; subst h3; exact hk1⟩
 have hge0 : ¬ k < p.length := by simpa using hc
 have hge : k = p.length := by omega
 have hfin : decide (p = q) = true := decide_eq_true (List.ext_getElem hlen fun i h1 h2 => hinv i h1 h2 (by omega))
 refine wp_exit (hK8 _ _ ?_)
 refine zq fun K21 hK21 => ?_
 refine rg mixed y14 zz14 ?_
 refine .ac ?_
 refine .dn fun a22 g W22 y22 zz22 hk hg hV hR hP => ?_
 obtain ⟨e4, -⟩ := hV
 replace D_v := D_v.ext hk
 replace D_u := D_u.ext hk
 replace e4 := e4.q
 replace kw := kw.x hk
 clear hR hk hg hP
 refine zn (hK21 _ _ ?_)
 refine wp_ret ?_
 refine ret1 rfl zz22 e4 ⟨_, rfl, kw, ?_⟩
 rw [hfin]
set_option maxRecDepth 100000 in
theorem spoil0_ok (v : Value) (hv : NilS v) (w : World) : Calls Try.prog 88 #[v] w (Ret w fun _ _ => True) := by
 obtain ⟨va, vc, rfl⟩ := hv
 refine enter Try.func88 rfl Try.ntmps88 (lbr rfl) fun a0 y0 zz0 harg => ?_
 have e0 : sl a0 0 = (.slice va 0 vc) := harg 0 (lbr rfl)
 have kw := Keeps.refl All w
 clear harg
 refine zq fun K1 hK1 => ?_
 refine rg mixed y0 zz0 ?_
 refine .ac ?_
 refine .dn fun a2 g W2 y2 zz2 hk hg hV hR hP => ?_
 obtain ⟨e2, -⟩ := hV
 replace e0 := ft hR e0
 replace e2 := e2.q
 replace kw := kw.x hk
 clear hR hk hg hP
 refine zn (hK1 _ _ ?_)
 refine wp_block ?_
 refine wp_loopAt (loopAt ?_)
 refine zq fun K3 hK3 => ?_
 refine zq fun K4 hK4 => ?_
 refine rg mixed y2 zz2 ?_
 refine .mb rfl e2 ?_
 refine .mb rfl e0 ?_
 refine .i (sp_lenV Try.underlying31 (hlc rfl)) ?_
 refine .i (sp_lss (hlc rfl) (hlc rfl)) ?_
 refine .dn fun a5 g W5 y5 zz5 hk hg hV hR hP => ?_
 obtain ⟨e7, -, -, -, -⟩ := hV
 replace e0 := ft hR e0
 replace e2 := ft hR e2
 replace e7 := e7.q
 replace kw := kw.x hk
 clear hR hk hg hP
 refine zn (hK4 _ _ ?_)
 refine wp_cond_false (e7.trans (congrArg Value.bool (by decide))) ?_
 refine wp_exit ?_
 refine ret0 rfl zz5 ⟨_, rfl, kw, ?_⟩
 trivial
set_option maxRecDepth 100000 in
theorem spoil11_ok (n m : Nat) (hm : m ≤ maxLen) (va : Option Addr) (vc : Nat) (w : World) (A_v : LRow w n m (.slice va m vc)) : Calls Try.prog 88 #[.slice va m vc] w (RetN w n fun _ _ => True) := by
 simp only [maxLen] at hm
 refine enter Try.func88 rfl Try.ntmps88 (lbr rfl) fun a0 y0 zz0 harg => ?_
 have e0 : sl a0 0 = (.slice va m vc) := harg 0 (lbr rfl)
 have kw := Keeps.refl (fun k => k < n) w
 clear harg
 refine zq fun K1 hK1 => ?_
 refine rg mixed y0 zz0 ?_
 refine .ac ?_
 refine .dn fun a2 g W2 y2 zz2 hk hg hV hR hP => ?_
 obtain ⟨e2, -⟩ := hV
 replace e0 := ft hR e0
 replace e2 := e2.q
 replace A_v := A_v.ext hk
 replace kw := kw.x hk
 clear hR hk hg hP
 refine zn (hK1 _ _ ?_)
 refine wp_block ?_
 refine wp_for (m) (fun k a W => a.tmps.size = 37 ∧ a.defers = [] ∧ Keeps (fun k => k < n) w W ∧ sl a 0 = (.slice va m vc) ∧ sl a 2 = (.int .i64 ((k : Nat))) ∧ (LRow W n m (.slice va m vc))) ⟨y2, zz2, kw, e0, (e2.trans (congrArg (Value.int .i64) (rfl))), A_v⟩ ?_
 clear kw e0 e2 A_v
 rintro k a3 W3 hkk ⟨y3, zz3, kw, e0, e2, A_v⟩
 refine zq fun K4 hK4 => ?_
 refine zq fun K5 hK5 => ?_
 refine rg mixed y3 zz3 ?_
 refine .mb rfl e2 ?_
 refine .mb rfl e0 ?_
 refine .i (sp_lenV Try.underlying31 (hlc rfl)) ?_
 refine .i (sp_lss (hlc rfl) (hlc rfl)) ?_
 refine .dn fun a6 g W6 y6 zz6 hk hg hV hR hP => ?_
 obtain ⟨e7, -, -, -, -⟩ := hV
 replace e0 := ft hR e0
 replace e2 := ft hR e2
 replace e7 := e7.q
 replace A_v := A_v.ext hk
 replace kw := kw.x hk
 clear hR hk hg hP
 refine zn (hK5 _ _ ?_)
 refine zc e7 (fun hc => ?_) (fun hc => ?_)
 ·
  have hlt : k < m := by simpa using hc
  obtain ⟨g0, o0, hva⟩ := lrow_some A_v hlt
  refine wp_skip (hK4 _ _ ?_)
  refine zq fun K7 hK7 => ?_
  refine wp_block ?_
  refine zq fun K8 hK8 => ?_
  refine rg mixed y6 zz6 ?_
  refine .mb rfl e0 ?_
  refine .mb rfl e2 ?_
  refine .i (v := (.pointer (some ⟨g0, o0 + k * 5, none⟩))) (sp_indexRowO (i := k) (hlc rfl) (hlc rfl) Try.underlying31 sz33 hva rfl hlt) ?_
  refine .i (fo (o0 + k * 5 + 4) (hlc rfl) Try.underlying33 rfl sz31 rfl) ?_
  refine .op (φ := IsP (fun u => NilS u)) st_p (sp_loadLeafN (hlc rfl) (by decide) agg31 sz31 A_v hva hlt) ?_
  refine .op (φ := Any) st_any (sp_call1 (φ1 := IsP (fun u => NilS u)) ent88 (hlc rfl) (fun g u1 W hk hgk h1 => (spoil0_ok _ h1 W).mono (fun _ _ ⟨v, h1, h2, h3⟩ => ⟨v, h1, h2, trivial⟩))) ?_
  refine .dn fun a9 g W9 y9 zz9 hk hg hV hR hP => ?_
  obtain ⟨-, -, -, -, -, -, -⟩ := hV
  replace e0 := ft hR e0
  replace e2 := ft hR e2
  replace A_v := A_v.ext hk
  replace kw := kw.x hk
  clear hR hk hg hP
  refine zn (hK8 _ _ ?_)
  refine zq fun K10 hK10 => ?_
  refine zq fun K11 hK11 => ?_
  refine rg mixed y9 zz9 ?_
  refine .ac ?_
  refine .dn fun a12 g W12 y12 zz12 hk hg hV hR hP => ?_
  obtain ⟨e3, -⟩ := hV
  replace e0 := ft hR e0
  replace e2 := ft hR e2
  replace e3 := e3.q
  replace A_v := A_v.ext hk
  replace kw := kw.x hk
  clear hR hk hg hP
  refine zn (hK11 _ _ ?_)
  refine wp_block ?_
  refine wp_loopAt (loopAt ?_)
  refine zq fun K13 hK13 => ?_
  refine zq fun K14 hK14 => ?_
  refine rg mixed y12 zz12 ?_
  refine .mb rfl e3 ?_
  refine .mb rfl e0 ?_
  refine .mb rfl e2 ?_
  refine .i (v := (.pointer (some ⟨g0, o0 + k * 5, none⟩))) (sp_indexRowO (i := k) (hlc rfl) (hlc rfl) Try.underlying31 sz33 hva rfl hlt) ?_
  refine .i (fo (o0 + k * 5 + 3) (hlc rfl) Try.underlying33 rfl sz23 rfl) ?_
  refine .op (φ := IsP (fun u => NilS u)) st_p (sp_loadLeafN (hlc rfl) (by decide) agg23 sz23 A_v hva hlt) ?_
  refine .i (v := (.int .i64 (0))) (sp_lenNil Try.underlying23 (hlc rfl)) ?_
  refine .i (sp_lss (hlc rfl) (hlc rfl)) ?_
  refine .dn fun a15 g W15 y15 zz15 hk hg hV hR hP => ?_
  obtain ⟨e23, -, -, -, -, -, -, -, -⟩ := hV
  replace e0 := ft hR e0
  replace e2 := ft hR e2
  replace e3 := ft hR e3
  replace e23 := e23.q
  replace A_v := A_v.ext hk
  replace kw := kw.x hk
  clear hR hk hg hP
  refine zn (hK14 _ _ ?_)
  refine wp_cond_false (e23.trans (congrArg Value.bool (by decide))) ?_
  refine wp_exit (hK10 _ _ ?_)
  refine rg mixed y15 zz15 ?_
  refine .mb rfl e0 ?_
  refine .mb rfl e2 ?_
  refine .i (v := (.agg #[(.int .u8 (99)), (.int .i64 (0)), (.string (⟨#[]⟩)), (.slice none 0 0), (.slice none 0 0)])) (sp_build (vs := [(0, (.int .u8 (99)))]) Try.underlying33 z33 (pl33 Try.underlying33) ⟨rfl, Has.cst, trivial⟩ rfl) ?_
  refine .i (v := (.pointer (some ⟨g0, o0 + k * 5, none⟩))) (sp_indexRowO (i := k) (hlc rfl) (hlc rfl) Try.underlying31 sz33 hva rfl hlt) ?_
  refine .dn fun a16 g W16 y16 zz16 hk hg hV hR hP => ?_
  obtain ⟨e36, e35, -, -, -⟩ := hV
  replace e0 := ft hR e0
  replace e2 := ft hR e2
  replace e35 := e35.q
  have e36 : sl a16 36 = (.pointer (some ⟨g0, o0 + k * 5, none⟩)) := e36
  replace A_v := A_v.ext hk
  replace kw := kw.x hk
  clear hR hk hg hP
  refine tail_storeL (i := k) e36 e35 sz33 ⟨_, _, _, _, _, _, _, rfl⟩ A_v hva hlt (fun W17 hs hng A_new => ?_)
  replace A_v := A_new; clear A_new
  replace kw := keeps_storeN kw hs (Nat.not_lt.2 hng)
  clear hs hng
  refine zn (hK7 _ _ ?_)
  refine rg mixed y16 zz16 ?_
  refine .mb rfl e2 ?_
  refine .i (sp_add (hlc rfl) Has.cst (i64_in (by omega))) ?_
  refine .al rfl ?_
  refine .dn fun a18 g W18 y18 zz18 hk hg hV hR hP => ?_
  obtain ⟨e2, -, -, -⟩ := hV
  replace e0 := ft hR e0
  replace e2 := e2.q
  replace A_v := A_v.ext hk
  replace kw := kw.x hk
  clear hR hk hg hP
  exact tail_nil ⟨hlt, y18, zz18, kw, e0, (e2.trans (congrArg (Value.int .i64) (by simp))), A_v⟩
 have hge0 : ¬ k < m := by simpa using hc
 have hge : k = m := by omega
 refine wp_exit ?_
 refine ret0 rfl zz6 ⟨_, rfl, kw, ?_⟩
 trivial
end Go.Proofs.Ytnobijngkpflcaa
namespace Go.Proofs.Ytnobijngkpflcaa
open Go.Eng
set_option maxRecDepth 100000 in
set_option maxHeartbeats 4000000 in
theorem asks_ok (x : V) (A : As) (e : Int) (hA : AB 1000000 A) (hx : x.wt ≤ 1073741824) (hxt : x.t.size ≤ maxLen) (c : Cl) (hlf : leafA x e c = true) (hnm : c.nm.size ≤ maxLen) (w : World) (S : BSet) (cn ci : Value) (bo bm bx : Nat) (hS : ∀ b o, S b o → Cln o) (hM : ∀ b ∈ [bo, bm, bx], ∀ o, ¬ S b o) (hne : bo ≠ bm) (hv : Rd w S (strsD x.ns) cn) (hu : Rd w S (valsD x.xs) ci) (own_bo : Own w bo [.int .u8 x.k, .int .i64 x.n, .string x.t, cn, ci, .map (some bm), .int .i64 (e)] 74) (own_bm : OwnM w bm A) (y : V) (hyt : y.t.size ≤ maxLen) (dn di : Value) (hv2 : Rd w S (strsD y.ns) dn) (hu2 : Rd w S (valsD y.xs) di) (own_bx : Own w bx [.int .u8 y.k, .int .i64 y.n, .string y.t, dn, di, .slice none 0 0, .int .i64 0] 56) (hn1 : bo ≠ bx) (hn2 : bm ≠ bx) (hrl : (rlL y c.nm c.mo).length ≤ 1073741824) (vc : Value) (hc : Rd w S c.d vc) : Calls Try.prog 31 #[.pointer (some ⟨bo, 0, none⟩), .pointer (some ⟨bx, 0, none⟩), vc] w (RetL w [bo, bm, bx] fun u W => u = .bool (aR x e y c) ∧ Own W bo [.int .u8 x.k, .int .i64 x.n, .string x.t, cn, ci, .map (some bm), .int .i64 (qE x e c)] 74 ∧ OwnM W bm (qA x A e c)) := by
 have hwg := Nat.le_trans (getV_wt x c.nm) hx
 have lt_bo := own_bo.lt
 have lt_bm := own_bm.lt
 have lt_bx := own_bx.lt
 obtain ⟨ev, hb_p2_1⟩ := rdCl_out (rd_argM (M := [bo, bm, bx]) hc hM)
 subst ev
 obtain ⟨cna, cnc, ev, D_cn⟩ := rdS_out (rd_argM (M := [bo, bm, bx]) hv hM)
 subst ev
 obtain ⟨cia, cic, ev, D_ci⟩ := rdVs_out (rd_argM (M := [bo, bm, bx]) hu hM)
 subst ev
 obtain ⟨dna, dnc, ev, D_dn⟩ := rdS_out (rd_argM (M := [bo, bm, bx]) hv2 hM)
 subst ev
 obtain ⟨dia, dic, ev, D_di⟩ := rdVs_out (rd_argM (M := [bo, bm, bx]) hu2 hM)
 subst ev
 refine enter Try.func31 rfl Try.ntmps31 (lbr rfl) fun a0 y0 zz0 harg => ?_
 have e0 : sl a0 0 = (.pointer (some ⟨bo, 0, none⟩)) := harg 0 (lbr rfl)
 have e1 : sl a0 1 = (.pointer (some ⟨bx, 0, none⟩)) := harg 1 (lbr rfl)
 have e2 : sl a0 2 = (.agg #[(.int .u8 (c.wh)), (.string (c.nm)), (.int .i64 (c.lo)), (.int .i64 (c.hi)), (.int .i64 (c.mo)), (.int .i64 (c.er))]) := harg 2 (lbr rfl)
 have kw := Keeps.refl (fun k => k ∉ [bo, bm, bx]) w
 clear harg
 refine zq fun K1 hK1 => ?_
 refine rg mixed y0 zz0 ?_
 refine .boxOp (v := (.agg #[(.int .u8 (c.wh)), (.string (c.nm)), (.int .i64 (c.lo)), (.int .i64 (c.hi)), (.int .i64 (c.mo)), (.int .i64 (c.er))])) (hbs rfl e2) ?_
 refine .ac ?_
 refine .dn fun a2 g W2 y2 zz2 hk hg hV hR hP => ?_
 obtain ⟨-, ⟨b5_2, e5, hb5, own_b5_2⟩, -⟩ := hV
 have lo_b5_2 : w.heap.size ≤ b5_2 := Nat.le_trans kw.size (hg.lo _ _ hb5)
 have ne_bo_b5_2 : bo ≠ b5_2 := Nat.ne_of_lt (Nat.lt_of_lt_of_le own_bo.lt (hg.lo _ _ hb5))
 have ne_bm_b5_2 : bm ≠ b5_2 := Nat.ne_of_lt (Nat.lt_of_lt_of_le own_bm.lt (hg.lo _ _ hb5))
 have ne_bx_b5_2 : bx ≠ b5_2 := Nat.ne_of_lt (Nat.lt_of_lt_of_le own_bx.lt (hg.lo _ _ hb5))
 have own_b5_2 : Own W2 b5_2 [(.int .u8 (c.wh)), (.string (c.nm)), (.int .i64 (c.lo)), (.int .i64 (c.hi)), (.int .i64 (c.mo)), (.int .i64 (c.er))] 54 := own_b5_2
 replace e0 := ft hR e0
 replace e1 := ft hR e1
 replace D_cn := sa_more D_cn hk [b5_2] (in_cons (hg.lo _ _ hb5) in_nil)
 replace D_ci := sa_more D_ci hk [b5_2] (in_cons (hg.lo _ _ hb5) in_nil)
 replace D_dn := sa_more D_dn hk [b5_2] (in_cons (hg.lo _ _ hb5) in_nil)
 replace D_di := sa_more D_di hk [b5_2] (in_cons (hg.lo _ _ hb5) in_nil)
 replace own_bo := own_bo.ext hk
 replace own_bm := own_bm.ext hk
 replace own_bx := own_bx.ext hk
 replace kw := kw.x hk
 clear hR hk hg hP hb5
 refine zn (hK1 _ _ ?_)
 refine zq fun K3 hK3 => ?_
 refine zq fun K4 hK4 => ?_
 refine rg mixed y2 zz2 ?_
 refine .i (fo 0 (hbs rfl e5) Try.underlying54 rfl sz5 rfl) ?_
 refine .i (lo1 (hlc rfl) own_b5_2 trivial agg5 sz5 rfl) ?_
 refine .dn fun a5 g W5 y5 zz5 hk hg hV hR hP => ?_
 obtain ⟨e17, -, -⟩ := hV
 replace e0 := ft hR e0
 replace e1 := ft hR e1
 replace e5 := ft hR e5
 replace D_cn := D_cn.ext hk
 replace D_ci := D_ci.ext hk
 replace D_dn := D_dn.ext hk
 replace D_di := D_di.ext hk
 replace e17 := e17.q
 replace own_bo := own_bo.ext hk
 replace own_bm := own_bm.ext hk
 replace own_bx := own_bx.ext hk
 replace own_b5_2 := own_b5_2.ext hk
 replace kw := kw.x hk
 clear hR hk hg hP
 refine zn (hK4 _ _ ?_)
 refine wp_block ?_
 refine zq fun K6 hK6 => ?_
 refine rg mixed y5 zz5 ?_
 refine .i (sp_eql (hbs rfl e17) Has.cst) ?_
 refine .al rfl ?_
 refine .dn fun a7 g W7 y7 zz7 hk hg hV hR hP => ?_
 obtain ⟨e18, -, -⟩ := hV
 replace e0 := ft hR e0
 replace e1 := ft hR e1
 replace e5 := ft hR e5
 replace e17 := ft hR e17
 replace D_cn := D_cn.ext hk
 replace D_ci := D_ci.ext hk
 replace D_dn := D_dn.ext hk
 replace D_di := D_di.ext hk
 replace e18 := e18.q
 replace own_bo := own_bo.ext hk
 replace own_bm := own_bm.ext hk
 replace own_bx := own_bx.ext hk
 replace own_b5_2 := own_b5_2.ext hk
 replace kw := kw.x hk
 clear hR hk hg hP
 refine zn (hK6 _ _ ?_)
 refine zc e18 (fun hc => ?_) (fun hc => ?_)
 ·
  have hw : c.wh = 0 := by have := eq_of_beq hc; omega
  have hR : aR x e y c = ((decide (errK x.k e = 0) && getB x c.nm) == grB y c.nm) := by rw [aR, if_pos hw]
  have hE1 : qE x e c = e := by rw [qE, if_pos hw]
  have hA1 : qA x A e c = A := by rw [qA, if_pos hw]
  refine zq fun K8 hK8 => ?_
  refine rg mixed y7 zz7 ?_
  refine .mb rfl e0 ?_
  refine .i (fo 1 (hbs rfl e5) Try.underlying54 rfl sz9 rfl) ?_
  refine .i (lo1 (hlc rfl) own_b5_2 trivial agg9 sz9 rfl) ?_
  refine .i (v := (.bool (decide (errK x.k e = 0) && getB x c.nm))) (sp_call2 (φ1 := Is (.pointer (some ⟨bo, 0, none⟩))) (φ2 := Is (.string (c.nm))) ent42 (hlc rfl) (hlc rfl) (fun g u1 u2 W hk hgk h1 h2 => by have h1 : u1 = _ := h1; subst u1; have h2 : u2 = _ := h2; subst u2; exact HasO_ok (x) (e) hx hxt (c.nm) W _ _ _ _ _ (sa_cln hS) (D_cn.ext hk) (D_ci.ext hk) (own_bo.ext hk))) ?_
  refine .mb rfl e1 ?_
  refine .i (fo 1 (hbs rfl e5) Try.underlying54 rfl sz9 rfl) ?_
  refine .i (lo1 (hlc rfl) own_b5_2 trivial agg9 sz9 rfl) ?_
  refine .i (v := (.bool (grB y c.nm))) (sp_call2 (φ1 := Is (.pointer (some ⟨bx, 0, none⟩))) (φ2 := Is (.string (c.nm))) ent82 (hlc rfl) (hlc rfl) (fun g u1 u2 W hk hgk h1 h2 => by have h1 : u1 = _ := h1; subst u1; have h2 : u2 = _ := h2; subst u2; exact rHas_ok (c.nm) (y) hyt W _ _ _ _ (rd_base D_dn hk hgk sub_all) (rd_base D_di hk hgk sub_all) (own_bx.ext hk))) ?_
  refine .i (sp_bEql Try.underlying4 (hlc rfl) (hlc rfl)) ?_
  refine .al rfl ?_
  refine .dn fun a9 g W9 y9 zz9 hk hg hV hR hP => ?_
  obtain ⟨e6, -, -, -, -, -, -, -, -, -, -⟩ := hV
  replace D_cn := D_cn.ext hk
  replace D_ci := D_ci.ext hk
  replace D_dn := D_dn.ext hk
  replace D_di := D_di.ext hk
  replace e6 := e6.q
  replace own_bo := own_bo.ext hk
  replace own_bm := own_bm.ext hk
  replace own_bx := own_bx.ext hk
  replace own_b5_2 := own_b5_2.ext hk
  replace kw := kw.x hk
  clear hR hk hg hP
  refine zn (hK8 _ _ ?_)
  refine wp_ret ?_
  refine ret1 rfl zz9 e6 ⟨_, rfl, kw, ?_⟩
  rw [hR, hE1, hA1]
  exact ⟨rfl, own_bo, own_bm⟩
 have n0 : ¬ c.wh = 0 := by have := ne_of_beq_false hc; omega
 refine zq fun K10 hK10 => ?_
 refine rg mixed y7 zz7 ?_
 refine .i (sp_eql (hbs rfl e17) Has.cst) ?_
 refine .al rfl ?_
 refine .dn fun a11 g W11 y11 zz11 hk hg hV hR hP => ?_
 obtain ⟨e29, -, -⟩ := hV
 replace e0 := ft hR e0
 replace e1 := ft hR e1
 replace e5 := ft hR e5
 replace e17 := ft hR e17
 replace D_cn := D_cn.ext hk
 replace D_ci := D_ci.ext hk
 replace D_dn := D_dn.ext hk
 replace D_di := D_di.ext hk
 replace e29 := e29.q
 replace own_bo := own_bo.ext hk
 replace own_bm := own_bm.ext hk
 replace own_bx := own_bx.ext hk
 replace own_b5_2 := own_b5_2.ext hk
 replace kw := kw.x hk
 clear hR hk hg hP
 refine zn (hK10 _ _ ?_)
 refine zc e29 (fun hc => ?_) (fun hc => ?_)
 ·
  have hw : c.wh = 1 := by have := eq_of_beq hc; omega
  have hR : aR x e y c = (decide ((if tkB x e c.nm textE then textV (getV x c.nm) else ⟨#[]⟩) = (rtV y c.nm 3).t)) := by rw [aR, if_neg n0, if_pos hw]
  have hE1 : qE x e c = tkE x e c.nm textE := by rw [qE, if_neg n0, if_pos hw]
  have hA1 : qA x A e c = tkA x A e c.nm textE := by rw [qA, if_neg n0, if_pos hw]
  refine zq fun K12 hK12 => ?_
  refine wp_reg (fun k => k ∉ [bo, bm, bx]) (Ψ := fun W => Own W bo [(.int .u8 (x.k)), (.int .i64 (x.n)), (.string (x.t)), (.slice cna (x.ns.length) cnc), (.slice cia (x.xs.length) cic), (.map (some bm)), (.int .i64 (e))] 74 ∧ OwnM W bm (A) ∧ Own W bx [(.int .u8 (y.k)), (.int .i64 (y.n)), (.string (y.t)), (.slice dna (y.ns.length) dnc), (.slice dia (y.xs.length) dic), (.slice none 0 0), (.int .i64 (0))] 56) mixed y11 zz11 (stE_and stE_own (stE_and stE_ownM stE_own)) ⟨own_bo, own_bm, own_bx⟩ ?_
  refine .mb rfl e0 ?_
  refine .i (fo 1 (hbs rfl e5) Try.underlying54 rfl sz9 rfl) ?_
  refine .i (lo1 (hlc rfl) own_b5_2 (by simp [ne_bo_b5_2.symm, ne_bm_b5_2.symm, ne_bx_b5_2.symm]) agg9 sz9 rfl) ?_
  refine .callL2 (φ1 := Is (.pointer (some ⟨bo, 0, none⟩))) (φ2 := Is (.string (c.nm))) (φ := Is (.string (if tkB x e c.nm textE then textV (getV x c.nm) else ⟨#[]⟩))) (Ψ' := fun W => Own W bo [(.int .u8 (x.k)), (.int .i64 (x.n)), (.string (x.t)), (.slice cna (x.ns.length) cnc), (.slice cia (x.xs.length) cic), (.map (some bm)), (.int .i64 (tkE x e c.nm textE))] 74 ∧ OwnM W bm (tkA x A e c.nm textE) ∧ Own W bx [(.int .u8 (y.k)), (.int .i64 (y.n)), (.string (y.t)), (.slice dna (y.ns.length) dnc), (.slice dia (y.xs.length) dic), (.slice none 0 0), (.int .i64 (0))] 56) ent43 (hlc rfl) (hlc rfl) (st_is _) (stE_and stE_own (stE_and stE_ownM stE_own)) (fun g u1 u2 W hk hg h1 h2 hP => by have h1 : u1 = _ := h1; subst u1; have h2 : u2 = _ := h2; subst u2; have hq := (⟨hP.1, hP.2.1⟩ : _ ∧ _); have hin : Calls _ _ _ W (fun ee W' => ∃ v, ee = .returned v ∧ Keeps (fun k => k ∉ [bo, bm]) W W' ∧ (Is (.string (if tkB x e c.nm textE then textV (getV x c.nm) else ⟨#[]⟩))) g v W' ∧ (Own W' bo [(.int .u8 (x.k)), (.int .i64 (x.n)), (.string (x.t)), (.slice cna (x.ns.length) cnc), (.slice cia (x.xs.length) cic), (.map (some bm)), (.int .i64 (tkE x e c.nm textE))] 74 ∧ OwnM W' bm (tkA x A e c.nm textE))) := (Text_ok (x) (A) (e) hA hx hxt c.nm W _ _ _ _ _ (sa_cln hS) (sa_notin (by simp)) hne (sa_keepL D_cn hk (by simp)) (sa_keepL D_ci hk (by simp)) hq.1 hq.2); exact hin.mono fun ee W' ⟨v, k1, k2, k3, k4⟩ => ⟨v, k1, k2.mono (fun k h hm => h (by simp at hm ⊢; omega)), k3, ⟨k4.1, k4.2, (own_keepL hP.2.2 k2 (by simp [hn1.symm, hn2.symm]))⟩⟩) ?_
  refine .mb rfl e1 ?_
  refine .i (fo 1 (hbs rfl e5) Try.underlying54 rfl sz9 rfl) ?_
  refine .i (lo1 (hlc rfl) own_b5_2 (by simp [ne_bo_b5_2.symm, ne_bm_b5_2.symm, ne_bx_b5_2.symm]) agg9 sz9 rfl) ?_
  refine .callL2 (φ1 := Is (.pointer (some ⟨bx, 0, none⟩))) (φ2 := Is (.string (c.nm))) (φ := Is (.string ((rtV y c.nm 3).t))) (Ψ' := fun W => Own W bo [(.int .u8 (x.k)), (.int .i64 (x.n)), (.string (x.t)), (.slice cna (x.ns.length) cnc), (.slice cia (x.xs.length) cic), (.map (some bm)), (.int .i64 (tkE x e c.nm textE))] 74 ∧ OwnM W bm (tkA x A e c.nm textE) ∧ True) ent83 (hlc rfl) (hlc rfl) (st_is _) (stE_and stE_own (stE_and stE_ownM stE_tr)) (fun g u1 u2 W hk hg h1 h2 hP => by have h1 : u1 = _ := h1; subst u1; have h2 : u2 = _ := h2; subst u2; have hq := hP.2.2; have hin : Calls _ _ _ W (fun ee W' => ∃ v, ee = .returned v ∧ Keeps (fun k => k ∉ [bx]) W W' ∧ (Is (.string ((rtV y c.nm 3).t))) g v W' ∧ (True)) := ((rText_ok c.nm hnm (y) hyt W _ _ _ _ (fun b hb o h => (sa_notin (by simp : ∀ b ∈ [bx], b ∈ [b5_2, bo, bm, bx])) b hb o h.1) (rd_base D_dn hk hg (sub_nl (by simp))) (rd_base D_di hk hg (sub_nl (by simp))) hq).mono fun _ _ ⟨v, h1, h2, h3⟩ => ⟨v, h1, h2, h3, trivial⟩); exact hin.mono fun ee W' ⟨v, k1, k2, k3, k4⟩ => ⟨v, k1, k2.mono (fun k h hm => h (by simp at hm ⊢; simp [hm])), k3, ⟨(own_keepL hP.1 k2 (by simp [hn1])), (ownM_keepL hP.2.1 k2 (by simp [hn2])), k4⟩⟩) ?_
  refine .i (sp_sEql (hlc rfl) (hlc rfl)) ?_
  refine .al rfl ?_
  refine .dn fun a13 g W13 y13 zz13 hk hg hV hR hP => ?_
  obtain ⟨e6, -, -, -, -, -, -, -, -, -, -⟩ := hV
  replace e6 := e6.q
  replace D_cn := sa_keepL D_cn hk (by simp)
  replace D_ci := sa_keepL D_ci hk (by simp)
  replace D_dn := sa_keepL D_dn hk (by simp)
  replace D_di := sa_keepL D_di hk (by simp)
  replace own_b5_2 := own_keepL own_b5_2 hk (by simp [ne_bo_b5_2.symm, ne_bm_b5_2.symm, ne_bx_b5_2.symm])
  obtain ⟨own_bo, own_bm, own_bx⟩ := hP
  replace own_bo : Own W13 bo [(.int .u8 (x.k)), (.int .i64 (x.n)), (.string (x.t)), (.slice cna (x.ns.length) cnc), (.slice cia (x.xs.length) cic), (.map (some bm)), (.int .i64 (tkE x e c.nm textE))] 74 := own_bo
  replace own_bm : OwnM W13 bm (tkA x A e c.nm textE) := own_bm
  clear own_bx
  replace kw := keeps_L kw hk (in_cons (.inr (by simp)) (in_cons (.inr (by simp)) (in_cons (.inr (by simp)) in_nil)))
  clear hR hk hg
  refine zn (hK12 _ _ ?_)
  refine wp_ret ?_
  refine ret1 rfl zz13 e6 ⟨_, rfl, kw, ?_⟩
  rw [hR, hE1, hA1]
  exact ⟨rfl, own_bo, own_bm⟩
 have n1 : ¬ c.wh = 1 := by have := ne_of_beq_false hc; omega
 refine zq fun K14 hK14 => ?_
 refine rg mixed y11 zz11 ?_
 refine .i (sp_eql (hbs rfl e17) Has.cst) ?_
 refine .al rfl ?_
 refine .dn fun a15 g W15 y15 zz15 hk hg hV hR hP => ?_
 obtain ⟨e40, -, -⟩ := hV
 replace e0 := ft hR e0
 replace e1 := ft hR e1
 replace e5 := ft hR e5
 replace e17 := ft hR e17
 replace D_cn := D_cn.ext hk
 replace D_ci := D_ci.ext hk
 replace D_dn := D_dn.ext hk
 replace D_di := D_di.ext hk
 replace e40 := e40.q
 replace own_bo := own_bo.ext hk
 replace own_bm := own_bm.ext hk
 replace own_bx := own_bx.ext hk
 replace own_b5_2 := own_b5_2.ext hk
 replace kw := kw.x hk
 clear hR hk hg hP
 refine zn (hK14 _ _ ?_)
 refine zc e40 (fun hc => ?_) (fun hc => ?_)
 ·
  have hw : c.wh = 2 := by have := eq_of_beq hc; omega
  have hR : aR x e y c = ((if tkB x e c.nm (numE c.lo c.hi) then numV c.lo c.hi (getV x c.nm) else 0) == rnN' y c.nm c.lo c.hi) := by rw [aR, if_neg n0, if_neg n1, if_pos hw]
  have hE1 : qE x e c = tkE x e c.nm (numE c.lo c.hi) := by rw [qE, if_neg n0, if_neg n1, if_pos hw]
  have hA1 : qA x A e c = tkA x A e c.nm (numE c.lo c.hi) := by rw [qA, if_neg n0, if_neg n1, if_pos hw]
  refine zq fun K16 hK16 => ?_
  refine wp_reg (fun k => k ∉ [bo, bm, bx]) (Ψ := fun W => Own W bo [(.int .u8 (x.k)), (.int .i64 (x.n)), (.string (x.t)), (.slice cna (x.ns.length) cnc), (.slice cia (x.xs.length) cic), (.map (some bm)), (.int .i64 (e))] 74 ∧ OwnM W bm (A) ∧ Own W bx [(.int .u8 (y.k)), (.int .i64 (y.n)), (.string (y.t)), (.slice dna (y.ns.length) dnc), (.slice dia (y.xs.length) dic), (.slice none 0 0), (.int .i64 (0))] 56) mixed y15 zz15 (stE_and stE_own (stE_and stE_ownM stE_own)) ⟨own_bo, own_bm, own_bx⟩ ?_
  refine .mb rfl e0 ?_
  refine .i (fo 1 (hbs rfl e5) Try.underlying54 rfl sz9 rfl) ?_
  refine .i (lo1 (hlc rfl) own_b5_2 (by simp [ne_bo_b5_2.symm, ne_bm_b5_2.symm, ne_bx_b5_2.symm]) agg9 sz9 rfl) ?_
  refine .i (fo 2 (hbs rfl e5) Try.underlying54 rfl sz2 rfl) ?_
  refine .i (lo1 (hlc rfl) own_b5_2 (by simp [ne_bo_b5_2.symm, ne_bm_b5_2.symm, ne_bx_b5_2.symm]) agg2 sz2 rfl) ?_
  refine .i (fo 3 (hbs rfl e5) Try.underlying54 rfl sz2 rfl) ?_
  refine .i (lo1 (hlc rfl) own_b5_2 (by simp [ne_bo_b5_2.symm, ne_bm_b5_2.symm, ne_bx_b5_2.symm]) agg2 sz2 rfl) ?_
  refine .callL4 (φ1 := Is (.pointer (some ⟨bo, 0, none⟩))) (φ2 := Is (.string (c.nm))) (φ3 := Is (.int .i64 (c.lo))) (φ4 := Is (.int .i64 (c.hi))) (φ := Is (.int .i64 (if tkB x e c.nm (numE c.lo c.hi) then numV c.lo c.hi (getV x c.nm) else 0))) (Ψ' := fun W => Own W bo [(.int .u8 (x.k)), (.int .i64 (x.n)), (.string (x.t)), (.slice cna (x.ns.length) cnc), (.slice cia (x.xs.length) cic), (.map (some bm)), (.int .i64 (tkE x e c.nm (numE c.lo c.hi)))] 74 ∧ OwnM W bm (tkA x A e c.nm (numE c.lo c.hi)) ∧ Own W bx [(.int .u8 (y.k)), (.int .i64 (y.n)), (.string (y.t)), (.slice dna (y.ns.length) dnc), (.slice dia (y.xs.length) dic), (.slice none 0 0), (.int .i64 (0))] 56) ent44 (hlc rfl) (hlc rfl) (hlc rfl) (hlc rfl) (st_is _) (stE_and stE_own (stE_and stE_ownM stE_own)) (fun g u1 u2 u3 u4 W hk hg h1 h2 h3 h4 hP => by have h1 : u1 = _ := h1; subst u1; have h2 : u2 = _ := h2; subst u2; have h3 : u3 = _ := h3; subst u3; have h4 : u4 = _ := h4; subst u4; have hq := (⟨hP.1, hP.2.1⟩ : _ ∧ _); have hin : Calls _ _ _ W (fun ee W' => ∃ v, ee = .returned v ∧ Keeps (fun k => k ∉ [bo, bm]) W W' ∧ (Is (.int .i64 (if tkB x e c.nm (numE c.lo c.hi) then numV c.lo c.hi (getV x c.nm) else 0))) g v W' ∧ (Own W' bo [(.int .u8 (x.k)), (.int .i64 (x.n)), (.string (x.t)), (.slice cna (x.ns.length) cnc), (.slice cia (x.xs.length) cic), (.map (some bm)), (.int .i64 (tkE x e c.nm (numE c.lo c.hi)))] 74 ∧ OwnM W' bm (tkA x A e c.nm (numE c.lo c.hi)))) := (Num_ok (x) (A) (e) hA hx hxt c.nm c.lo c.hi W _ _ _ _ _ (sa_cln hS) (sa_notin (by simp)) hne (sa_keepL D_cn hk (by simp)) (sa_keepL D_ci hk (by simp)) hq.1 hq.2); exact hin.mono fun ee W' ⟨v, k1, k2, k3, k4⟩ => ⟨v, k1, k2.mono (fun k h hm => h (by simp at hm ⊢; omega)), k3, ⟨k4.1, k4.2, (own_keepL hP.2.2 k2 (by simp [hn1.symm, hn2.symm]))⟩⟩) ?_
  refine .mb rfl e1 ?_
  refine .i (fo 1 (hbs rfl e5) Try.underlying54 rfl sz9 rfl) ?_
  refine .i (lo1 (hlc rfl) own_b5_2 (by simp [ne_bo_b5_2.symm, ne_bm_b5_2.symm, ne_bx_b5_2.symm]) agg9 sz9 rfl) ?_
  refine .i (fo 2 (hbs rfl e5) Try.underlying54 rfl sz2 rfl) ?_
  refine .i (lo1 (hlc rfl) own_b5_2 (by simp [ne_bo_b5_2.symm, ne_bm_b5_2.symm, ne_bx_b5_2.symm]) agg2 sz2 rfl) ?_
  refine .i (fo 3 (hbs rfl e5) Try.underlying54 rfl sz2 rfl) ?_
  refine .i (lo1 (hlc rfl) own_b5_2 (by simp [ne_bo_b5_2.symm, ne_bm_b5_2.symm, ne_bx_b5_2.symm]) agg2 sz2 rfl) ?_
  refine .callL4 (φ1 := Is (.pointer (some ⟨bx, 0, none⟩))) (φ2 := Is (.string (c.nm))) (φ3 := Is (.int .i64 (c.lo))) (φ4 := Is (.int .i64 (c.hi))) (φ := Is (.int .i64 (rnN' y c.nm c.lo c.hi))) (Ψ' := fun W => Own W bo [(.int .u8 (x.k)), (.int .i64 (x.n)), (.string (x.t)), (.slice cna (x.ns.length) cnc), (.slice cia (x.xs.length) cic), (.map (some bm)), (.int .i64 (tkE x e c.nm (numE c.lo c.hi)))] 74 ∧ OwnM W bm (tkA x A e c.nm (numE c.lo c.hi)) ∧ True) ent84 (hlc rfl) (hlc rfl) (hlc rfl) (hlc rfl) (st_is _) (stE_and stE_own (stE_and stE_ownM stE_tr)) (fun g u1 u2 u3 u4 W hk hg h1 h2 h3 h4 hP => by have h1 : u1 = _ := h1; subst u1; have h2 : u2 = _ := h2; subst u2; have h3 : u3 = _ := h3; subst u3; have h4 : u4 = _ := h4; subst u4; have hq := hP.2.2; have hin : Calls _ _ _ W (fun ee W' => ∃ v, ee = .returned v ∧ Keeps (fun k => k ∉ [bx]) W W' ∧ (Is (.int .i64 (rnN' y c.nm c.lo c.hi))) g v W' ∧ (True)) := ((rNum_ok c.nm hnm c.lo c.hi (y) hyt W _ _ _ _ (fun b hb o h => (sa_notin (by simp : ∀ b ∈ [bx], b ∈ [b5_2, bo, bm, bx])) b hb o h.1) (rd_base D_dn hk hg (sub_nl (by simp))) (rd_base D_di hk hg (sub_nl (by simp))) hq).mono fun _ _ ⟨v, h1, h2, h3⟩ => ⟨v, h1, h2, h3, trivial⟩); exact hin.mono fun ee W' ⟨v, k1, k2, k3, k4⟩ => ⟨v, k1, k2.mono (fun k h hm => h (by simp at hm ⊢; simp [hm])), k3, ⟨(own_keepL hP.1 k2 (by simp [hn1])), (ownM_keepL hP.2.1 k2 (by simp [hn2])), k4⟩⟩) ?_
  refine .i (sp_eql (hlc rfl) (hlc rfl)) ?_
  refine .al rfl ?_
  refine .dn fun a17 g W17 y17 zz17 hk hg hV hR hP => ?_
  obtain ⟨e6, -, -, -, -, -, -, -, -, -, -, -, -, -, -, -, -, -, -⟩ := hV
  replace e6 := e6.q
  replace D_cn := sa_keepL D_cn hk (by simp)
  replace D_ci := sa_keepL D_ci hk (by simp)
  replace D_dn := sa_keepL D_dn hk (by simp)
  replace D_di := sa_keepL D_di hk (by simp)
  replace own_b5_2 := own_keepL own_b5_2 hk (by simp [ne_bo_b5_2.symm, ne_bm_b5_2.symm, ne_bx_b5_2.symm])
  obtain ⟨own_bo, own_bm, own_bx⟩ := hP
  replace own_bo : Own W17 bo [(.int .u8 (x.k)), (.int .i64 (x.n)), (.string (x.t)), (.slice cna (x.ns.length) cnc), (.slice cia (x.xs.length) cic), (.map (some bm)), (.int .i64 (tkE x e c.nm (numE c.lo c.hi)))] 74 := own_bo
  replace own_bm : OwnM W17 bm (tkA x A e c.nm (numE c.lo c.hi)) := own_bm
  clear own_bx
  replace kw := keeps_L kw hk (in_cons (.inr (by simp)) (in_cons (.inr (by simp)) (in_cons (.inr (by simp)) in_nil)))
  clear hR hk hg
  refine zn (hK16 _ _ ?_)
  refine wp_ret ?_
  refine ret1 rfl zz17 e6 ⟨_, rfl, kw, ?_⟩
  rw [hR, hE1, hA1]
  exact ⟨rfl, own_bo, own_bm⟩
 have n2 : ¬ c.wh = 2 := by have := ne_of_beq_false hc; omega
 refine zq fun K18 hK18 => ?_
 refine rg mixed y15 zz15 ?_
 refine .i (sp_eql (hbs rfl e17) Has.cst) ?_
 refine .al rfl ?_
 refine .dn fun a19 g W19 y19 zz19 hk hg hV hR hP => ?_
 obtain ⟨e59, -, -⟩ := hV
 replace e0 := ft hR e0
 replace e1 := ft hR e1
 replace e5 := ft hR e5
 replace e17 := ft hR e17
 replace D_cn := D_cn.ext hk
 replace D_ci := D_ci.ext hk
 replace D_dn := D_dn.ext hk
 replace D_di := D_di.ext hk
 replace e59 := e59.q
 replace own_bo := own_bo.ext hk
 replace own_bm := own_bm.ext hk
 replace own_bx := own_bx.ext hk
 replace own_b5_2 := own_b5_2.ext hk
 replace kw := kw.x hk
 clear hR hk hg hP
 refine zn (hK18 _ _ ?_)
 refine zc e59 (fun hc => ?_) (fun hc => ?_)
 ·
  have hw : c.wh = 3 := by have := eq_of_beq hc; omega
  have hR : aR x e y c = ((if tkB x e c.nm boolE then boolV (getV x c.nm) else false) == ((rtV y c.nm 1).n == 1)) := by rw [aR, if_neg n0, if_neg n1, if_neg n2, if_pos hw]
  have hE1 : qE x e c = tkE x e c.nm boolE := by rw [qE, if_neg n0, if_neg n1, if_neg n2, if_pos hw]
  have hA1 : qA x A e c = tkA x A e c.nm boolE := by rw [qA, if_neg n0, if_neg n1, if_neg n2, if_pos hw]
  refine zq fun K20 hK20 => ?_
  refine wp_reg (fun k => k ∉ [bo, bm, bx]) (Ψ := fun W => Own W bo [(.int .u8 (x.k)), (.int .i64 (x.n)), (.string (x.t)), (.slice cna (x.ns.length) cnc), (.slice cia (x.xs.length) cic), (.map (some bm)), (.int .i64 (e))] 74 ∧ OwnM W bm (A) ∧ Own W bx [(.int .u8 (y.k)), (.int .i64 (y.n)), (.string (y.t)), (.slice dna (y.ns.length) dnc), (.slice dia (y.xs.length) dic), (.slice none 0 0), (.int .i64 (0))] 56) mixed y19 zz19 (stE_and stE_own (stE_and stE_ownM stE_own)) ⟨own_bo, own_bm, own_bx⟩ ?_
  refine .mb rfl e0 ?_
  refine .i (fo 1 (hbs rfl e5) Try.underlying54 rfl sz9 rfl) ?_
  refine .i (lo1 (hlc rfl) own_b5_2 (by simp [ne_bo_b5_2.symm, ne_bm_b5_2.symm, ne_bx_b5_2.symm]) agg9 sz9 rfl) ?_
  refine .callL2 (φ1 := Is (.pointer (some ⟨bo, 0, none⟩))) (φ2 := Is (.string (c.nm))) (φ := Is (.bool (if tkB x e c.nm boolE then boolV (getV x c.nm) else false))) (Ψ' := fun W => Own W bo [(.int .u8 (x.k)), (.int .i64 (x.n)), (.string (x.t)), (.slice cna (x.ns.length) cnc), (.slice cia (x.xs.length) cic), (.map (some bm)), (.int .i64 (tkE x e c.nm boolE))] 74 ∧ OwnM W bm (tkA x A e c.nm boolE) ∧ Own W bx [(.int .u8 (y.k)), (.int .i64 (y.n)), (.string (y.t)), (.slice dna (y.ns.length) dnc), (.slice dia (y.xs.length) dic), (.slice none 0 0), (.int .i64 (0))] 56) ent45 (hlc rfl) (hlc rfl) (st_is _) (stE_and stE_own (stE_and stE_ownM stE_own)) (fun g u1 u2 W hk hg h1 h2 hP => by have h1 : u1 = _ := h1; subst u1; have h2 : u2 = _ := h2; subst u2; have hq := (⟨hP.1, hP.2.1⟩ : _ ∧ _); have hin : Calls _ _ _ W (fun ee W' => ∃ v, ee = .returned v ∧ Keeps (fun k => k ∉ [bo, bm]) W W' ∧ (Is (.bool (if tkB x e c.nm boolE then boolV (getV x c.nm) else false))) g v W' ∧ (Own W' bo [(.int .u8 (x.k)), (.int .i64 (x.n)), (.string (x.t)), (.slice cna (x.ns.length) cnc), (.slice cia (x.xs.length) cic), (.map (some bm)), (.int .i64 (tkE x e c.nm boolE))] 74 ∧ OwnM W' bm (tkA x A e c.nm boolE))) := (Bool_ok (x) (A) (e) hA hx hxt c.nm W _ _ _ _ _ (sa_cln hS) (sa_notin (by simp)) hne (sa_keepL D_cn hk (by simp)) (sa_keepL D_ci hk (by simp)) hq.1 hq.2); exact hin.mono fun ee W' ⟨v, k1, k2, k3, k4⟩ => ⟨v, k1, k2.mono (fun k h hm => h (by simp at hm ⊢; omega)), k3, ⟨k4.1, k4.2, (own_keepL hP.2.2 k2 (by simp [hn1.symm, hn2.symm]))⟩⟩) ?_
  refine .mb rfl e1 ?_
  refine .i (fo 1 (hbs rfl e5) Try.underlying54 rfl sz9 rfl) ?_
  refine .i (lo1 (hlc rfl) own_b5_2 (by simp [ne_bo_b5_2.symm, ne_bm_b5_2.symm, ne_bx_b5_2.symm]) agg9 sz9 rfl) ?_
  refine .callL2 (φ1 := Is (.pointer (some ⟨bx, 0, none⟩))) (φ2 := Is (.string (c.nm))) (φ := Is (.bool (((rtV y c.nm 1).n == 1)))) (Ψ' := fun W => Own W bo [(.int .u8 (x.k)), (.int .i64 (x.n)), (.string (x.t)), (.slice cna (x.ns.length) cnc), (.slice cia (x.xs.length) cic), (.map (some bm)), (.int .i64 (tkE x e c.nm boolE))] 74 ∧ OwnM W bm (tkA x A e c.nm boolE) ∧ True) ent85 (hlc rfl) (hlc rfl) (st_is _) (stE_and stE_own (stE_and stE_ownM stE_tr)) (fun g u1 u2 W hk hg h1 h2 hP => by have h1 : u1 = _ := h1; subst u1; have h2 : u2 = _ := h2; subst u2; have hq := hP.2.2; have hin : Calls _ _ _ W (fun ee W' => ∃ v, ee = .returned v ∧ Keeps (fun k => k ∉ [bx]) W W' ∧ (Is (.bool (((rtV y c.nm 1).n == 1)))) g v W' ∧ (True)) := ((rBool_ok c.nm hnm (y) hyt W _ _ _ _ (fun b hb o h => (sa_notin (by simp : ∀ b ∈ [bx], b ∈ [b5_2, bo, bm, bx])) b hb o h.1) (rd_base D_dn hk hg (sub_nl (by simp))) (rd_base D_di hk hg (sub_nl (by simp))) hq).mono fun _ _ ⟨v, h1, h2, h3⟩ => ⟨v, h1, h2, h3, trivial⟩); exact hin.mono fun ee W' ⟨v, k1, k2, k3, k4⟩ => ⟨v, k1, k2.mono (fun k h hm => h (by simp at hm ⊢; simp [hm])), k3, ⟨(own_keepL hP.1 k2 (by simp [hn1])), (ownM_keepL hP.2.1 k2 (by simp [hn2])), k4⟩⟩) ?_
  refine .i (sp_bEql Try.underlying4 (hlc rfl) (hlc rfl)) ?_
  refine .al rfl ?_
  refine .dn fun a21 g W21 y21 zz21 hk hg hV hR hP => ?_
  obtain ⟨e6, -, -, -, -, -, -, -, -, -, -⟩ := hV
  replace e6 := e6.q
  replace D_cn := sa_keepL D_cn hk (by simp)
  replace D_ci := sa_keepL D_ci hk (by simp)
  replace D_dn := sa_keepL D_dn hk (by simp)
  replace D_di := sa_keepL D_di hk (by simp)
  replace own_b5_2 := own_keepL own_b5_2 hk (by simp [ne_bo_b5_2.symm, ne_bm_b5_2.symm, ne_bx_b5_2.symm])
  obtain ⟨own_bo, own_bm, own_bx⟩ := hP
  replace own_bo : Own W21 bo [(.int .u8 (x.k)), (.int .i64 (x.n)), (.string (x.t)), (.slice cna (x.ns.length) cnc), (.slice cia (x.xs.length) cic), (.map (some bm)), (.int .i64 (tkE x e c.nm boolE))] 74 := own_bo
  replace own_bm : OwnM W21 bm (tkA x A e c.nm boolE) := own_bm
  clear own_bx
  replace kw := keeps_L kw hk (in_cons (.inr (by simp)) (in_cons (.inr (by simp)) (in_cons (.inr (by simp)) in_nil)))
  clear hR hk hg
  refine zn (hK20 _ _ ?_)
  refine wp_ret ?_
  refine ret1 rfl zz21 e6 ⟨_, rfl, kw, ?_⟩
  rw [hR, hE1, hA1]
  exact ⟨rfl, own_bo, own_bm⟩
 have n3 : ¬ c.wh = 3 := by have := ne_of_beq_false hc; omega
 refine zq fun K22 hK22 => ?_
 refine rg mixed y19 zz19 ?_
 refine .i (sp_eql (hbs rfl e17) Has.cst) ?_
 refine .al rfl ?_
 refine .dn fun a23 g W23 y23 zz23 hk hg hV hR hP => ?_
 obtain ⟨e70, -, -⟩ := hV
 replace e0 := ft hR e0
 replace e1 := ft hR e1
 replace e5 := ft hR e5
 replace e17 := ft hR e17
 replace D_cn := D_cn.ext hk
 replace D_ci := D_ci.ext hk
 replace D_dn := D_dn.ext hk
 replace D_di := D_di.ext hk
 replace e70 := e70.q
 replace own_bo := own_bo.ext hk
 replace own_bm := own_bm.ext hk
 replace own_bx := own_bx.ext hk
 replace own_b5_2 := own_b5_2.ext hk
 replace kw := kw.x hk
 clear hR hk hg hP
 refine zn (hK22 _ _ ?_)
 refine zc e70 (fun hc => ?_) (fun hc => ?_)
 ·
  have hw : c.wh = 4 := by have := eq_of_beq hc; omega
  have hR : aR x e y c = (V.beq (V.mk 0 0 ⟨#[]⟩ [] (if tkB x e c.nm (listE c.mo) then listV c.mo (getV x c.nm) else [])) (V.mk 0 0 ⟨#[]⟩ [] (rlL y c.nm c.mo))) := by rw [aR, if_neg n0, if_neg n1, if_neg n2, if_neg n3, if_pos hw]
  have hE1 : qE x e c = tkE x e c.nm (listE c.mo) := by rw [qE, if_neg n0, if_neg n1, if_neg n2, if_neg n3, if_pos hw]
  have hA1 : qA x A e c = tkA x A e c.nm (listE c.mo) := by rw [qA, if_neg n0, if_neg n1, if_neg n2, if_neg n3, if_pos hw]
  rw [leafA, if_pos hw, Bool.and_eq_true] at hlf
  have hl4 : ∀ q ∈ (if tkB x e c.nm (listE c.mo) then listV c.mo (getV x c.nm) else []), q.ns = [] ∧ q.xs = [] := fun q hq => isLeaf_out (List.all_eq_true.1 hlf.1 q hq)
  have hcb : (V.mk 0 0 ⟨#[]⟩ [] (if tkB x e c.nm (listE c.mo) then listV c.mo (getV x c.nm) else [])).cnt ≤ 1073741824 := Nat.le_of_ble_eq_true hlf.2
  refine zq fun K24 hK24 => ?_
  refine wp_reg (fun k => k ∉ [bo, bm]) (Ψ := fun W => Own W bo [(.int .u8 (x.k)), (.int .i64 (x.n)), (.string (x.t)), (.slice cna (x.ns.length) cnc), (.slice cia (x.xs.length) cic), (.map (some bm)), (.int .i64 (e))] 74 ∧ OwnM W bm (A)) mixed y23 zz23 (stE_and stE_own stE_ownM) ⟨own_bo, own_bm⟩ ?_
  refine .mb rfl e0 ?_
  refine .i (fo 1 (hbs rfl e5) Try.underlying54 rfl sz9 rfl) ?_
  refine .i (lo1 (hlc rfl) own_b5_2 (by simp [ne_bo_b5_2.symm, ne_bm_b5_2.symm]) agg9 sz9 rfl) ?_
  refine .i (fo 4 (hbs rfl e5) Try.underlying54 rfl sz3 rfl) ?_
  refine .i (lo1 (hlc rfl) own_b5_2 (by simp [ne_bo_b5_2.symm, ne_bm_b5_2.symm]) agg3 sz3 rfl) ?_
  refine .callL3 (φ1 := Is (.pointer (some ⟨bo, 0, none⟩))) (φ2 := Is (.string (c.nm))) (φ3 := Is (.int .i64 (c.mo))) (φ := IsD (Fr W23) (valsD (if tkB x e c.nm (listE c.mo) then listV c.mo (getV x c.nm) else []))) (Ψ' := fun W => Own W bo [(.int .u8 (x.k)), (.int .i64 (x.n)), (.string (x.t)), (.slice cna (x.ns.length) cnc), (.slice cia (x.xs.length) cic), (.map (some bm)), (.int .i64 (tkE x e c.nm (listE c.mo)))] 74 ∧ OwnM W bm (tkA x A e c.nm (listE c.mo))) ent46 (hlc rfl) (hlc rfl) (hlc rfl) (st_d (sub_frnl (in_cons own_bo.lt (in_cons own_bm.lt in_nil)))) (stE_and stE_own stE_ownM) (fun g u1 u2 u3 W hk hg h1 h2 h3 hP => by have h1 : u1 = _ := h1; subst u1; have h2 : u2 = _ := h2; subst u2; have h3 : u3 = _ := h3; subst u3; exact (List_ok (x) (A) (e) hA hx hxt c.nm c.mo W _ _ _ _ _ (sa_cln hS) (sa_notin (by simp)) hne (sa_keepL D_cn hk (by simp)) (sa_keepL D_ci hk (by simp)) hP.1 hP.2).mono (fun _ _ ⟨v, h1, h2, h3, h4⟩ => ⟨v, h1, h2, fresh_d hk hg h3, h4⟩)) ?_
  refine .op (φ := IsD (Fr W23) (valsD (if tkB x e c.nm (listE c.mo) then listV c.mo (getV x c.nm) else []))) (st_d (sub_frnl (in_cons own_bo.lt (in_cons own_bm.lt in_nil)))) (sp_assign (hlc rfl)) ?_
  refine .dn fun a25 g W25 y25 zz25 hk hg hV hR hP => ?_
  obtain ⟨e7, -, -, -, -, -, -, -⟩ := hV
  replace e1 := ft hR e1
  replace e5 := ft hR e5
  obtain ⟨v7_25, ev⟩ : ∃ v, sl a25 7 = v := ⟨_, rfl⟩
  rw [ev] at e7
  have D_v7_25 : Rd W25 (SF w [b5_2, bo, bm, bx]) (valsD (if tkB x e c.nm (listE c.mo) then listV c.mo (getV x c.nm) else [])) v7_25 := fr_end (M := [b5_2, bo, bm, bx]) e7 kw [] in_nil (in_cons own_b5_2.lt (in_cons own_bo.lt (in_cons own_bm.lt (in_cons own_bx.lt in_nil))))
  replace e7 := ev; clear ev
  obtain ⟨v7_25a, v7_25c, ev, D2⟩ := rdVs_out D_v7_25
  subst ev; replace D_v7_25 := D2; clear D2
  replace D_cn := sa_keepL D_cn hk (by simp)
  replace D_ci := sa_keepL D_ci hk (by simp)
  replace D_dn := sa_keepL D_dn hk (by simp)
  replace D_di := sa_keepL D_di hk (by simp)
  replace own_bx := own_keepL own_bx hk (by simp [hn1.symm, hn2.symm])
  replace own_b5_2 := own_keepL own_b5_2 hk (by simp [ne_bo_b5_2.symm, ne_bm_b5_2.symm])
  obtain ⟨own_bo, own_bm⟩ := hP
  replace own_bo : Own W25 bo [(.int .u8 (x.k)), (.int .i64 (x.n)), (.string (x.t)), (.slice cna (x.ns.length) cnc), (.slice cia (x.xs.length) cic), (.map (some bm)), (.int .i64 (tkE x e c.nm (listE c.mo)))] 74 := own_bo
  replace own_bm : OwnM W25 bm (tkA x A e c.nm (listE c.mo)) := own_bm
  replace kw := keeps_L kw hk (in_cons (.inr (by simp)) (in_cons (.inr (by simp)) in_nil))
  clear hR hk hg
  refine zn (hK24 _ _ ?_)
  refine zq fun K26 hK26 => ?_
  refine wp_reg (fun k => k ∉ [bx]) (Ψ := fun W => Own W bx [(.int .u8 (y.k)), (.int .i64 (y.n)), (.string (y.t)), (.slice dna (y.ns.length) dnc), (.slice dia (y.xs.length) dic), (.slice none 0 0), (.int .i64 (0))] 56) mixed y25 zz25 stE_own own_bx ?_
  refine .mb rfl e7 ?_
  refine .mb rfl e1 ?_
  refine .i (fo 1 (hbs rfl e5) Try.underlying54 rfl sz9 rfl) ?_
  refine .i (lo1 (hlc rfl) own_b5_2 (by simp [ne_bx_b5_2.symm]) agg9 sz9 rfl) ?_
  refine .i (fo 4 (hbs rfl e5) Try.underlying54 rfl sz3 rfl) ?_
  refine .i (lo1 (hlc rfl) own_b5_2 (by simp [ne_bx_b5_2.symm]) agg3 sz3 rfl) ?_
  refine .callL3 (φ1 := Is (.pointer (some ⟨bx, 0, none⟩))) (φ2 := Is (.string (c.nm))) (φ3 := Is (.int .i64 (c.mo))) (φ := IsD (SA w S [b5_2, bo, bm, bx]) (valsD (rlL y c.nm c.mo))) (Ψ' := fun W => ∃ avx : Value, Own W bx [(.int .u8 (y.k)), (.int .i64 (y.n)), (.string (y.t)), (.slice dna (y.ns.length) dnc), (.slice dia (y.xs.length) dic), avx, (.int .i64 (rlE y c.nm c.mo))] 56) ent87 (hlc rfl) (hlc rfl) (hlc rfl) (st_d (sub_nl (by simp))) stE_ownX (fun g u1 u2 u3 W hk hg h1 h2 h3 hP => by have h1 : u1 = _ := h1; subst u1; have h2 : u2 = _ := h2; subst u2; have h3 : u3 = _ := h3; subst u3; exact ((rList_ok c.nm hnm c.mo (y) hyt W _ _ _ _ (fun b hb o h => (sa_notin (by simp : ∀ b ∈ [bx], b ∈ [b5_2, bo, bm, bx])) b hb o h.1) (rd_base D_dn hk hg (sub_nl (by simp))) (rd_base D_di hk hg (sub_nl (by simp))) hP).mono fun _ _ ⟨v, h1, h2, av, h4, h5⟩ => ⟨v, h1, h2, rd_ar_sa kw (in_cons own_b5_2.lt (in_cons own_bo.lt (in_cons own_bm.lt (in_cons own_bx.lt in_nil)))) hk hg h4, av, h5⟩)) ?_
  refine .i (v := (.bool (V.beq (V.mk 0 0 ⟨#[]⟩ [] (if tkB x e c.nm (listE c.mo) then listV c.mo (getV x c.nm) else [])) (V.mk 0 0 ⟨#[]⟩ [] (rlL y c.nm c.mo))))) (sp_call2 (φ1 := IsD (SA w S [b5_2, bo, bm, bx]) (valsD (if tkB x e c.nm (listE c.mo) then listV c.mo (getV x c.nm) else []))) (φ2 := IsD (SA w S [b5_2, bo, bm, bx]) (valsD (rlL y c.nm c.mo))) ent86 (((hlc rfl).dat D_v7_25 (sub_nlF (by simp))).sup sf_in_sa) (hlc rfl) (fun g u1 u2 W hk hgk h1 h2 => SameAll_ok (if tkB x e c.nm (listE c.mo) then listV c.mo (getV x c.nm) else []) (rlL y c.nm c.mo) hcb W _ _ _ h1 h2)) ?_
  refine .al rfl ?_
  refine .dn fun a27 g W27 y27 zz27 hk hg hV hR hP => ?_
  obtain ⟨e8, -, -, -, -, -, -, -, -, -⟩ := hV
  replace e7 := ft hR e7
  replace e8 := e8.q
  replace D_cn := sa_keepL D_cn hk (by simp)
  replace D_ci := sa_keepL D_ci hk (by simp)
  replace D_dn := sa_keepL D_dn hk (by simp)
  replace D_di := sa_keepL D_di hk (by simp)
  replace D_v7_25 := sf_keepL D_v7_25 hk (by simp)
  replace own_bo := own_keepL own_bo hk (by simp [hn1])
  replace own_bm := ownM_keepL own_bm hk (by simp [hn2])
  replace own_b5_2 := own_keepL own_b5_2 hk (by simp [ne_bx_b5_2.symm])
  obtain ⟨av_27, own_bx⟩ := hP
  replace own_bx : Own W27 bx [(.int .u8 (y.k)), (.int .i64 (y.n)), (.string (y.t)), (.slice dna (y.ns.length) dnc), (.slice dia (y.xs.length) dic), av_27, (.int .i64 (rlE y c.nm c.mo))] 56 := own_bx
  replace kw := keeps_L kw hk (in_cons (.inr (by simp)) in_nil)
  clear hR hk hg
  refine zn (hK26 _ _ ?_)
  refine zq fun K28 hK28 => ?_
  have hml := rd_len D_v7_25
  have A_sp : LRow W27 w.heap.size (if tkB x e c.nm (listE c.mo) then listV c.mo (getV x c.nm) else []).length (.slice v7_25a ((if tkB x e c.nm (listE c.mo) then listV c.mo (getV x c.nm) else []).length) v7_25c) := lrow_of D_v7_25 (fun b o h => ⟨h.1, h.2.1⟩) hl4
  refine wp_reg (fun k => k < w.heap.size) (Ψ := fun W => LRow W w.heap.size (if tkB x e c.nm (listE c.mo) then listV c.mo (getV x c.nm) else []).length (.slice v7_25a ((if tkB x e c.nm (listE c.mo) then listV c.mo (getV x c.nm) else []).length) v7_25c)) mixed y27 zz27 (fun W W' k h => h.ext k) A_sp ?_
  refine .mb rfl e7 ?_
  refine .callL1 (φ1 := Is (.slice v7_25a ((if tkB x e c.nm (listE c.mo) then listV c.mo (getV x c.nm) else []).length) v7_25c)) (φ := Any) (Ψ' := Tr) ent88 (hlc rfl) st_any st_tr (fun g u1 W hk hg h1 hP => by have h1 : u1 = _ := h1; subst h1; exact (spoil11_ok w.heap.size ((if tkB x e c.nm (listE c.mo) then listV c.mo (getV x c.nm) else []).length) hml _ _ W hP).mono fun e W' ⟨v, h2, h3, _⟩ => ⟨v, h2, h3, trivial, trivial⟩) ?_
  refine .dn fun a30 g W30 y30 zz30 hk hg hV hR hP => ?_
  replace e8 := ft hR e8
  replace kw := keeps_below kw hk (Nat.le_refl _)
  replace own_bo := own_bo.keeps hk lt_bo
  replace own_bm := own_bm.keeps hk lt_bm
  clear hR hk hg hV hP
  refine zn (hK28 _ _ ?_)
  refine zq fun K31 hK31 => ?_
  refine rg mixed y30 zz30 ?_
  refine .mb rfl e8 ?_
  refine .al rfl ?_
  refine .dn fun a32 g W32 y32 zz32 hk hg hV hR hP => ?_
  obtain ⟨e6, -, -⟩ := hV
  replace e6 := e6.q
  replace own_bo := own_bo.ext hk
  replace own_bm := own_bm.ext hk
  replace kw := kw.x hk
  clear hR hk hg hP
  refine zn (hK31 _ _ ?_)
  refine wp_ret ?_
  refine ret1 rfl zz32 e6 ⟨_, rfl, kw, ?_⟩
  rw [hR, hE1, hA1]
  exact ⟨rfl, own_bo, own_bm⟩
 have n4 : ¬ c.wh = 4 := by have := ne_of_beq_false hc; omega
 refine zq fun K33 hK33 => ?_
 refine rg mixed y23 zz23 ?_
 refine .i (sp_eql (hbs rfl e17) Has.cst) ?_
 refine .al rfl ?_
 refine .dn fun a34 g W34 y34 zz34 hk hg hV hR hP => ?_
 obtain ⟨e89, -, -⟩ := hV
 replace e0 := ft hR e0
 replace e1 := ft hR e1
 replace e5 := ft hR e5
 replace e17 := ft hR e17
 replace D_cn := D_cn.ext hk
 replace D_ci := D_ci.ext hk
 replace D_dn := D_dn.ext hk
 replace D_di := D_di.ext hk
 replace e89 := e89.q
 replace own_bo := own_bo.ext hk
 replace own_bm := own_bm.ext hk
 replace own_bx := own_bx.ext hk
 replace own_b5_2 := own_b5_2.ext hk
 replace kw := kw.x hk
 clear hR hk hg hP
 refine zn (hK33 _ _ ?_)
 refine zc e89 (fun hc => ?_) (fun hc => ?_)
 ·
  have hw : c.wh = 5 := by have := eq_of_beq hc; omega
  have hR : aR x e y c = (decide ((if tkB x e c.nm (textsE c.mo) then textsL c.mo (getV x c.nm) else []) = rxT (rlL y c.nm c.mo))) := by rw [aR, if_neg n0, if_neg n1, if_neg n2, if_neg n3, if_neg n4, if_pos hw]
  have hE1 : qE x e c = tkE x e c.nm (textsE c.mo) := by rw [qE, if_neg n0, if_neg n1, if_neg n2, if_neg n3, if_neg n4, if_pos hw]
  have hA1 : qA x A e c = tkA x A e c.nm (textsE c.mo) := by rw [qA, if_neg n0, if_neg n1, if_neg n2, if_neg n3, if_neg n4, if_pos hw]
  refine zq fun K35 hK35 => ?_
  refine wp_reg (fun k => k ∉ [bo, bm]) (Ψ := fun W => Own W bo [(.int .u8 (x.k)), (.int .i64 (x.n)), (.string (x.t)), (.slice cna (x.ns.length) cnc), (.slice cia (x.xs.length) cic), (.map (some bm)), (.int .i64 (e))] 74 ∧ OwnM W bm (A)) mixed y34 zz34 (stE_and stE_own stE_ownM) ⟨own_bo, own_bm⟩ ?_
  refine .mb rfl e0 ?_
  refine .i (fo 1 (hbs rfl e5) Try.underlying54 rfl sz9 rfl) ?_
  refine .i (lo1 (hlc rfl) own_b5_2 (by simp [ne_bo_b5_2.symm, ne_bm_b5_2.symm]) agg9 sz9 rfl) ?_
  refine .i (fo 4 (hbs rfl e5) Try.underlying54 rfl sz3 rfl) ?_
  refine .i (lo1 (hlc rfl) own_b5_2 (by simp [ne_bo_b5_2.symm, ne_bm_b5_2.symm]) agg3 sz3 rfl) ?_
  refine .callL3 (φ1 := Is (.pointer (some ⟨bo, 0, none⟩))) (φ2 := Is (.string (c.nm))) (φ3 := Is (.int .i64 (c.mo))) (φ := IsD (Fr W34) (strsD (if tkB x e c.nm (textsE c.mo) then textsL c.mo (getV x c.nm) else []))) (Ψ' := fun W => Own W bo [(.int .u8 (x.k)), (.int .i64 (x.n)), (.string (x.t)), (.slice cna (x.ns.length) cnc), (.slice cia (x.xs.length) cic), (.map (some bm)), (.int .i64 (tkE x e c.nm (textsE c.mo)))] 74 ∧ OwnM W bm (tkA x A e c.nm (textsE c.mo))) ent41 (hlc rfl) (hlc rfl) (hlc rfl) (st_d (sub_frnl (in_cons own_bo.lt (in_cons own_bm.lt in_nil)))) (stE_and stE_own stE_ownM) (fun g u1 u2 u3 W hk hg h1 h2 h3 hP => by have h1 : u1 = _ := h1; subst u1; have h2 : u2 = _ := h2; subst u2; have h3 : u3 = _ := h3; subst u3; exact (Texts_ok (x) (A) (e) hA hx hxt c.nm c.mo W _ _ _ _ _ (sa_cln hS) (sa_notin (by simp)) hne (sa_keepL D_cn hk (by simp)) (sa_keepL D_ci hk (by simp)) hP.1 hP.2).mono (fun _ _ ⟨v, h1, h2, h3, h4⟩ => ⟨v, h1, h2, fresh_d hk hg h3, h4⟩)) ?_
  refine .op (φ := IsD (Fr W34) (strsD (if tkB x e c.nm (textsE c.mo) then textsL c.mo (getV x c.nm) else []))) (st_d (sub_frnl (in_cons own_bo.lt (in_cons own_bm.lt in_nil)))) (sp_assign (hlc rfl)) ?_
  refine .dn fun a36 g W36 y36 zz36 hk hg hV hR hP => ?_
  obtain ⟨e9, -, -, -, -, -, -, -⟩ := hV
  replace e1 := ft hR e1
  replace e5 := ft hR e5
  obtain ⟨v9_36, ev⟩ : ∃ v, sl a36 9 = v := ⟨_, rfl⟩
  rw [ev] at e9
  have D_v9_36 : Rd W36 (SF w [b5_2, bo, bm, bx]) (strsD (if tkB x e c.nm (textsE c.mo) then textsL c.mo (getV x c.nm) else [])) v9_36 := fr_end (M := [b5_2, bo, bm, bx]) e9 kw [] in_nil (in_cons own_b5_2.lt (in_cons own_bo.lt (in_cons own_bm.lt (in_cons own_bx.lt in_nil))))
  replace e9 := ev; clear ev
  obtain ⟨v9_36a, v9_36c, ev, D2⟩ := rdS_out D_v9_36
  subst ev; replace D_v9_36 := D2; clear D2
  replace D_cn := sa_keepL D_cn hk (by simp)
  replace D_ci := sa_keepL D_ci hk (by simp)
  replace D_dn := sa_keepL D_dn hk (by simp)
  replace D_di := sa_keepL D_di hk (by simp)
  replace own_bx := own_keepL own_bx hk (by simp [hn1.symm, hn2.symm])
  replace own_b5_2 := own_keepL own_b5_2 hk (by simp [ne_bo_b5_2.symm, ne_bm_b5_2.symm])
  obtain ⟨own_bo, own_bm⟩ := hP
  replace own_bo : Own W36 bo [(.int .u8 (x.k)), (.int .i64 (x.n)), (.string (x.t)), (.slice cna (x.ns.length) cnc), (.slice cia (x.xs.length) cic), (.map (some bm)), (.int .i64 (tkE x e c.nm (textsE c.mo)))] 74 := own_bo
  replace own_bm : OwnM W36 bm (tkA x A e c.nm (textsE c.mo)) := own_bm
  replace kw := keeps_L kw hk (in_cons (.inr (by simp)) (in_cons (.inr (by simp)) in_nil))
  clear hR hk hg
  refine zn (hK35 _ _ ?_)
  refine zq fun K37 hK37 => ?_
  refine wp_reg (fun k => k ∉ [bx]) (Ψ := fun W => Own W bx [(.int .u8 (y.k)), (.int .i64 (y.n)), (.string (y.t)), (.slice dna (y.ns.length) dnc), (.slice dia (y.xs.length) dic), (.slice none 0 0), (.int .i64 (0))] 56) mixed y36 zz36 stE_own own_bx ?_
  refine .mb rfl e9 ?_
  refine .mb rfl e1 ?_
  refine .i (fo 1 (hbs rfl e5) Try.underlying54 rfl sz9 rfl) ?_
  refine .i (lo1 (hlc rfl) own_b5_2 (by simp [ne_bx_b5_2.symm]) agg9 sz9 rfl) ?_
  refine .i (fo 4 (hbs rfl e5) Try.underlying54 rfl sz3 rfl) ?_
  refine .i (lo1 (hlc rfl) own_b5_2 (by simp [ne_bx_b5_2.symm]) agg3 sz3 rfl) ?_
  refine .callL3 (φ1 := Is (.pointer (some ⟨bx, 0, none⟩))) (φ2 := Is (.string (c.nm))) (φ3 := Is (.int .i64 (c.mo))) (φ := IsD (SA w S [b5_2, bo, bm, bx]) (strsD (rxT (rlL y c.nm c.mo)))) (Ψ' := fun W => True) ent90 (hlc rfl) (hlc rfl) (hlc rfl) (st_d (sub_nl (by simp))) stE_tr (fun g u1 u2 u3 W hk hg h1 h2 h3 hP => by have h1 : u1 = _ := h1; subst u1; have h2 : u2 = _ := h2; subst u2; have h3 : u3 = _ := h3; subst u3; exact ((rTexts_ok c.nm hnm c.mo (y) hyt W _ _ _ _ (fun b hb o h => (sa_notin (by simp : ∀ b ∈ [bx], b ∈ [b5_2, bo, bm, bx])) b hb o h.1) (rd_base D_dn hk hg (sub_nl (by simp))) (rd_base D_di hk hg (sub_nl (by simp))) hP hrl).mono fun _ _ ⟨v, h1, h2, h3⟩ => ⟨v, h1, h2, (fun h4 => rd_ar_sa kw (in_cons own_b5_2.lt (in_cons own_bo.lt (in_cons own_bm.lt (in_cons own_bx.lt in_nil)))) hk hg h4) h3, trivial⟩)) ?_
  refine .i (v := (.bool (decide ((if tkB x e c.nm (textsE c.mo) then textsL c.mo (getV x c.nm) else []) = (rxT (rlL y c.nm c.mo)))))) (sp_call2 (φ1 := IsD (SA w S [b5_2, bo, bm, bx]) (strsD (if tkB x e c.nm (textsE c.mo) then textsL c.mo (getV x c.nm) else []))) (φ2 := IsD (SA w S [b5_2, bo, bm, bx]) (strsD (rxT (rlL y c.nm c.mo)))) ent89 (((hlc rfl).dat D_v9_36 (sub_nlF (by simp))).sup sf_in_sa) (hlc rfl) (fun g u1 u2 W hk hgk h1 h2 => texts11_ok (if tkB x e c.nm (textsE c.mo) then textsL c.mo (getV x c.nm) else []) (rxT (rlL y c.nm c.mo)) W _ _ _ h1 h2)) ?_
  refine .al rfl ?_
  refine .dn fun a38 g W38 y38 zz38 hk hg hV hR hP => ?_
  obtain ⟨e10, -, -, -, -, -, -, -, -, -⟩ := hV
  replace e9 := ft hR e9
  replace e10 := e10.q
  replace D_cn := sa_keepL D_cn hk (by simp)
  replace D_ci := sa_keepL D_ci hk (by simp)
  replace D_dn := sa_keepL D_dn hk (by simp)
  replace D_di := sa_keepL D_di hk (by simp)
  replace D_v9_36 := sf_keepL D_v9_36 hk (by simp)
  replace own_bo := own_keepL own_bo hk (by simp [hn1])
  replace own_bm := ownM_keepL own_bm hk (by simp [hn2])
  replace own_b5_2 := own_keepL own_b5_2 hk (by simp [ne_bx_b5_2.symm])
  have own_bx := hP
  replace kw := keeps_L kw hk (in_cons (.inr (by simp)) in_nil)
  clear hR hk hg hP
  refine zn (hK37 _ _ ?_)
  refine zq fun K39 hK39 => ?_
  refine zq fun K40 hK40 => ?_
  have hml : (if tkB x e c.nm (textsE c.mo) then textsL c.mo (getV x c.nm) else []).length ≤ maxLen := rd_lenS D_v9_36
  simp only [maxLen] at hml
  have A_l : WRow W38 w.heap.size 1 (if tkB x e c.nm (textsE c.mo) then textsL c.mo (getV x c.nm) else []).length (.slice v9_36a ((if tkB x e c.nm (textsE c.mo) then textsL c.mo (getV x c.nm) else []).length) v9_36c) := by have h := wrow_of (ds := List.map D.str (if tkB x e c.nm (textsE c.mo) then textsL c.mo (getV x c.nm) else [])) (n := w.heap.size) D_v9_36 (fun b o h => ⟨h.1, h.2.1⟩) (fun d hd => by obtain ⟨q, -, rfl⟩ := List.mem_map.1 hd; rfl) (by decide); rwa [List.length_map] at h
  obtain ⟨nl, hnl⟩ : ∃ nl, nl = (if tkB x e c.nm (textsE c.mo) then textsL c.mo (getV x c.nm) else []).length := ⟨_, rfl⟩
  rw [← hnl] at A_l e9 hml
  refine rg mixed y38 zz38 ?_
  refine .ac ?_
  refine .dn fun a41 g W41 y41 zz41 hk hg hV hR hP => ?_
  obtain ⟨e11, -⟩ := hV
  replace e9 := ft hR e9
  replace e10 := ft hR e10
  replace e11 := e11.q
  replace own_bo := own_bo.ext hk
  replace own_bm := own_bm.ext hk
  replace A_l := A_l.ext hk
  replace kw := kw.x hk
  clear hR hk hg hP
  refine zn (hK40 _ _ ?_)
  refine wp_block ?_
  refine wp_for (nl) (fun k a W => a.tmps.size = 161 ∧ a.defers = [] ∧ Keeps (fun k => k ∉ [bo, bm, bx]) w W ∧ sl a 9 = (.slice v9_36a nl v9_36c) ∧ sl a 10 = (.bool (decide ((if tkB x e c.nm (textsE c.mo) then textsL c.mo (getV x c.nm) else []) = (rxT (rlL y c.nm c.mo))))) ∧ sl a 11 = (.int .i64 ((k : Nat))) ∧ Own W bo [(.int .u8 (x.k)), (.int .i64 (x.n)), (.string (x.t)), (.slice cna (x.ns.length) cnc), (.slice cia (x.xs.length) cic), (.map (some bm)), (.int .i64 (tkE x e c.nm (textsE c.mo)))] 74 ∧ OwnM W bm (tkA x A e c.nm (textsE c.mo)) ∧ (WRow W w.heap.size 1 nl (.slice v9_36a nl v9_36c))) ⟨y41, zz41, kw, e9, e10, (e11.trans (congrArg (Value.int .i64) (rfl))), own_bo, own_bm, A_l⟩ ?_
  clear kw e9 e10 e11 own_bo own_bm A_l
  rintro k a42 W42 hkk ⟨y42, zz42, kw, e9, e10, e11, own_bo, own_bm, A_l⟩
  refine zq fun K43 hK43 => ?_
  refine zq fun K44 hK44 => ?_
  refine rg mixed y42 zz42 ?_
  refine .mb rfl e11 ?_
  refine .mb rfl e9 ?_
  refine .i (sp_lenV Try.underlying23 (hlc rfl)) ?_
  refine .i (sp_lss (hlc rfl) (hlc rfl)) ?_
  refine .dn fun a45 g W45 y45 zz45 hk hg hV hR hP => ?_
  obtain ⟨e108, -, -, -, -⟩ := hV
  replace e9 := ft hR e9
  replace e10 := ft hR e10
  replace e11 := ft hR e11
  replace e108 := e108.q
  replace own_bo := own_bo.ext hk
  replace own_bm := own_bm.ext hk
  replace A_l := A_l.ext hk
  replace kw := kw.x hk
  clear hR hk hg hP
  refine zn (hK44 _ _ ?_)
  refine zc e108 (fun hc => ?_) (fun hc => ?_)
  ·
   have hlt : k < nl := by simpa using hc
   obtain ⟨g0, o0, hva⟩ := wrow_some A_l hlt
   refine wp_skip (hK43 _ _ ?_)
   refine zq fun K46 hK46 => ?_
   refine wp_block ?_
   refine rg mixed y45 zz45 ?_
   refine .mb rfl e9 ?_
   refine .mb rfl e11 ?_
   refine .i (v := (.pointer (some ⟨g0, o0 + k * 1, none⟩))) (sp_indexRowO (i := k) (hlc rfl) (hlc rfl) Try.underlying23 sz9 hva rfl hlt) ?_
   refine .dn fun a47 g W47 y47 zz47 hk hg hV hR hP => ?_
   obtain ⟨e113, -, -, -⟩ := hV
   replace e9 := ft hR e9
   replace e10 := ft hR e10
   replace e11 := ft hR e11
   have e113 : sl a47 113 = (.pointer (some ⟨g0, o0 + k * 1, none⟩)) := e113
   replace own_bo := own_bo.ext hk
   replace own_bm := own_bm.ext hk
   replace A_l := A_l.ext hk
   replace kw := kw.x hk
   clear hR hk hg hP
   refine tail_storeW (i := k) e113 rfl sz9 rfl (all_cons rfl all_nil) A_l hva hlt (fun W48 hs hng A_new => ?_)
   replace A_l := A_new; clear A_new
   replace own_bo := own_store own_bo hs (fun q => absurd hng (Nat.not_le.2 (q ▸ lt_bo)))
   replace own_bm := ownM_store own_bm hs (fun q => absurd hng (Nat.not_le.2 (q ▸ lt_bm)))
   replace kw := keeps_store kw hs hng
   clear hs hng
   refine zn (hK46 _ _ ?_)
   refine rg mixed y47 zz47 ?_
   refine .mb rfl e11 ?_
   refine .i (sp_add (hlc rfl) Has.cst (i64_in (by omega))) ?_
   refine .al rfl ?_
   refine .dn fun a49 g W49 y49 zz49 hk hg hV hR hP => ?_
   obtain ⟨e11, -, -, -⟩ := hV
   replace e9 := ft hR e9
   replace e10 := ft hR e10
   replace e11 := e11.q
   replace own_bo := own_bo.ext hk
   replace own_bm := own_bm.ext hk
   replace A_l := A_l.ext hk
   replace kw := kw.x hk
   clear hR hk hg hP
   exact tail_nil ⟨hlt, y49, zz49, kw, e9, e10, (e11.trans (congrArg (Value.int .i64) (by simp))), own_bo, own_bm, A_l⟩
  have hge0 : ¬ k < nl := by simpa using hc
  have hge : k = nl := by omega
  refine wp_exit (hK39 _ _ ?_)
  refine zq fun K50 hK50 => ?_
  refine rg mixed y45 zz45 ?_
  refine .mb rfl e10 ?_
  refine .al rfl ?_
  refine .dn fun a51 g W51 y51 zz51 hk hg hV hR hP => ?_
  obtain ⟨e6, -, -⟩ := hV
  replace e6 := e6.q
  replace own_bo := own_bo.ext hk
  replace own_bm := own_bm.ext hk
  replace A_l := A_l.ext hk
  replace kw := kw.x hk
  clear hR hk hg hP
  refine zn (hK50 _ _ ?_)
  refine wp_ret ?_
  refine ret1 rfl zz51 e6 ⟨_, rfl, kw, ?_⟩
  rw [hR, hE1, hA1]
  exact ⟨rfl, own_bo, own_bm⟩
 have n5 : ¬ c.wh = 5 := by have := ne_of_beq_false hc; omega
 refine zq fun K52 hK52 => ?_
 refine rg mixed y34 zz34 ?_
 refine .i (sp_eql (hbs rfl e17) Has.cst) ?_
 refine .al rfl ?_
 refine .dn fun a53 g W53 y53 zz53 hk hg hV hR hP => ?_
 obtain ⟨e115, -, -⟩ := hV
 replace e0 := ft hR e0
 replace e1 := ft hR e1
 replace e5 := ft hR e5
 replace e17 := ft hR e17
 replace D_cn := D_cn.ext hk
 replace D_ci := D_ci.ext hk
 replace D_dn := D_dn.ext hk
 replace D_di := D_di.ext hk
 replace e115 := e115.q
 replace own_bo := own_bo.ext hk
 replace own_bm := own_bm.ext hk
 replace own_bx := own_bx.ext hk
 replace own_b5_2 := own_b5_2.ext hk
 replace kw := kw.x hk
 clear hR hk hg hP
 refine zn (hK52 _ _ ?_)
 refine zc e115 (fun hc => ?_) (fun hc => ?_)
 ·
  have hw : c.wh = 6 := by have := eq_of_beq hc; omega
  have hR : aR x e y c = (V.beq (if tkB x e c.nm (obE c.mo) then obV c.mo (getV x c.nm) else ⟨0, 0, ⟨#[]⟩, [], []⟩) (roV y c.nm c.mo)) := by rw [aR, if_neg n0, if_neg n1, if_neg n2, if_neg n3, if_neg n4, if_neg n5, if_pos hw]
  have hE1 : qE x e c = tkE x e c.nm (obE c.mo) := by rw [qE, if_neg n0, if_neg n1, if_neg n2, if_neg n3, if_neg n4, if_neg n5, if_pos hw]
  have hA1 : qA x A e c = tkA x A e c.nm (obE c.mo) := by rw [qA, if_neg n0, if_neg n1, if_neg n2, if_neg n3, if_neg n4, if_neg n5, if_pos hw]
  rw [leafA, if_neg n4, if_pos hw] at hlf
  have hl4 : ∀ q ∈ [(if tkB x e c.nm (obE c.mo) then obV c.mo (getV x c.nm) else ⟨0, 0, ⟨#[]⟩, [], []⟩)], q.ns = [] ∧ q.xs = [] := fun q hq => by rw [List.mem_singleton] at hq; subst hq; exact isLeaf_out hlf
  have hcb : (if tkB x e c.nm (obE c.mo) then obV c.mo (getV x c.nm) else ⟨0, 0, ⟨#[]⟩, [], []⟩).cnt ≤ 1073741824 := by split; exact Nat.le_trans (cnt_wt _) (Nat.le_trans (obV_wt _ _) hwg); exact Nat.le_of_ble_eq_true (by kernel_rfl)
  refine zq fun K54 hK54 => ?_
  refine wp_reg (fun k => k ∉ [bo, bm]) (Ψ := fun W => Own W bo [(.int .u8 (x.k)), (.int .i64 (x.n)), (.string (x.t)), (.slice cna (x.ns.length) cnc), (.slice cia (x.xs.length) cic), (.map (some bm)), (.int .i64 (e))] 74 ∧ OwnM W bm (A)) mixed y53 zz53 (stE_and stE_own stE_ownM) ⟨own_bo, own_bm⟩ ?_
  refine .mb rfl e0 ?_
  refine .i (fo 1 (hbs rfl e5) Try.underlying54 rfl sz9 rfl) ?_
  refine .i (lo1 (hlc rfl) own_b5_2 (by simp [ne_bo_b5_2.symm, ne_bm_b5_2.symm]) agg9 sz9 rfl) ?_
  refine .i (fo 4 (hbs rfl e5) Try.underlying54 rfl sz3 rfl) ?_
  refine .i (lo1 (hlc rfl) own_b5_2 (by simp [ne_bo_b5_2.symm, ne_bm_b5_2.symm]) agg3 sz3 rfl) ?_
  refine .callL3 (φ1 := Is (.pointer (some ⟨bo, 0, none⟩))) (φ2 := Is (.string (c.nm))) (φ3 := Is (.int .i64 (c.mo))) (φ := IsD (Fr W53) (V.d (if tkB x e c.nm (obE c.mo) then obV c.mo (getV x c.nm) else ⟨0, 0, ⟨#[]⟩, [], []⟩))) (Ψ' := fun W => Own W bo [(.int .u8 (x.k)), (.int .i64 (x.n)), (.string (x.t)), (.slice cna (x.ns.length) cnc), (.slice cia (x.xs.length) cic), (.map (some bm)), (.int .i64 (tkE x e c.nm (obE c.mo)))] 74 ∧ OwnM W bm (tkA x A e c.nm (obE c.mo))) ent47 (hlc rfl) (hlc rfl) (hlc rfl) (st_d (sub_frnl (in_cons own_bo.lt (in_cons own_bm.lt in_nil)))) (stE_and stE_own stE_ownM) (fun g u1 u2 u3 W hk hg h1 h2 h3 hP => by have h1 : u1 = _ := h1; subst u1; have h2 : u2 = _ := h2; subst u2; have h3 : u3 = _ := h3; subst u3; exact (Object_ok (x) (A) (e) hA hx hxt c.nm c.mo W _ _ _ _ _ (sa_cln hS) (sa_notin (by simp)) hne (sa_keepL D_cn hk (by simp)) (sa_keepL D_ci hk (by simp)) hP.1 hP.2).mono (fun _ _ ⟨v, h1, h2, h3, h4⟩ => ⟨v, h1, h2, fresh_d hk hg h3, h4⟩)) ?_
  refine .dn fun a55 g W55 y55 zz55 hk hg hV hR hP => ?_
  obtain ⟨e122, -, -, -, -, -, -⟩ := hV
  replace e1 := ft hR e1
  replace e5 := ft hR e5
  obtain ⟨v122_55, ev⟩ : ∃ v, sl a55 122 = v := ⟨_, rfl⟩
  rw [ev] at e122
  have D_v122_55 : Rd W55 (SF w [b5_2, bo, bm, bx]) (V.d (if tkB x e c.nm (obE c.mo) then obV c.mo (getV x c.nm) else ⟨0, 0, ⟨#[]⟩, [], []⟩)) v122_55 := fr_end (M := [b5_2, bo, bm, bx]) e122 kw [] in_nil (in_cons own_b5_2.lt (in_cons own_bo.lt (in_cons own_bm.lt (in_cons own_bx.lt in_nil))))
  replace e122 := ev; clear ev
  obtain ⟨cn122_55a, cn122_55c, ci122_55a, ci122_55c, ev, ht_v122_55, D_cn122_55, D_ci122_55⟩ := rdV_out D_v122_55
  subst ev; clear D_v122_55
  replace D_cn := sa_keepL D_cn hk (by simp)
  replace D_ci := sa_keepL D_ci hk (by simp)
  replace D_dn := sa_keepL D_dn hk (by simp)
  replace D_di := sa_keepL D_di hk (by simp)
  replace own_bx := own_keepL own_bx hk (by simp [hn1.symm, hn2.symm])
  replace own_b5_2 := own_keepL own_b5_2 hk (by simp [ne_bo_b5_2.symm, ne_bm_b5_2.symm])
  obtain ⟨own_bo, own_bm⟩ := hP
  replace own_bo : Own W55 bo [(.int .u8 (x.k)), (.int .i64 (x.n)), (.string (x.t)), (.slice cna (x.ns.length) cnc), (.slice cia (x.xs.length) cic), (.map (some bm)), (.int .i64 (tkE x e c.nm (obE c.mo)))] 74 := own_bo
  replace own_bm : OwnM W55 bm (tkA x A e c.nm (obE c.mo)) := own_bm
  replace kw := keeps_L kw hk (in_cons (.inr (by simp)) (in_cons (.inr (by simp)) in_nil))
  clear hR hk hg
  refine tail_reg 1 All y55 zz55 st_tr trivial rfl ?_
  refine .alloc z33 ?_
  refine .dn fun a56 g W56 y56 zz56 hk hg hV hR hP => ?_
  refine tail_nil ?_
  show runTail _ _ _ _ _ _
  obtain ⟨⟨b12_56, e12, hb12, own_b12_56⟩, -⟩ := hV
  have lo_b12_56 : w.heap.size ≤ b12_56 := Nat.le_trans kw.size (hg.lo _ _ hb12)
  have ne_bo_b12_56 : bo ≠ b12_56 := Nat.ne_of_lt (Nat.lt_of_lt_of_le own_bo.lt (hg.lo _ _ hb12))
  have ne_bm_b12_56 : bm ≠ b12_56 := Nat.ne_of_lt (Nat.lt_of_lt_of_le own_bm.lt (hg.lo _ _ hb12))
  have ne_bx_b12_56 : bx ≠ b12_56 := Nat.ne_of_lt (Nat.lt_of_lt_of_le own_bx.lt (hg.lo _ _ hb12))
  have ne_b5_2_b12_56 : b5_2 ≠ b12_56 := Nat.ne_of_lt (Nat.lt_of_lt_of_le own_b5_2.lt (hg.lo _ _ hb12))
  have own_b12_56 : Own W56 b12_56 [(.int .u8 (0)), (.int .i64 (0)), (.string (⟨#[]⟩)), (.slice none 0 0), (.slice none 0 0)] 33 := own_b12_56
  replace e1 := ft hR e1
  replace e5 := ft hR e5
  replace e122 := ft hR e122
  replace D_cn := sa_more D_cn hk [b12_56] (in_cons (hg.lo _ _ hb12) in_nil)
  replace D_ci := sa_more D_ci hk [b12_56] (in_cons (hg.lo _ _ hb12) in_nil)
  replace D_dn := sa_more D_dn hk [b12_56] (in_cons (hg.lo _ _ hb12) in_nil)
  replace D_di := sa_more D_di hk [b12_56] (in_cons (hg.lo _ _ hb12) in_nil)
  replace D_cn122_55 := sf_more D_cn122_55 hk [b12_56] (in_cons (hg.lo _ _ hb12) in_nil)
  replace D_ci122_55 := sf_more D_ci122_55 hk [b12_56] (in_cons (hg.lo _ _ hb12) in_nil)
  replace own_bo := own_bo.ext hk
  replace own_bm := own_bm.ext hk
  replace own_bx := own_bx.ext hk
  replace own_b5_2 := own_b5_2.ext hk
  replace kw := kw.x hk
  clear hR hk hg hP hb12
  refine tail_store e12 e122 sz33 rfl own_b12_56 (lbr rfl) (all_cons rfl (all_cons rfl (all_cons rfl (all_cons rfl (all_cons rfl all_nil))))) (fun W57 hs own_b12_56 => ?_)
  have own_b12_56 : Own W57 b12_56 [(.int .u8 ((if tkB x e c.nm (obE c.mo) then obV c.mo (getV x c.nm) else ⟨0, 0, ⟨#[]⟩, [], []⟩).k)), (.int .i64 ((if tkB x e c.nm (obE c.mo) then obV c.mo (getV x c.nm) else ⟨0, 0, ⟨#[]⟩, [], []⟩).n)), (.string ((if tkB x e c.nm (obE c.mo) then obV c.mo (getV x c.nm) else ⟨0, 0, ⟨#[]⟩, [], []⟩).t)), (.slice cn122_55a (((if tkB x e c.nm (obE c.mo) then obV c.mo (getV x c.nm) else ⟨0, 0, ⟨#[]⟩, [], []⟩).ns).length) cn122_55c), (.slice ci122_55a (((if tkB x e c.nm (obE c.mo) then obV c.mo (getV x c.nm) else ⟨0, 0, ⟨#[]⟩, [], []⟩).xs).length) ci122_55c)] 33 := own_b12_56
  replace own_bo := own_store own_bo hs ne_bo_b12_56
  replace own_bm := ownM_store own_bm hs ne_bm_b12_56
  replace own_bx := own_store own_bx hs ne_bx_b12_56
  replace own_b5_2 := own_store own_b5_2 hs ne_b5_2_b12_56
  replace D_cn := sa_store D_cn hs (by simp)
  replace D_ci := sa_store D_ci hs (by simp)
  replace D_dn := sa_store D_dn hs (by simp)
  replace D_di := sa_store D_di hs (by simp)
  replace D_cn122_55 := sf_store D_cn122_55 hs (by simp)
  replace D_ci122_55 := sf_store D_ci122_55 hs (by simp)
  replace kw := keeps_store kw hs lo_b12_56
  clear hs
  refine zn (hK54 _ _ ?_)
  refine zq fun K58 hK58 => ?_
  refine wp_reg (fun k => k ∉ [bx]) (Ψ := fun W => Own W bx [(.int .u8 (y.k)), (.int .i64 (y.n)), (.string (y.t)), (.slice dna (y.ns.length) dnc), (.slice dia (y.xs.length) dic), (.slice none 0 0), (.int .i64 (0))] 56) mixed y56 zz56 stE_own own_bx ?_
  refine .i (v := (.agg #[(.int .u8 ((if tkB x e c.nm (obE c.mo) then obV c.mo (getV x c.nm) else ⟨0, 0, ⟨#[]⟩, [], []⟩).k)), (.int .i64 ((if tkB x e c.nm (obE c.mo) then obV c.mo (getV x c.nm) else ⟨0, 0, ⟨#[]⟩, [], []⟩).n)), (.string ((if tkB x e c.nm (obE c.mo) then obV c.mo (getV x c.nm) else ⟨0, 0, ⟨#[]⟩, [], []⟩).t)), (.slice cn122_55a (((if tkB x e c.nm (obE c.mo) then obV c.mo (getV x c.nm) else ⟨0, 0, ⟨#[]⟩, [], []⟩).ns).length) cn122_55c), (.slice ci122_55a (((if tkB x e c.nm (obE c.mo) then obV c.mo (getV x c.nm) else ⟨0, 0, ⟨#[]⟩, [], []⟩).xs).length) ci122_55c)])) (loA (hbs rfl e12) own_b12_56 (by simp [ne_bx_b12_56.symm]) agg33 sz33 rfl rfl) ?_
  refine .mb rfl e1 ?_
  refine .i (fo 1 (hbs rfl e5) Try.underlying54 rfl sz9 rfl) ?_
  refine .i (lo1 (hlc rfl) own_b5_2 (by simp [ne_bx_b5_2.symm]) agg9 sz9 rfl) ?_
  refine .i (fo 4 (hbs rfl e5) Try.underlying54 rfl sz3 rfl) ?_
  refine .i (lo1 (hlc rfl) own_b5_2 (by simp [ne_bx_b5_2.symm]) agg3 sz3 rfl) ?_
  refine .callL3 (φ1 := Is (.pointer (some ⟨bx, 0, none⟩))) (φ2 := Is (.string (c.nm))) (φ3 := Is (.int .i64 (c.mo))) (φ := IsD (SA w S [b12_56, b5_2, bo, bm, bx]) (V.d (roV y c.nm c.mo))) (Ψ' := fun W => True) ent91 (hlc rfl) (hlc rfl) (hlc rfl) (st_d (sub_nl (by simp))) stE_tr (fun g u1 u2 u3 W hk hg h1 h2 h3 hP => by have h1 : u1 = _ := h1; subst u1; have h2 : u2 = _ := h2; subst u2; have h3 : u3 = _ := h3; subst u3; exact ((rObject_ok c.nm hnm c.mo (y) hyt W _ _ _ _ (fun b hb o h => (sa_notin (by simp : ∀ b ∈ [bx], b ∈ [b12_56, b5_2, bo, bm, bx])) b hb o h.1) (rd_base D_dn hk hg (sub_nl (by simp))) (rd_base D_di hk hg (sub_nl (by simp))) hP).mono fun _ _ ⟨v, h1, h2, h3⟩ => ⟨v, h1, h2, (fun h4 => rd_ar_sa kw (in_cons own_b12_56.lt (in_cons own_b5_2.lt (in_cons own_bo.lt (in_cons own_bm.lt (in_cons own_bx.lt in_nil))))) hk hg h4) h3, trivial⟩)) ?_
  refine .i (v := (.bool (V.beq ((if tkB x e c.nm (obE c.mo) then obV c.mo (getV x c.nm) else ⟨0, 0, ⟨#[]⟩, [], []⟩)) (roV y c.nm c.mo)))) (sp_call2 (φ1 := IsD (SA w S [b12_56, b5_2, bo, bm, bx]) (V.d ((if tkB x e c.nm (obE c.mo) then obV c.mo (getV x c.nm) else ⟨0, 0, ⟨#[]⟩, [], []⟩)))) (φ2 := IsD (SA w S [b12_56, b5_2, bo, bm, bx]) (V.d (roV y c.nm c.mo))) ent34 (((hlc rfl).dat (rdV_in (x := (if tkB x e c.nm (obE c.mo) then obV c.mo (getV x c.nm) else ⟨0, 0, ⟨#[]⟩, [], []⟩)) ht_v122_55 D_cn122_55 D_ci122_55 : Rd W57 (SF w [b12_56, b5_2, bo, bm, bx]) (V.d ((if tkB x e c.nm (obE c.mo) then obV c.mo (getV x c.nm) else ⟨0, 0, ⟨#[]⟩, [], []⟩))) _) (sub_nlF (by simp))).sup sf_in_sa) (hlc rfl) (fun g u1 u2 W hk hgk h1 h2 => refSame_all _ ((if tkB x e c.nm (obE c.mo) then obV c.mo (getV x c.nm) else ⟨0, 0, ⟨#[]⟩, [], []⟩)) (roV y c.nm c.mo) (Nat.le_refl _) (by first | omega | exact Nat.le_of_ble_eq_true (by kernel_rfl)) W _ _ _ h1 h2)) ?_
  refine .al rfl ?_
  refine .dn fun a59 g W59 y59 zz59 hk hg hV hR hP => ?_
  obtain ⟨e13, -, -, -, -, -, -, -, -, -⟩ := hV
  replace e12 := ft hR e12
  replace e13 := e13.q
  replace D_cn := sa_keepL D_cn hk (by simp)
  replace D_ci := sa_keepL D_ci hk (by simp)
  replace D_dn := sa_keepL D_dn hk (by simp)
  replace D_di := sa_keepL D_di hk (by simp)
  replace D_cn122_55 := sf_keepL D_cn122_55 hk (by simp)
  replace D_ci122_55 := sf_keepL D_ci122_55 hk (by simp)
  replace own_bo := own_keepL own_bo hk (by simp [hn1])
  replace own_bm := ownM_keepL own_bm hk (by simp [hn2])
  replace own_b5_2 := own_keepL own_b5_2 hk (by simp [ne_bx_b5_2.symm])
  replace own_b12_56 := own_keepL own_b12_56 hk (by simp [ne_bx_b12_56.symm])
  have own_bx := hP
  replace kw := keeps_L kw hk (in_cons (.inr (by simp)) in_nil)
  clear hR hk hg hP
  refine zn (hK58 _ _ ?_)
  refine zq fun K60 hK60 => ?_
  refine rg mixed y59 zz59 ?_
  refine .i (v := (.agg #[(.int .u8 ((if tkB x e c.nm (obE c.mo) then obV c.mo (getV x c.nm) else ⟨0, 0, ⟨#[]⟩, [], []⟩).k)), (.int .i64 ((if tkB x e c.nm (obE c.mo) then obV c.mo (getV x c.nm) else ⟨0, 0, ⟨#[]⟩, [], []⟩).n)), (.string ((if tkB x e c.nm (obE c.mo) then obV c.mo (getV x c.nm) else ⟨0, 0, ⟨#[]⟩, [], []⟩).t)), (.slice cn122_55a (((if tkB x e c.nm (obE c.mo) then obV c.mo (getV x c.nm) else ⟨0, 0, ⟨#[]⟩, [], []⟩).ns).length) cn122_55c), (.slice ci122_55a (((if tkB x e c.nm (obE c.mo) then obV c.mo (getV x c.nm) else ⟨0, 0, ⟨#[]⟩, [], []⟩).xs).length) ci122_55c)])) (loA (hbs rfl e12) own_b12_56 trivial agg33 sz33 rfl rfl) ?_
  refine .da (X := SF w [b12_56, b5_2, bo, bm, bx]) (e := valsD ([(if tkB x e c.nm (obE c.mo) then obV c.mo (getV x c.nm) else ⟨0, 0, ⟨#[]⟩, [], []⟩)])) (sp_bsl (ds := [V.d ((if tkB x e c.nm (obE c.mo) then obV c.mo (getV x c.nm) else ⟨0, 0, ⟨#[]⟩, [], []⟩))]) Try.underlying31 sz33 z33 (lbr rfl) (lbr rfl) ⟨rfl, ((hlc rfl).dat (rdV_in (x := (if tkB x e c.nm (obE c.mo) then obV c.mo (getV x c.nm) else ⟨0, 0, ⟨#[]⟩, [], []⟩)) ht_v122_55 D_cn122_55 D_ci122_55 : Rd W59 (SF w [b12_56, b5_2, bo, bm, bx]) (V.d ((if tkB x e c.nm (obE c.mo) then obV c.mo (getV x c.nm) else ⟨0, 0, ⟨#[]⟩, [], []⟩))) _) sub_all), trivial⟩ rfl (by intro e he; simp at he; rcases he with rfl <;> exact width_V _) (fr_sf kw (in_cons own_b12_56.lt (in_cons own_b5_2.lt (in_cons own_bo.lt (in_cons own_bm.lt (in_cons (Nat.lt_of_lt_of_le lt_bx kw.size) in_nil))))))) ?_
  refine .dn fun a61 g W61 y61 zz61 hk hg hV hR hP => ?_
  obtain ⟨e132, -, -⟩ := hV
  replace e13 := ft hR e13
  replace D_cn := D_cn.ext hk
  replace D_ci := D_ci.ext hk
  replace D_dn := D_dn.ext hk
  replace D_di := D_di.ext hk
  replace D_cn122_55 := D_cn122_55.ext hk
  replace D_ci122_55 := D_ci122_55.ext hk
  obtain ⟨v132_61, ev⟩ : ∃ v, sl a61 132 = v := ⟨_, rfl⟩
  rw [ev] at e132
  have D_v132_61 : Rd W61 (SF w [b12_56, b5_2, bo, bm, bx]) (valsD ([(if tkB x e c.nm (obE c.mo) then obV c.mo (getV x c.nm) else ⟨0, 0, ⟨#[]⟩, [], []⟩)])) v132_61 := sf_end e132 hk [] in_nil
  replace e132 := ev; clear ev
  obtain ⟨v132_61a, v132_61c, ev, D2⟩ := rdVs_out D_v132_61
  subst ev; replace D_v132_61 := D2; clear D2
  replace own_bo := own_bo.ext hk
  replace own_bm := own_bm.ext hk
  replace own_b5_2 := own_b5_2.ext hk
  replace own_b12_56 := own_b12_56.ext hk
  replace kw := kw.x hk
  clear hR hk hg hP
  have hml := rd_len D_v132_61
  have A_sp : LRow W61 w.heap.size ([(if tkB x e c.nm (obE c.mo) then obV c.mo (getV x c.nm) else ⟨0, 0, ⟨#[]⟩, [], []⟩)]).length (.slice v132_61a (([(if tkB x e c.nm (obE c.mo) then obV c.mo (getV x c.nm) else ⟨0, 0, ⟨#[]⟩, [], []⟩)]).length) v132_61c) := lrow_of D_v132_61 (fun b o h => ⟨h.1, h.2.1⟩) hl4
  refine tail_reg 1 (fun k => k < w.heap.size) (Ψ := fun W => LRow W w.heap.size ([(if tkB x e c.nm (obE c.mo) then obV c.mo (getV x c.nm) else ⟨0, 0, ⟨#[]⟩, [], []⟩)]).length (.slice v132_61a (([(if tkB x e c.nm (obE c.mo) then obV c.mo (getV x c.nm) else ⟨0, 0, ⟨#[]⟩, [], []⟩)]).length) v132_61c)) y61 zz61 (fun W W' k h => h.ext k) A_sp rfl ?_
  refine .callL1 (φ1 := Is (.slice v132_61a (([(if tkB x e c.nm (obE c.mo) then obV c.mo (getV x c.nm) else ⟨0, 0, ⟨#[]⟩, [], []⟩)]).length) v132_61c)) (φ := Any) (Ψ' := Tr) ent88 (hbs rfl e132) st_any st_tr (fun g u1 W hk hg h1 hP => by have h1 : u1 = _ := h1; subst h1; exact (spoil11_ok w.heap.size (([(if tkB x e c.nm (obE c.mo) then obV c.mo (getV x c.nm) else ⟨0, 0, ⟨#[]⟩, [], []⟩)]).length) hml _ _ W hP).mono fun e W' ⟨v, h2, h3, _⟩ => ⟨v, h2, h3, trivial, trivial⟩) ?_
  refine .dn fun a63 g W63 y63 zz63 hk hg hV hR hP => ?_
  refine tail_nil ?_
  show runTail _ _ _ _ _ _
  replace e13 := ft hR e13
  replace kw := keeps_below kw hk (Nat.le_refl _)
  replace own_bo := own_bo.keeps hk lt_bo
  replace own_bm := own_bm.keeps hk lt_bm
  clear hR hk hg hV hP
  refine zn (hK60 _ _ ?_)
  refine zq fun K64 hK64 => ?_
  refine rg mixed y63 zz63 ?_
  refine .mb rfl e13 ?_
  refine .al rfl ?_
  refine .dn fun a65 g W65 y65 zz65 hk hg hV hR hP => ?_
  obtain ⟨e6, -, -⟩ := hV
  replace e6 := e6.q
  replace own_bo := own_bo.ext hk
  replace own_bm := own_bm.ext hk
  replace kw := kw.x hk
  clear hR hk hg hP
  refine zn (hK64 _ _ ?_)
  refine wp_ret ?_
  refine ret1 rfl zz65 e6 ⟨_, rfl, kw, ?_⟩
  rw [hR, hE1, hA1]
  exact ⟨rfl, own_bo, own_bm⟩
 have n6 : ¬ c.wh = 6 := by have := ne_of_beq_false hc; omega
 refine zq fun K66 hK66 => ?_
 refine rg mixed y53 zz53 ?_
 refine .i (sp_eql (hbs rfl e17) Has.cst) ?_
 refine .al rfl ?_
 refine .dn fun a67 g W67 y67 zz67 hk hg hV hR hP => ?_
 obtain ⟨e135, -, -⟩ := hV
 replace e0 := ft hR e0
 replace e1 := ft hR e1
 replace e5 := ft hR e5
 replace e17 := ft hR e17
 replace D_cn := D_cn.ext hk
 replace D_ci := D_ci.ext hk
 replace D_dn := D_dn.ext hk
 replace D_di := D_di.ext hk
 replace e135 := e135.q
 replace own_bo := own_bo.ext hk
 replace own_bm := own_bm.ext hk
 replace own_bx := own_bx.ext hk
 replace own_b5_2 := own_b5_2.ext hk
 replace kw := kw.x hk
 clear hR hk hg hP
 refine zn (hK66 _ _ ?_)
 refine zc e135 (fun hc => ?_) (fun hc => ?_)
 ·
  have hw : c.wh = 7 := by have := eq_of_beq hc; omega
  have hR : aR x e y c = (V.beq (if tkB x e c.nm anyE then getV x c.nm else ⟨0, 0, ⟨#[]⟩, [], []⟩) (rtV y c.nm 0)) := by rw [aR, if_neg n0, if_neg n1, if_neg n2, if_neg n3, if_neg n4, if_neg n5, if_neg n6, if_pos hw]
  have hE1 : qE x e c = tkE x e c.nm anyE := by rw [qE, if_neg n0, if_neg n1, if_neg n2, if_neg n3, if_neg n4, if_neg n5, if_neg n6, if_pos hw]
  have hA1 : qA x A e c = tkA x A e c.nm anyE := by rw [qA, if_neg n0, if_neg n1, if_neg n2, if_neg n3, if_neg n4, if_neg n5, if_neg n6, if_pos hw]
  rw [leafA, if_neg n4, if_neg n6, if_pos hw] at hlf
  have hl4 : ∀ q ∈ [(if tkB x e c.nm anyE then getV x c.nm else ⟨0, 0, ⟨#[]⟩, [], []⟩)], q.ns = [] ∧ q.xs = [] := fun q hq => by rw [List.mem_singleton] at hq; subst hq; exact isLeaf_out hlf
  have hcb : (if tkB x e c.nm anyE then getV x c.nm else ⟨0, 0, ⟨#[]⟩, [], []⟩).cnt ≤ 1073741824 := by split; exact Nat.le_trans (cnt_wt _) hwg; exact Nat.le_of_ble_eq_true (by kernel_rfl)
  refine zq fun K68 hK68 => ?_
  refine wp_reg (fun k => k ∉ [bo, bm]) (Ψ := fun W => Own W bo [(.int .u8 (x.k)), (.int .i64 (x.n)), (.string (x.t)), (.slice cna (x.ns.length) cnc), (.slice cia (x.xs.length) cic), (.map (some bm)), (.int .i64 (e))] 74 ∧ OwnM W bm (A)) mixed y67 zz67 (stE_and stE_own stE_ownM) ⟨own_bo, own_bm⟩ ?_
  refine .mb rfl e0 ?_
  refine .i (fo 1 (hbs rfl e5) Try.underlying54 rfl sz9 rfl) ?_
  refine .i (lo1 (hlc rfl) own_b5_2 (by simp [ne_bo_b5_2.symm, ne_bm_b5_2.symm]) agg9 sz9 rfl) ?_
  refine .callL2 (φ1 := Is (.pointer (some ⟨bo, 0, none⟩))) (φ2 := Is (.string (c.nm))) (φ := IsD (Fr W67) (V.d (if tkB x e c.nm anyE then getV x c.nm else ⟨0, 0, ⟨#[]⟩, [], []⟩))) (Ψ' := fun W => Own W bo [(.int .u8 (x.k)), (.int .i64 (x.n)), (.string (x.t)), (.slice cna (x.ns.length) cnc), (.slice cia (x.xs.length) cic), (.map (some bm)), (.int .i64 (tkE x e c.nm anyE))] 74 ∧ OwnM W bm (tkA x A e c.nm anyE)) ent48 (hlc rfl) (hlc rfl) (st_d (sub_frnl (in_cons own_bo.lt (in_cons own_bm.lt in_nil)))) (stE_and stE_own stE_ownM) (fun g u1 u2 W hk hg h1 h2 hP => by have h1 : u1 = _ := h1; subst u1; have h2 : u2 = _ := h2; subst u2; exact (Any_ok (x) (A) (e) hA hx hxt c.nm W _ _ _ _ _ (sa_cln hS) (sa_notin (by simp)) hne (sa_keepL D_cn hk (by simp)) (sa_keepL D_ci hk (by simp)) hP.1 hP.2).mono (fun _ _ ⟨v, h1, h2, h3, h4⟩ => ⟨v, h1, h2, fresh_d hk hg h3, h4⟩)) ?_
  refine .dn fun a69 g W69 y69 zz69 hk hg hV hR hP => ?_
  obtain ⟨e140, -, -, -, -⟩ := hV
  replace e1 := ft hR e1
  replace e5 := ft hR e5
  obtain ⟨v140_69, ev⟩ : ∃ v, sl a69 140 = v := ⟨_, rfl⟩
  rw [ev] at e140
  have D_v140_69 : Rd W69 (SF w [b5_2, bo, bm, bx]) (V.d (if tkB x e c.nm anyE then getV x c.nm else ⟨0, 0, ⟨#[]⟩, [], []⟩)) v140_69 := fr_end (M := [b5_2, bo, bm, bx]) e140 kw [] in_nil (in_cons own_b5_2.lt (in_cons own_bo.lt (in_cons own_bm.lt (in_cons own_bx.lt in_nil))))
  replace e140 := ev; clear ev
  obtain ⟨cn140_69a, cn140_69c, ci140_69a, ci140_69c, ev, ht_v140_69, D_cn140_69, D_ci140_69⟩ := rdV_out D_v140_69
  subst ev; clear D_v140_69
  replace D_cn := sa_keepL D_cn hk (by simp)
  replace D_ci := sa_keepL D_ci hk (by simp)
  replace D_dn := sa_keepL D_dn hk (by simp)
  replace D_di := sa_keepL D_di hk (by simp)
  replace own_bx := own_keepL own_bx hk (by simp [hn1.symm, hn2.symm])
  replace own_b5_2 := own_keepL own_b5_2 hk (by simp [ne_bo_b5_2.symm, ne_bm_b5_2.symm])
  obtain ⟨own_bo, own_bm⟩ := hP
  replace own_bo : Own W69 bo [(.int .u8 (x.k)), (.int .i64 (x.n)), (.string (x.t)), (.slice cna (x.ns.length) cnc), (.slice cia (x.xs.length) cic), (.map (some bm)), (.int .i64 (tkE x e c.nm anyE))] 74 := own_bo
  replace own_bm : OwnM W69 bm (tkA x A e c.nm anyE) := own_bm
  replace kw := keeps_L kw hk (in_cons (.inr (by simp)) (in_cons (.inr (by simp)) in_nil))
  clear hR hk hg
  refine tail_reg 1 All y69 zz69 st_tr trivial rfl ?_
  refine .alloc z33 ?_
  refine .dn fun a70 g W70 y70 zz70 hk hg hV hR hP => ?_
  refine tail_nil ?_
  show runTail _ _ _ _ _ _
  obtain ⟨⟨b14_70, e14, hb14, own_b14_70⟩, -⟩ := hV
  have lo_b14_70 : w.heap.size ≤ b14_70 := Nat.le_trans kw.size (hg.lo _ _ hb14)
  have ne_bo_b14_70 : bo ≠ b14_70 := Nat.ne_of_lt (Nat.lt_of_lt_of_le own_bo.lt (hg.lo _ _ hb14))
  have ne_bm_b14_70 : bm ≠ b14_70 := Nat.ne_of_lt (Nat.lt_of_lt_of_le own_bm.lt (hg.lo _ _ hb14))
  have ne_bx_b14_70 : bx ≠ b14_70 := Nat.ne_of_lt (Nat.lt_of_lt_of_le own_bx.lt (hg.lo _ _ hb14))
  have ne_b5_2_b14_70 : b5_2 ≠ b14_70 := Nat.ne_of_lt (Nat.lt_of_lt_of_le own_b5_2.lt (hg.lo _ _ hb14))
  have own_b14_70 : Own W70 b14_70 [(.int .u8 (0)), (.int .i64 (0)), (.string (⟨#[]⟩)), (.slice none 0 0), (.slice none 0 0)] 33 := own_b14_70
  replace e1 := ft hR e1
  replace e5 := ft hR e5
  replace e140 := ft hR e140
  replace D_cn := sa_more D_cn hk [b14_70] (in_cons (hg.lo _ _ hb14) in_nil)
  replace D_ci := sa_more D_ci hk [b14_70] (in_cons (hg.lo _ _ hb14) in_nil)
  replace D_dn := sa_more D_dn hk [b14_70] (in_cons (hg.lo _ _ hb14) in_nil)
  replace D_di := sa_more D_di hk [b14_70] (in_cons (hg.lo _ _ hb14) in_nil)
  replace D_cn140_69 := sf_more D_cn140_69 hk [b14_70] (in_cons (hg.lo _ _ hb14) in_nil)
  replace D_ci140_69 := sf_more D_ci140_69 hk [b14_70] (in_cons (hg.lo _ _ hb14) in_nil)
  replace own_bo := own_bo.ext hk
  replace own_bm := own_bm.ext hk
  replace own_bx := own_bx.ext hk
  replace own_b5_2 := own_b5_2.ext hk
  replace kw := kw.x hk
  clear hR hk hg hP hb14
  refine tail_store e14 e140 sz33 rfl own_b14_70 (lbr rfl) (all_cons rfl (all_cons rfl (all_cons rfl (all_cons rfl (all_cons rfl all_nil))))) (fun W71 hs own_b14_70 => ?_)
  have own_b14_70 : Own W71 b14_70 [(.int .u8 ((if tkB x e c.nm anyE then getV x c.nm else ⟨0, 0, ⟨#[]⟩, [], []⟩).k)), (.int .i64 ((if tkB x e c.nm anyE then getV x c.nm else ⟨0, 0, ⟨#[]⟩, [], []⟩).n)), (.string ((if tkB x e c.nm anyE then getV x c.nm else ⟨0, 0, ⟨#[]⟩, [], []⟩).t)), (.slice cn140_69a (((if tkB x e c.nm anyE then getV x c.nm else ⟨0, 0, ⟨#[]⟩, [], []⟩).ns).length) cn140_69c), (.slice ci140_69a (((if tkB x e c.nm anyE then getV x c.nm else ⟨0, 0, ⟨#[]⟩, [], []⟩).xs).length) ci140_69c)] 33 := own_b14_70
  replace own_bo := own_store own_bo hs ne_bo_b14_70
  replace own_bm := ownM_store own_bm hs ne_bm_b14_70
  replace own_bx := own_store own_bx hs ne_bx_b14_70
  replace own_b5_2 := own_store own_b5_2 hs ne_b5_2_b14_70
  replace D_cn := sa_store D_cn hs (by simp)
  replace D_ci := sa_store D_ci hs (by simp)
  replace D_dn := sa_store D_dn hs (by simp)
  replace D_di := sa_store D_di hs (by simp)
  replace D_cn140_69 := sf_store D_cn140_69 hs (by simp)
  replace D_ci140_69 := sf_store D_ci140_69 hs (by simp)
  replace kw := keeps_store kw hs lo_b14_70
  clear hs
  refine zn (hK68 _ _ ?_)
  refine zq fun K72 hK72 => ?_
  refine wp_reg (fun k => k ∉ [bx]) (Ψ := fun W => Own W bx [(.int .u8 (y.k)), (.int .i64 (y.n)), (.string (y.t)), (.slice dna (y.ns.length) dnc), (.slice dia (y.xs.length) dic), (.slice none 0 0), (.int .i64 (0))] 56) mixed y70 zz70 stE_own own_bx ?_
  refine .i (v := (.agg #[(.int .u8 ((if tkB x e c.nm anyE then getV x c.nm else ⟨0, 0, ⟨#[]⟩, [], []⟩).k)), (.int .i64 ((if tkB x e c.nm anyE then getV x c.nm else ⟨0, 0, ⟨#[]⟩, [], []⟩).n)), (.string ((if tkB x e c.nm anyE then getV x c.nm else ⟨0, 0, ⟨#[]⟩, [], []⟩).t)), (.slice cn140_69a (((if tkB x e c.nm anyE then getV x c.nm else ⟨0, 0, ⟨#[]⟩, [], []⟩).ns).length) cn140_69c), (.slice ci140_69a (((if tkB x e c.nm anyE then getV x c.nm else ⟨0, 0, ⟨#[]⟩, [], []⟩).xs).length) ci140_69c)])) (loA (hbs rfl e14) own_b14_70 (by simp [ne_bx_b14_70.symm]) agg33 sz33 rfl rfl) ?_
  refine .mb rfl e1 ?_
  refine .i (fo 1 (hbs rfl e5) Try.underlying54 rfl sz9 rfl) ?_
  refine .i (lo1 (hlc rfl) own_b5_2 (by simp [ne_bx_b5_2.symm]) agg9 sz9 rfl) ?_
  refine .callL2 (φ1 := Is (.pointer (some ⟨bx, 0, none⟩))) (φ2 := Is (.string (c.nm))) (φ := IsD (SA w S [b14_70, b5_2, bo, bm, bx]) (V.d (rtV y c.nm 0))) (Ψ' := fun W => True) ent92 (hlc rfl) (hlc rfl) (st_d (sub_nl (by simp))) stE_tr (fun g u1 u2 W hk hg h1 h2 hP => by have h1 : u1 = _ := h1; subst u1; have h2 : u2 = _ := h2; subst u2; exact ((rAny_ok c.nm hnm (y) hyt W _ _ _ _ (fun b hb o h => (sa_notin (by simp : ∀ b ∈ [bx], b ∈ [b14_70, b5_2, bo, bm, bx])) b hb o h.1) (rd_base D_dn hk hg (sub_nl (by simp))) (rd_base D_di hk hg (sub_nl (by simp))) hP).mono fun _ _ ⟨v, h1, h2, h3⟩ => ⟨v, h1, h2, (fun h4 => rd_ar_sa kw (in_cons own_b14_70.lt (in_cons own_b5_2.lt (in_cons own_bo.lt (in_cons own_bm.lt (in_cons own_bx.lt in_nil))))) hk hg h4) h3, trivial⟩)) ?_
  refine .i (v := (.bool (V.beq ((if tkB x e c.nm anyE then getV x c.nm else ⟨0, 0, ⟨#[]⟩, [], []⟩)) (rtV y c.nm 0)))) (sp_call2 (φ1 := IsD (SA w S [b14_70, b5_2, bo, bm, bx]) (V.d ((if tkB x e c.nm anyE then getV x c.nm else ⟨0, 0, ⟨#[]⟩, [], []⟩)))) (φ2 := IsD (SA w S [b14_70, b5_2, bo, bm, bx]) (V.d (rtV y c.nm 0))) ent34 (((hlc rfl).dat (rdV_in (x := (if tkB x e c.nm anyE then getV x c.nm else ⟨0, 0, ⟨#[]⟩, [], []⟩)) ht_v140_69 D_cn140_69 D_ci140_69 : Rd W71 (SF w [b14_70, b5_2, bo, bm, bx]) (V.d ((if tkB x e c.nm anyE then getV x c.nm else ⟨0, 0, ⟨#[]⟩, [], []⟩))) _) (sub_nlF (by simp))).sup sf_in_sa) (hlc rfl) (fun g u1 u2 W hk hgk h1 h2 => refSame_all _ ((if tkB x e c.nm anyE then getV x c.nm else ⟨0, 0, ⟨#[]⟩, [], []⟩)) (rtV y c.nm 0) (Nat.le_refl _) (by first | omega | exact Nat.le_of_ble_eq_true (by kernel_rfl)) W _ _ _ h1 h2)) ?_
  refine .al rfl ?_
  refine .dn fun a73 g W73 y73 zz73 hk hg hV hR hP => ?_
  obtain ⟨e15, -, -, -, -, -, -, -⟩ := hV
  replace e14 := ft hR e14
  replace e15 := e15.q
  replace D_cn := sa_keepL D_cn hk (by simp)
  replace D_ci := sa_keepL D_ci hk (by simp)
  replace D_dn := sa_keepL D_dn hk (by simp)
  replace D_di := sa_keepL D_di hk (by simp)
  replace D_cn140_69 := sf_keepL D_cn140_69 hk (by simp)
  replace D_ci140_69 := sf_keepL D_ci140_69 hk (by simp)
  replace own_bo := own_keepL own_bo hk (by simp [hn1])
  replace own_bm := ownM_keepL own_bm hk (by simp [hn2])
  replace own_b5_2 := own_keepL own_b5_2 hk (by simp [ne_bx_b5_2.symm])
  replace own_b14_70 := own_keepL own_b14_70 hk (by simp [ne_bx_b14_70.symm])
  have own_bx := hP
  replace kw := keeps_L kw hk (in_cons (.inr (by simp)) in_nil)
  clear hR hk hg hP
  refine zn (hK72 _ _ ?_)
  refine zq fun K74 hK74 => ?_
  refine rg mixed y73 zz73 ?_
  refine .i (v := (.agg #[(.int .u8 ((if tkB x e c.nm anyE then getV x c.nm else ⟨0, 0, ⟨#[]⟩, [], []⟩).k)), (.int .i64 ((if tkB x e c.nm anyE then getV x c.nm else ⟨0, 0, ⟨#[]⟩, [], []⟩).n)), (.string ((if tkB x e c.nm anyE then getV x c.nm else ⟨0, 0, ⟨#[]⟩, [], []⟩).t)), (.slice cn140_69a (((if tkB x e c.nm anyE then getV x c.nm else ⟨0, 0, ⟨#[]⟩, [], []⟩).ns).length) cn140_69c), (.slice ci140_69a (((if tkB x e c.nm anyE then getV x c.nm else ⟨0, 0, ⟨#[]⟩, [], []⟩).xs).length) ci140_69c)])) (loA (hbs rfl e14) own_b14_70 trivial agg33 sz33 rfl rfl) ?_
  refine .da (X := SF w [b14_70, b5_2, bo, bm, bx]) (e := valsD ([(if tkB x e c.nm anyE then getV x c.nm else ⟨0, 0, ⟨#[]⟩, [], []⟩)])) (sp_bsl (ds := [V.d ((if tkB x e c.nm anyE then getV x c.nm else ⟨0, 0, ⟨#[]⟩, [], []⟩))]) Try.underlying31 sz33 z33 (lbr rfl) (lbr rfl) ⟨rfl, ((hlc rfl).dat (rdV_in (x := (if tkB x e c.nm anyE then getV x c.nm else ⟨0, 0, ⟨#[]⟩, [], []⟩)) ht_v140_69 D_cn140_69 D_ci140_69 : Rd W73 (SF w [b14_70, b5_2, bo, bm, bx]) (V.d ((if tkB x e c.nm anyE then getV x c.nm else ⟨0, 0, ⟨#[]⟩, [], []⟩))) _) sub_all), trivial⟩ rfl (by intro e he; simp at he; rcases he with rfl <;> exact width_V _) (fr_sf kw (in_cons own_b14_70.lt (in_cons own_b5_2.lt (in_cons own_bo.lt (in_cons own_bm.lt (in_cons (Nat.lt_of_lt_of_le lt_bx kw.size) in_nil))))))) ?_
  refine .dn fun a75 g W75 y75 zz75 hk hg hV hR hP => ?_
  obtain ⟨e148, -, -⟩ := hV
  replace e15 := ft hR e15
  replace D_cn := D_cn.ext hk
  replace D_ci := D_ci.ext hk
  replace D_dn := D_dn.ext hk
  replace D_di := D_di.ext hk
  replace D_cn140_69 := D_cn140_69.ext hk
  replace D_ci140_69 := D_ci140_69.ext hk
  obtain ⟨v148_75, ev⟩ : ∃ v, sl a75 148 = v := ⟨_, rfl⟩
  rw [ev] at e148
  have D_v148_75 : Rd W75 (SF w [b14_70, b5_2, bo, bm, bx]) (valsD ([(if tkB x e c.nm anyE then getV x c.nm else ⟨0, 0, ⟨#[]⟩, [], []⟩)])) v148_75 := sf_end e148 hk [] in_nil
  replace e148 := ev; clear ev
  obtain ⟨v148_75a, v148_75c, ev, D2⟩ := rdVs_out D_v148_75
  subst ev; replace D_v148_75 := D2; clear D2
  replace own_bo := own_bo.ext hk
  replace own_bm := own_bm.ext hk
  replace own_b5_2 := own_b5_2.ext hk
  replace own_b14_70 := own_b14_70.ext hk
  replace kw := kw.x hk
  clear hR hk hg hP
  have hml := rd_len D_v148_75
  have A_sp : LRow W75 w.heap.size ([(if tkB x e c.nm anyE then getV x c.nm else ⟨0, 0, ⟨#[]⟩, [], []⟩)]).length (.slice v148_75a (([(if tkB x e c.nm anyE then getV x c.nm else ⟨0, 0, ⟨#[]⟩, [], []⟩)]).length) v148_75c) := lrow_of D_v148_75 (fun b o h => ⟨h.1, h.2.1⟩) hl4
  refine tail_reg 1 (fun k => k < w.heap.size) (Ψ := fun W => LRow W w.heap.size ([(if tkB x e c.nm anyE then getV x c.nm else ⟨0, 0, ⟨#[]⟩, [], []⟩)]).length (.slice v148_75a (([(if tkB x e c.nm anyE then getV x c.nm else ⟨0, 0, ⟨#[]⟩, [], []⟩)]).length) v148_75c)) y75 zz75 (fun W W' k h => h.ext k) A_sp rfl ?_
  refine .callL1 (φ1 := Is (.slice v148_75a (([(if tkB x e c.nm anyE then getV x c.nm else ⟨0, 0, ⟨#[]⟩, [], []⟩)]).length) v148_75c)) (φ := Any) (Ψ' := Tr) ent88 (hbs rfl e148) st_any st_tr (fun g u1 W hk hg h1 hP => by have h1 : u1 = _ := h1; subst h1; exact (spoil11_ok w.heap.size (([(if tkB x e c.nm anyE then getV x c.nm else ⟨0, 0, ⟨#[]⟩, [], []⟩)]).length) hml _ _ W hP).mono fun e W' ⟨v, h2, h3, _⟩ => ⟨v, h2, h3, trivial, trivial⟩) ?_
  refine .dn fun a77 g W77 y77 zz77 hk hg hV hR hP => ?_
  refine tail_nil ?_
  show runTail _ _ _ _ _ _
  replace e15 := ft hR e15
  replace kw := keeps_below kw hk (Nat.le_refl _)
  replace own_bo := own_bo.keeps hk lt_bo
  replace own_bm := own_bm.keeps hk lt_bm
  clear hR hk hg hV hP
  refine zn (hK74 _ _ ?_)
  refine zq fun K78 hK78 => ?_
  refine rg mixed y77 zz77 ?_
  refine .mb rfl e15 ?_
  refine .al rfl ?_
  refine .dn fun a79 g W79 y79 zz79 hk hg hV hR hP => ?_
  obtain ⟨e6, -, -⟩ := hV
  replace e6 := e6.q
  replace own_bo := own_bo.ext hk
  replace own_bm := own_bm.ext hk
  replace kw := kw.x hk
  clear hR hk hg hP
  refine zn (hK78 _ _ ?_)
  refine wp_ret ?_
  refine ret1 rfl zz79 e6 ⟨_, rfl, kw, ?_⟩
  rw [hR, hE1, hA1]
  exact ⟨rfl, own_bo, own_bm⟩
 have n7 : ¬ c.wh = 7 := by have := ne_of_beq_false hc; omega
 refine zq fun K80 hK80 => ?_
 refine rg mixed y67 zz67 ?_
 refine .i (sp_eql (hbs rfl e17) Has.cst) ?_
 refine .al rfl ?_
 refine .dn fun a81 g W81 y81 zz81 hk hg hV hR hP => ?_
 obtain ⟨e151, -, -⟩ := hV
 replace e0 := ft hR e0
 replace e1 := ft hR e1
 replace e5 := ft hR e5
 replace D_cn := D_cn.ext hk
 replace D_ci := D_ci.ext hk
 replace D_dn := D_dn.ext hk
 replace D_di := D_di.ext hk
 replace e151 := e151.q
 replace own_bo := own_bo.ext hk
 replace own_bm := own_bm.ext hk
 replace own_bx := own_bx.ext hk
 replace own_b5_2 := own_b5_2.ext hk
 replace kw := kw.x hk
 clear hR hk hg hP
 refine zn (hK80 _ _ ?_)
 refine zc e151 (fun hc => ?_) (fun hc => ?_)
 ·
  have hw : c.wh = 8 := by have := eq_of_beq hc; omega
  have hR : aR x e y c = (true) := by rw [aR, if_neg n0, if_neg n1, if_neg n2, if_neg n3, if_neg n4, if_neg n5, if_neg n6, if_neg n7]
  have hE1 : qE x e c = failK x.k e c.er := by rw [qE, if_neg n0, if_neg n1, if_neg n2, if_neg n3, if_neg n4, if_neg n5, if_neg n6, if_neg n7, if_pos hw]
  have hA1 : qA x A e c = A := by rw [qA, if_neg n0, if_neg n1, if_neg n2, if_neg n3, if_neg n4, if_neg n5, if_neg n6, if_neg n7]
  refine zq fun K82 hK82 => ?_
  refine wp_reg (fun k => k ∉ [bo]) (Ψ := fun W => Own W bo [(.int .u8 (x.k)), (.int .i64 (x.n)), (.string (x.t)), (.slice cna (x.ns.length) cnc), (.slice cia (x.xs.length) cic), (.map (some bm)), (.int .i64 (e))] 74) mixed y81 zz81 stE_own own_bo ?_
  refine .mb rfl e0 ?_
  refine .i (fo 5 (hbs rfl e5) Try.underlying54 rfl sz28 rfl) ?_
  refine .i (lo1 (hlc rfl) own_b5_2 (by simp [ne_bo_b5_2.symm]) agg28 sz28 rfl) ?_
  refine .callL2 (φ1 := Is (.pointer (some ⟨bo, 0, none⟩))) (φ2 := Is (.int .i64 (c.er))) (φ := Is (.tuple #[])) (Ψ' := fun W => Own W bo [(.int .u8 (x.k)), (.int .i64 (x.n)), (.string (x.t)), (.slice cna (x.ns.length) cnc), (.slice cia (x.xs.length) cic), (.map (some bm)), (.int .i64 (failK x.k e c.er))] 74) ent22 (hlc rfl) (hlc rfl) (st_is _) stE_own (fun g u1 u2 W hk hg h1 h2 hP => by have h1 : u1 = _ := h1; subst u1; have h2 : u2 = _ := h2; subst u2; exact (Fail_ok _ _ _ _ _ _ _ (c.er) W _ hP)) ?_
  refine .dn fun a83 g W83 y83 zz83 hk hg hV hR hP => ?_
  obtain ⟨-, -, -, -, -⟩ := hV
  replace e1 := ft hR e1
  replace e5 := ft hR e5
  replace D_cn := sa_keepL D_cn hk (by simp)
  replace D_ci := sa_keepL D_ci hk (by simp)
  replace D_dn := sa_keepL D_dn hk (by simp)
  replace D_di := sa_keepL D_di hk (by simp)
  replace own_bm := ownM_keepL own_bm hk (by simp [hne.symm])
  replace own_bx := own_keepL own_bx hk (by simp [hn1.symm])
  replace own_b5_2 := own_keepL own_b5_2 hk (by simp [ne_bo_b5_2.symm])
  have own_bo := hP
  replace own_bo : Own W83 bo [(.int .u8 (x.k)), (.int .i64 (x.n)), (.string (x.t)), (.slice cna (x.ns.length) cnc), (.slice cia (x.xs.length) cic), (.map (some bm)), (.int .i64 (failK x.k e c.er))] 74 := own_bo
  replace kw := keeps_L kw hk (in_cons (.inr (by simp)) in_nil)
  clear hR hk hg hP
  refine zn (hK82 _ _ ?_)
  refine wp_reg (fun k => k ∉ [bx]) (Ψ := fun W => Own W bx [(.int .u8 (y.k)), (.int .i64 (y.n)), (.string (y.t)), (.slice dna (y.ns.length) dnc), (.slice dia (y.xs.length) dic), (.slice none 0 0), (.int .i64 (0))] 56) mixed y83 zz83 stE_own own_bx ?_
  refine .mb rfl e1 ?_
  refine .i (fo 5 (hbs rfl e5) Try.underlying54 rfl sz28 rfl) ?_
  refine .i (lo1 (hlc rfl) own_b5_2 (by simp [ne_bx_b5_2.symm]) agg28 sz28 rfl) ?_
  refine .callL2 (φ1 := Is (.pointer (some ⟨bx, 0, none⟩))) (φ2 := Is (.int .i64 (c.er))) (φ := Is (.tuple #[])) (Ψ' := fun W => True) ent93 (hlc rfl) (hlc rfl) (st_is _) stE_tr (fun g u1 u2 W hk hg h1 h2 hP => by have h1 : u1 = _ := h1; subst u1; have h2 : u2 = _ := h2; subst u2; exact ((rFail_ok c.er (y) hyt W _ _ _ _ (fun b hb o h => (sa_notin (by simp : ∀ b ∈ [bx], b ∈ [b5_2, bo, bm, bx])) b hb o h.1) (rd_base D_dn hk hg (sub_nl (by simp))) (rd_base D_di hk hg (sub_nl (by simp))) hP).mono fun _ _ ⟨v, h1, h2, h3⟩ => ⟨v, h1, h2, h3, trivial⟩)) ?_
  refine .dn fun a84 g W84 y84 zz84 hk hg hV hR hP => ?_
  obtain ⟨-, -, -, -, -⟩ := hV
  replace D_cn := sa_keepL D_cn hk (by simp)
  replace D_ci := sa_keepL D_ci hk (by simp)
  replace D_dn := sa_keepL D_dn hk (by simp)
  replace D_di := sa_keepL D_di hk (by simp)
  replace own_bo := own_keepL own_bo hk (by simp [hn1])
  replace own_bm := ownM_keepL own_bm hk (by simp [hn2])
  replace own_b5_2 := own_keepL own_b5_2 hk (by simp [ne_bx_b5_2.symm])
  have own_bx := hP
  replace kw := keeps_L kw hk (in_cons (.inr (by simp)) in_nil)
  clear hR hk hg hP
  refine zn (hK3 _ _ ?_)
  refine zq fun K85 hK85 => ?_
  refine rg mixed y84 zz84 ?_
  refine .ac ?_
  refine .dn fun a86 g W86 y86 zz86 hk hg hV hR hP => ?_
  obtain ⟨e6, -⟩ := hV
  replace D_cn := D_cn.ext hk
  replace D_ci := D_ci.ext hk
  replace D_dn := D_dn.ext hk
  replace D_di := D_di.ext hk
  replace e6 := e6.q
  replace own_bo := own_bo.ext hk
  replace own_bm := own_bm.ext hk
  replace own_b5_2 := own_b5_2.ext hk
  replace kw := kw.x hk
  clear hR hk hg hP
  refine zn (hK85 _ _ ?_)
  refine wp_ret ?_
  refine ret1 rfl zz86 e6 ⟨_, rfl, kw, ?_⟩
  rw [hR, hE1, hA1]
  exact ⟨rfl, own_bo, own_bm⟩
 have n8 : ¬ c.wh = 8 := by have := ne_of_beq_false hc; omega
 have hR : aR x e y c = true := by rw [aR, if_neg n0, if_neg n1, if_neg n2, if_neg n3, if_neg n4, if_neg n5, if_neg n6, if_neg n7]
 have hE1 : qE x e c = e := by rw [qE, if_neg n0, if_neg n1, if_neg n2, if_neg n3, if_neg n4, if_neg n5, if_neg n6, if_neg n7, if_neg n8]
 have hA1 : qA x A e c = A := by rw [qA, if_neg n0, if_neg n1, if_neg n2, if_neg n3, if_neg n4, if_neg n5, if_neg n6, if_neg n7]
 refine wp_skip (hK3 _ _ ?_)
 refine zq fun K87 hK87 => ?_
 refine rg mixed y81 zz81 ?_
 refine .ac ?_
 refine .dn fun a88 g W88 y88 zz88 hk hg hV hR hP => ?_
 obtain ⟨e6, -⟩ := hV
 replace D_cn := D_cn.ext hk
 replace D_ci := D_ci.ext hk
 replace D_dn := D_dn.ext hk
 replace D_di := D_di.ext hk
 replace e6 := e6.q
 replace own_bo := own_bo.ext hk
 replace own_bm := own_bm.ext hk
 replace own_bx := own_bx.ext hk
 replace own_b5_2 := own_b5_2.ext hk
 replace kw := kw.x hk
 clear hR hk hg hP
 refine zn (hK87 _ _ ?_)
 refine wp_ret ?_
 refine ret1 rfl zz88 e6 ⟨_, rfl, kw, ?_⟩
 rw [hR, hE1, hA1]
 exact ⟨rfl, own_bo, own_bm⟩
end Go.Proofs.Ytnobijngkpflcaa
namespace Go.Eng
structure Pn where
  c : Cl
  e : Int
def Pn.d (a : Pn) : D := .agg [a.c.d, .int .i64 a.e]
def pnsD (l : List Pn) : D := .lst 7 (l.map Pn.d)
section
variable {W : World} {S : BSet} {v : Value}
theorem rdPns_out {l : List Pn} (h : Rd W S (pnsD l) v) : ∃ ad cap, v = .slice ad l.length cap ∧ Rd W S (pnsD l) (.slice ad l.length cap) := rdL_out (by simp) h
theorem rdcCl {x : Cl} {c1 c2 c3 c4 c5 c6 : Value} (h : Rd W S x.d (.agg #[c1, c2, c3, c4, c5, c6])) : RdC W S x.d [c1, c2, c3, c4, c5, c6] := by
  obtain ⟨cs, h1, h2⟩ := h
  have h3 : Value.agg #[c1, c2, c3, c4, c5, c6] = .agg cs.toArray := h2
  injection h3 with h3
  have h4 := congrArg Array.toList h3
  have h5 : cs = [c1, c2, c3, c4, c5, c6] := h4.symm
  rw [← h5]; exact h1
theorem rdPn_out {a : Pn} (h : Rd W S a.d v) : v = .agg #[.int .u8 a.c.wh, .string a.c.nm, .int .i64 a.c.lo, .int .i64 a.c.hi, .int .i64 a.c.mo, .int .i64 a.c.er, .int .i64 a.e] ∧ a.c.nm.size ≤ maxLen := by
  obtain ⟨cs, h1, rfl⟩ := h
  simp only [Pn.d, RdC, RdF] at h1
  obtain ⟨c1, _, rfl, h2, _, _, rfl, rfl, rfl⟩ := h1
  obtain ⟨h3, h4⟩ := rdCl_out (v := .agg c1.toArray) ⟨c1, h2, rfl⟩
  injection h3 with h3
  have h5 := congrArg Array.toList h3
  have h6 : c1 = [.int .u8 a.c.wh, .string a.c.nm, .int .i64 a.c.lo, .int .i64 a.c.hi, .int .i64 a.c.mo, .int .i64 a.c.er] := h5
  subst h6
  exact ⟨rfl, h4⟩
theorem rdPn_mk {e : Int} {x : Cl} {c1 c2 c3 c4 c5 c6 : Value} (hv : Rd W S x.d (.agg #[c1, c2, c3, c4, c5, c6])) : Rd W S (Pn.d ⟨x, e⟩) (.agg #[c1, c2, c3, c4, c5, c6, .int .i64 e]) :=
  ⟨[c1, c2, c3, c4, c5, c6, .int .i64 e], by simp only [Pn.d, RdC, RdF]; exact ⟨[c1, c2, c3, c4, c5, c6], [_], rfl, rdcCl hv, [_], [], rfl, rfl, rfl⟩, rfl⟩
theorem width_Pn (a : Pn) : width a.d = 7 := by simp [Pn.d, width, widths, width_Cl]
end
abbrev pnV : V := objM [Mb.mk (⟨#[110]⟩) (V.mk (2) (7) (⟨#[]⟩) ([]) ([])), Mb.mk (⟨#[108]⟩) (V.mk 4 0 ⟨#[]⟩ [] [V.mk (3) (0) (⟨#[120]⟩) ([]) ([]), V.mk (3) (0) (⟨#[121]⟩) ([]) ([])]), Mb.mk (⟨#[98]⟩) (V.mk (1) (1) (⟨#[]⟩) ([]) ([])), Mb.mk (⟨#[]⟩) (V.mk (3) (0) (⟨#[]⟩) ([]) ([]))]
def rowP (r : Pn) : Bool := aR pnV 0 pnV r.c && leafA pnV 0 r.c && decide (errK pnV.k (qE pnV 0 r.c) = r.e) && (rlL pnV r.c.nm r.c.mo).length.ble 1073741824 && r.c.nm.size.ble 100
theorem rowP_get {l : List Pn} (h : l.all rowP = true) {k : Nat} (hk : k < l.length) : aR pnV 0 pnV l[k].c = true ∧ leafA pnV 0 l[k].c = true ∧ errK pnV.k (qE pnV 0 l[k].c) = l[k].e ∧ (rlL pnV l[k].c.nm l[k].c.mo).length ≤ 1073741824 ∧ l[k].c.nm.size ≤ maxLen := by
  have h1 := List.all_eq_true.1 h _ (List.getElem_mem hk)
  simp only [rowP, Bool.and_eq_true, decide_eq_true_eq] at h1
  exact ⟨h1.1.1.1.1, h1.1.1.1.2, h1.1.1.2, Nat.le_of_ble_eq_true h1.1.2, Nat.le_trans (Nat.le_of_ble_eq_true h1.2) (by decide)⟩
theorem wts_of {l : List V} (h : l.all (fun q => q.wt.ble 1073741824) = true) : ∀ q ∈ l, q.wt ≤ 1073741824 := fun q hq => Nat.le_of_ble_eq_true (List.all_eq_true.1 h q hq)
section
variable {P : Program} {ops : Array Oper} {S : Nat → Prop} {w0 : World} {a0 : Act} {Γ : Ctx}
variable {d : Option Tmp} {ty : TypeId} {pos : String} {af : Array Edge} {gd : Option (Nat × Bool)}
theorem sp_field1 {x : Operand} {T f : Nat} {fs : Array Field} {fd : Field} {vs : Array Value} {v : Value} (hx : Has S w0 a0 Γ x (Is (.agg vs))) (hT : P.underlying T = some (.struct fs)) (hf : fs[f]? = some fd) (ha : aggB P fd.type = some false) (hv : vs[fd.offset]? = some v) :
    Spec P ops S w0 a0 Γ ⟨d, .field T x f, ty, pos, af, gd⟩ (Is v) := sp_val fun a g W hk hg he => by
  have e1 : a.eval x = .agg vs := hx.of_env hk hg he (by simp [Op.operands])
  simp [execOp, e1, Instr.field, run_und hT, hf, part, run_aggB ha, asAgg, hv]
end
end Go.Eng
namespace Go.Proofs.Ytnobijngkpflcaa
open Go.Eng
set_option maxRecDepth 100000 in
theorem ErrN_ok (w : World) : Calls Try.prog 24 #[.pointer none] w (Ret w fun u _ => u = .int .i64 2) := by
 refine enter Try.func24 rfl Try.ntmps24 (lbr rfl) fun a0 y0 zz0 harg => ?_
 have e0 : sl a0 0 = (.pointer none) := harg 0 (lbr rfl)
 have kw := Keeps.refl All w
 clear harg
 refine zq fun K1 hK1 => ?_
 refine rg mixed y0 zz0 ?_
 refine .ac ?_
 refine .dn fun a2 g W2 y2 zz2 hk hg hV hR hP => ?_
 obtain ⟨-, -⟩ := hV
 replace e0 := ft hR e0
 replace kw := kw.x hk
 clear hR hk hg hP
 refine zn (hK1 _ _ ?_)
 refine zq fun K3 hK3 => ?_
 refine zq fun K4 hK4 => ?_
 refine rg mixed y2 zz2 ?_
 refine .mb rfl e0 ?_
 refine .i (v := (.bool (true))) (sp_nilEq Try.underlying40 (hlc rfl) Has.cst (by simp) rfl) ?_
 refine .dn fun a5 g W5 y5 zz5 hk hg hV hR hP => ?_
 obtain ⟨e4, -, -⟩ := hV
 replace e0 := ft hR e0
 replace e4 := e4.q
 replace kw := kw.x hk
 clear hR hk hg hP
 refine zn (hK4 _ _ ?_)
 refine wp_cond_true e4 ?_
 refine zq fun K6 hK6 => ?_
 refine rg mixed y5 zz5 ?_
 refine .ac ?_
 refine .dn fun a7 g W7 y7 zz7 hk hg hV hR hP => ?_
 obtain ⟨e2, -⟩ := hV
 replace e2 := e2.q
 replace kw := kw.x hk
 clear hR hk hg hP
 refine zn (hK6 _ _ ?_)
 refine wp_ret ?_
 refine ret1 rfl zz7 e2 ⟨_, rfl, kw, ?_⟩
 exact rfl
set_option maxRecDepth 100000 in
theorem FailN_ok (f : Int) (w : World) : Calls Try.prog 22 #[.pointer none, .int .i64 f] w (Ret w fun u _ => u = .tuple #[]) := by
 refine enter Try.func22 rfl Try.ntmps22 (lbr rfl) fun a0 y0 zz0 harg => ?_
 have e0 : sl a0 0 = (.pointer none) := harg 0 (lbr rfl)
 have e1 : sl a0 1 = (.int .i64 (f)) := harg 1 (lbr rfl)
 have kw := Keeps.refl All w
 clear harg
 refine zq fun K1 hK1 => ?_
 refine rg mixed y0 zz0 ?_
 refine .mb rfl e0 ?_
 refine .i (v := (.int .i64 (2))) (sp_call1 (φ1 := Is (.pointer none)) ent24 (hlc rfl) (fun g u1 W hk hgk h1 => by have h1 : u1 = _ := h1; subst u1; exact ErrN_ok W)) ?_
 refine .i (sp_eql (hlc rfl) Has.cst) ?_
 refine .dn fun a2 g W2 y2 zz2 hk hg hV hR hP => ?_
 obtain ⟨e6, -, -, -⟩ := hV
 replace e0 := ft hR e0
 replace e1 := ft hR e1
 replace e6 := e6.q
 replace kw := kw.x hk
 clear hR hk hg hP
 refine zn (hK1 _ _ ?_)
 refine wp_cond_false (e6.trans (congrArg Value.bool (by decide))) ?_
 refine wp_skip ?_
 refine ret0 rfl zz2 ⟨_, rfl, kw, ?_⟩
 exact rfl
set_option maxRecDepth 100000 in
theorem takeSN_ok (name : ByteArray) (fv : Value) (w : World) : Calls Try.prog 98 #[.pointer none, .string name, fv] w (Ret w fun u _ => u = .slice none 0 0) := by
 refine enter Try.func98 rfl Try.ntmps98 (lbr rfl) fun a0 y0 zz0 harg => ?_
 have e0 : sl a0 0 = (.pointer none) := harg 0 (lbr rfl)
 have e1 : sl a0 1 = (.string (name)) := harg 1 (lbr rfl)
 have e2 : sl a0 2 = fv := harg 2 (lbr rfl)
 have kw := Keeps.refl All w
 clear harg
 refine zq fun K1 hK1 => ?_
 refine rg mixed y0 zz0 ?_
 refine .ac ?_
 refine .dn fun a2 g W2 y2 zz2 hk hg hV hR hP => ?_
 obtain ⟨-, -⟩ := hV
 replace e0 := ft hR e0
 replace e1 := ft hR e1
 replace e2 := ft hR e2
 replace kw := kw.x hk
 clear hR hk hg hP
 refine zn (hK1 _ _ ?_)
 refine zq fun K3 hK3 => ?_
 refine rg mixed y2 zz2 ?_
 refine .ac ?_
 refine .dn fun a4 g W4 y4 zz4 hk hg hV hR hP => ?_
 obtain ⟨e7, -⟩ := hV
 replace e0 := ft hR e0
 replace e1 := ft hR e1
 replace e2 := ft hR e2
 replace e7 := e7.q
 replace kw := kw.x hk
 clear hR hk hg hP
 refine zn (hK3 _ _ ?_)
 refine zq fun K5 hK5 => ?_
 refine zq fun K6 hK6 => ?_
 refine rg mixed y4 zz4 ?_
 refine .mb rfl e0 ?_
 refine .i (v := (.int .i64 (2))) (sp_call1 (φ1 := Is (.pointer none)) ent24 (hlc rfl) (fun g u1 W hk hgk h1 => by have h1 : u1 = _ := h1; subst u1; exact ErrN_ok W)) ?_
 refine .i (sp_neq (hlc rfl) Has.cst) ?_
 refine .dn fun a7 g W7 y7 zz7 hk hg hV hR hP => ?_
 obtain ⟨e14, -, -, -⟩ := hV
 replace e0 := ft hR e0
 replace e1 := ft hR e1
 replace e2 := ft hR e2
 replace e7 := ft hR e7
 replace e14 := e14.q
 replace kw := kw.x hk
 clear hR hk hg hP
 refine zn (hK6 _ _ ?_)
 refine wp_cond_true (e14.trans (congrArg Value.bool (by decide))) ?_
 refine zq fun K8 hK8 => ?_
 refine rg mixed y7 zz7 ?_
 refine .mb rfl e7 ?_
 refine .al rfl ?_
 refine .dn fun a9 g W9 y9 zz9 hk hg hV hR hP => ?_
 obtain ⟨e6, -, -⟩ := hV
 replace e6 := e6.q
 replace kw := kw.x hk
 clear hR hk hg hP
 refine zn (hK8 _ _ ?_)
 refine wp_ret ?_
 refine ret1 rfl zz9 e6 ⟨_, rfl, kw, ?_⟩
 exact rfl
set_option maxRecDepth 100000 in
theorem takeIN_ok (name : ByteArray) (fv : Value) (w : World) : Calls Try.prog 104 #[.pointer none, .string name, fv] w (Ret w fun u _ => u = .int .i64 0) := by
 refine enter Try.func104 rfl Try.ntmps104 (lbr rfl) fun a0 y0 zz0 harg => ?_
 have e0 : sl a0 0 = (.pointer none) := harg 0 (lbr rfl)
 have e1 : sl a0 1 = (.string (name)) := harg 1 (lbr rfl)
 have e2 : sl a0 2 = fv := harg 2 (lbr rfl)
 have kw := Keeps.refl All w
 clear harg
 refine zq fun K1 hK1 => ?_
 refine rg mixed y0 zz0 ?_
 refine .ac ?_
 refine .dn fun a2 g W2 y2 zz2 hk hg hV hR hP => ?_
 obtain ⟨-, -⟩ := hV
 replace e0 := ft hR e0
 replace e1 := ft hR e1
 replace e2 := ft hR e2
 replace kw := kw.x hk
 clear hR hk hg hP
 refine zn (hK1 _ _ ?_)
 refine zq fun K3 hK3 => ?_
 refine rg mixed y2 zz2 ?_
 refine .ac ?_
 refine .dn fun a4 g W4 y4 zz4 hk hg hV hR hP => ?_
 obtain ⟨e7, -⟩ := hV
 replace e0 := ft hR e0
 replace e1 := ft hR e1
 replace e2 := ft hR e2
 replace e7 := e7.q
 replace kw := kw.x hk
 clear hR hk hg hP
 refine zn (hK3 _ _ ?_)
 refine zq fun K5 hK5 => ?_
 refine zq fun K6 hK6 => ?_
 refine rg mixed y4 zz4 ?_
 refine .mb rfl e0 ?_
 refine .i (v := (.int .i64 (2))) (sp_call1 (φ1 := Is (.pointer none)) ent24 (hlc rfl) (fun g u1 W hk hgk h1 => by have h1 : u1 = _ := h1; subst u1; exact ErrN_ok W)) ?_
 refine .i (sp_neq (hlc rfl) Has.cst) ?_
 refine .dn fun a7 g W7 y7 zz7 hk hg hV hR hP => ?_
 obtain ⟨e14, -, -, -⟩ := hV
 replace e0 := ft hR e0
 replace e1 := ft hR e1
 replace e2 := ft hR e2
 replace e7 := ft hR e7
 replace e14 := e14.q
 replace kw := kw.x hk
 clear hR hk hg hP
 refine zn (hK6 _ _ ?_)
 refine wp_cond_true (e14.trans (congrArg Value.bool (by decide))) ?_
 refine zq fun K8 hK8 => ?_
 refine rg mixed y7 zz7 ?_
 refine .mb rfl e7 ?_
 refine .al rfl ?_
 refine .dn fun a9 g W9 y9 zz9 hk hg hV hR hP => ?_
 obtain ⟨e6, -, -⟩ := hV
 replace e6 := e6.q
 replace kw := kw.x hk
 clear hR hk hg hP
 refine zn (hK8 _ _ ?_)
 refine wp_ret ?_
 refine ret1 rfl zz9 e6 ⟨_, rfl, kw, ?_⟩
 exact rfl
set_option maxRecDepth 100000 in
theorem TextsN_ok (name : ByteArray) (most : Int) (w : World) : Calls Try.prog 41 #[.pointer none, .string name, .int .i64 most] w (Ret w fun u _ => u = .slice none 0 0) := by
 refine enter Try.func41 rfl Try.ntmps41 (lbr rfl) fun a0 y0 zz0 harg => ?_
 have e0 : sl a0 0 = (.pointer none) := harg 0 (lbr rfl)
 have e1 : sl a0 1 = (.string (name)) := harg 1 (lbr rfl)
 have e2 : sl a0 2 = (.int .i64 (most)) := harg 2 (lbr rfl)
 have kw := Keeps.refl All w
 clear harg
 refine zq fun K1 hK1 => ?_
 refine rg mixed y0 zz0 ?_
 refine .boxOp (v := (.int .i64 (most))) (hbs rfl e2) ?_
 refine .ac ?_
 refine .dn fun a2 g W2 y2 zz2 hk hg hV hR hP => ?_
 obtain ⟨-, ⟨b5_2, e5, hb5, own_b5_2⟩, -⟩ := hV
 have lo_b5_2 : w.heap.size ≤ b5_2 := Nat.le_trans kw.size (hg.lo _ _ hb5)
 have own_b5_2 : Own W2 b5_2 [(.int .i64 (most))] 3 := own_b5_2
 replace e0 := ft hR e0
 replace e1 := ft hR e1
 replace kw := kw.x hk
 clear hR hk hg hP hb5
 refine zn (hK1 _ _ ?_)
 refine zq fun K3 hK3 => ?_
 refine rg mixed y2 zz2 ?_
 refine .mb rfl e0 ?_
 refine .mb rfl e1 ?_
 refine .i (v := (.func (.func 99) #[] #[(.pointer (some ⟨b5_2, 0, none⟩))])) (sp_mkF1 (hbs rfl e5)) ?_
 refine .i (v := (.slice none 0 0)) (sp_call3 (φ1 := Is (.pointer none)) (φ2 := Is (.string (name))) (φ3 := Is (.func (.func 99) #[] #[(.pointer (some ⟨b5_2, 0, none⟩))])) ent98 (hlc rfl) (hlc rfl) (hlc rfl) (fun g u1 u2 u3 W hk hgk h1 h2 h3 => by have h1 : u1 = _ := h1; subst u1; have h2 : u2 = _ := h2; subst u2; have h3 : u3 = _ := h3; subst u3; exact takeSN_ok _ _ W)) ?_
 refine .al rfl ?_
 refine .dn fun a4 g W4 y4 zz4 hk hg hV hR hP => ?_
 obtain ⟨e6, -, -, -, -, -⟩ := hV
 replace e6 := e6.q
 replace own_b5_2 := own_b5_2.ext hk
 replace kw := kw.x hk
 clear hR hk hg hP
 refine zn (hK3 _ _ ?_)
 refine wp_ret ?_
 refine ret1 rfl zz4 e6 ⟨_, rfl, kw, ?_⟩
 exact rfl
set_option maxRecDepth 100000 in
theorem NumN_ok (name : ByteArray) (lo hi : Int) (w : World) : Calls Try.prog 44 #[.pointer none, .string name, .int .i64 lo, .int .i64 hi] w (Ret w fun u _ => u = .int .i64 0) := by
 refine enter Try.func44 rfl Try.ntmps44 (lbr rfl) fun a0 y0 zz0 harg => ?_
 have e0 : sl a0 0 = (.pointer none) := harg 0 (lbr rfl)
 have e1 : sl a0 1 = (.string (name)) := harg 1 (lbr rfl)
 have e2 : sl a0 2 = (.int .i64 (lo)) := harg 2 (lbr rfl)
 have e3 : sl a0 3 = (.int .i64 (hi)) := harg 3 (lbr rfl)
 have kw := Keeps.refl All w
 clear harg
 refine zq fun K1 hK1 => ?_
 refine rg mixed y0 zz0 ?_
 refine .boxOp (v := (.int .i64 (lo))) (hbs rfl e2) ?_
 refine .boxOp (v := (.int .i64 (hi))) (hbs rfl e3) ?_
 refine .ac ?_
 refine .dn fun a2 g W2 y2 zz2 hk hg hV hR hP => ?_
 obtain ⟨-, ⟨b7_2, e7, hb7, own_b7_2⟩, ⟨b6_2, e6, hb6, own_b6_2⟩, -⟩ := hV
 have lo_b7_2 : w.heap.size ≤ b7_2 := Nat.le_trans kw.size (hg.lo _ _ hb7)
 have own_b7_2 : Own W2 b7_2 [(.int .i64 (hi))] 2 := own_b7_2
 have lo_b6_2 : w.heap.size ≤ b6_2 := Nat.le_trans kw.size (hg.lo _ _ hb6)
 have own_b6_2 : Own W2 b6_2 [(.int .i64 (lo))] 2 := own_b6_2
 have ne_b7_2_b6_2 : b7_2 ≠ b6_2 := fun h => by have := hg.inj _ _ _ hb7 (h ▸ hb6); cases this
 replace e0 := ft hR e0
 replace e1 := ft hR e1
 replace kw := kw.x hk
 clear hR hk hg hP hb7 hb6
 refine zn (hK1 _ _ ?_)
 refine zq fun K3 hK3 => ?_
 refine rg mixed y2 zz2 ?_
 refine .mb rfl e0 ?_
 refine .mb rfl e1 ?_
 refine .i (v := (.func (.func 105) #[] #[(.pointer (some ⟨b6_2, 0, none⟩)), (.pointer (some ⟨b7_2, 0, none⟩))])) (sp_mkF2 (hbs rfl e6) (hbs rfl e7)) ?_
 refine .i (v := (.int .i64 (0))) (sp_call3 (φ1 := Is (.pointer none)) (φ2 := Is (.string (name))) (φ3 := Is (.func (.func 105) #[] #[(.pointer (some ⟨b6_2, 0, none⟩)), (.pointer (some ⟨b7_2, 0, none⟩))])) ent104 (hlc rfl) (hlc rfl) (hlc rfl) (fun g u1 u2 u3 W hk hgk h1 h2 h3 => by have h1 : u1 = _ := h1; subst u1; have h2 : u2 = _ := h2; subst u2; have h3 : u3 = _ := h3; subst u3; exact takeIN_ok _ _ W)) ?_
 refine .al rfl ?_
 refine .dn fun a4 g W4 y4 zz4 hk hg hV hR hP => ?_
 obtain ⟨e8, -, -, -, -, -⟩ := hV
 replace e8 := e8.q
 replace own_b7_2 := own_b7_2.ext hk
 replace own_b6_2 := own_b6_2.ext hk
 replace kw := kw.x hk
 clear hR hk hg hP
 refine zn (hK3 _ _ ?_)
 refine wp_ret ?_
 refine ret1 rfl zz4 e8 ⟨_, rfl, kw, ?_⟩
 exact rfl
end Go.Proofs.Ytnobijngkpflcaa
namespace Go.Eng
def NV (u : World) : Nat → Value → Prop
  | 0, _ => True
  | n + 1, v => ∀ a len cap, v = .slice (some a) len cap → ∀ i, i < len → (a.block < u.heap.size ∧ u.frozen? ⟨a.block, a.off + i * 5, none⟩ = false ∧ ∀ c, u.cell? ⟨a.block, a.off + i * 5 + 4, none⟩ = some c → NV u n c)
def AV (u : World) (v : Value) : Prop := ∀ n, NV u n v
def QV (u : World) (b o : Nat) : Prop := b < u.heap.size ∧ u.frozen? ⟨b, o, none⟩ = false ∧ ∀ c, u.cell? ⟨b, o + 4, none⟩ = some c → AV u c
theorem AV.idx {u : World} {a : Addr} {len cap i : Nat} (h : AV u (.slice (some a) len cap)) (hi : i < len) : QV u a.block (a.off + i * 5) :=
  ⟨(h 1 a len cap rfl i hi).1, (h 1 a len cap rfl i hi).2.1, fun c hc n => (h (n + 1) a len cap rfl i hi).2.2 c hc⟩
section
variable {P : Program} {ops : Array Oper} {S : Nat → Prop} {w0 : World} {a0 : Act} {Γ : Ctx}
variable {d : Option Tmp} {ty : TypeId} {pos : String} {af : Array Edge} {gd : Option (Nat × Bool)}
def Abv (W : World) (q : Value) : Prop := q = .pointer none ∨ ∃ b o c T f, q = .pointer (some ⟨b, o, none⟩) ∧ W.heap[b]? = some (.cells c T f)
theorem Abv.ext {W W' : World} {q : Value} (h : Abv W q) (k : Ext W W') : Abv W' q := by
  rcases h with h | ⟨b, o, c, T, f, h1, h2⟩
  · exact .inl h
  · exact .inr ⟨b, o, c, T, f, h1, by rw [k.block b (Array.getElem?_eq_some_iff.1 h2).1 trivial]; exact h2⟩
end
end Go.Eng
namespace Go.Eng
structure Cp (x y : V) : Prop where
  k : y.k = x.k
  n : y.n = x.n
  t : y.t = x.t
  ns : y.ns = x.ns
  len : y.xs.length = x.xs.length
  at' : ∀ i (h : i < x.xs.length) (h2 : i < y.xs.length), y.xs[i] = x.xs[i] ∨ y.xs[i] = V.zero
theorem Cp.refl (x : V) : Cp x x := ⟨rfl, rfl, rfl, rfl, rfl, fun _ _ _ => .inl rfl⟩
theorem cp_wts : ∀ (a b : List V), b.length = a.length → (∀ i (h : i < a.length) (h2 : i < b.length), b[i] = a[i] ∨ b[i] = V.zero) → V.wts b ≤ V.wts a
  | [], [], _, _ => Nat.le_refl _
  | [], _ :: _, h, _ => by simp at h
  | _ :: _, [], h, _ => by simp at h
  | x :: a, y :: b, h, hi => by
    have h1 := cp_wts a b (by simpa using h) fun i h1 h2 => hi (i + 1) (by simpa using h1) (by simpa using h2)
    have h2 : y.wt ≤ x.wt := by
      rcases hi 0 (by simp) (by simp) with h3 | h3
      · have h3 : y = x := h3
        rw [h3]; exact Nat.le_refl _
      · have h3 : y = V.zero := h3
        rw [h3]; exact wt_pos x
    simp only [V.wts]; omega
theorem Cp.wt {x y : V} (h : Cp x y) : y.wt ≤ x.wt := by
  have h1 := cp_wts x.xs y.xs h.len h.at'
  have h2 := wt_eq x
  have h3 := wt_eq y
  rw [h.t, h.ns] at h3
  omega
end Go.Eng
namespace Go.Eng
structure Vo where
  r : Rc
  repo : ByteArray
def Vo.d (a : Vo) : D := .agg [a.r.d, .str a.repo]
structure To where
  repo : ByteArray
  r : Rc
def To.d (a : To) : D := .agg [.str a.repo, a.r.d]
def Rc.zero : Rc := ⟨0, [], V.zero⟩
end Go.Eng
namespace Go.Eng
def NBox (w0 W : World) (cs : List Value) (T : TypeId) (u : Value) : Prop := ∃ bo, u = .pointer (some ⟨bo, 0, none⟩) ∧ w0.heap.size ≤ bo ∧ Own W bo cs T
def IsNB (w0 : World) (cs : List Value) (T : TypeId) : Fact := fun _ u W => NBox w0 W cs T u
theorem st_nb {w0 : World} {cs : List Value} {T : TypeId} : Stable All (IsNB w0 cs T) := ⟨fun _ _ _ _ k ⟨bo, h1, h2, h3⟩ => ⟨bo, h1, h2, h3.ext k⟩, fun _ _ _ _ _ _ h => h⟩
theorem nb_up {w0 W W' : World} {cs : List Value} {T : TypeId} {u : Value} (k : Keeps All w0 W) (h : NBox W W' cs T u) : NBox w0 W' cs T u := by
  obtain ⟨bo, h1, h2, h3⟩ := h
  exact ⟨bo, h1, Nat.le_trans k.size h2, h3⟩
end Go.Eng
namespace Go.Proofs.Ytnobijngkpflcaa
open Go.Eng
set_option maxRecDepth 100000 in
theorem takeTN_ok (name : ByteArray) (fv : Value) (w : World) : Calls Try.prog 102 #[.pointer none, .string name, fv] w (Ret w fun u _ => u = .string ⟨#[]⟩) := by
 refine enter Try.func102 rfl Try.ntmps102 (lbr rfl) fun a0 y0 zz0 harg => ?_
 have e0 : sl a0 0 = (.pointer none) := harg 0 (lbr rfl)
 have e1 : sl a0 1 = (.string (name)) := harg 1 (lbr rfl)
 have e2 : sl a0 2 = fv := harg 2 (lbr rfl)
 have kw := Keeps.refl All w
 clear harg
 refine zq fun K1 hK1 => ?_
 refine rg mixed y0 zz0 ?_
 refine .ac ?_
 refine .dn fun a2 g W2 y2 zz2 hk hg hV hR hP => ?_
 obtain ⟨-, -⟩ := hV
 replace e0 := ft hR e0
 replace e1 := ft hR e1
 replace e2 := ft hR e2
 replace kw := kw.x hk
 clear hR hk hg hP
 refine zn (hK1 _ _ ?_)
 refine zq fun K3 hK3 => ?_
 refine rg mixed y2 zz2 ?_
 refine .ac ?_
 refine .dn fun a4 g W4 y4 zz4 hk hg hV hR hP => ?_
 obtain ⟨e7, -⟩ := hV
 replace e0 := ft hR e0
 replace e1 := ft hR e1
 replace e2 := ft hR e2
 replace e7 := e7.q
 replace kw := kw.x hk
 clear hR hk hg hP
 refine zn (hK3 _ _ ?_)
 refine zq fun K5 hK5 => ?_
 refine zq fun K6 hK6 => ?_
 refine rg mixed y4 zz4 ?_
 refine .mb rfl e0 ?_
 refine .i (v := (.int .i64 (2))) (sp_call1 (φ1 := Is (.pointer none)) ent24 (hlc rfl) (fun g u1 W hk hgk h1 => by have h1 : u1 = _ := h1; subst u1; exact ErrN_ok W)) ?_
 refine .i (sp_neq (hlc rfl) Has.cst) ?_
 refine .dn fun a7 g W7 y7 zz7 hk hg hV hR hP => ?_
 obtain ⟨e14, -, -, -⟩ := hV
 replace e0 := ft hR e0
 replace e1 := ft hR e1
 replace e2 := ft hR e2
 replace e7 := ft hR e7
 replace e14 := e14.q
 replace kw := kw.x hk
 clear hR hk hg hP
 refine zn (hK6 _ _ ?_)
 refine wp_cond_true (e14.trans (congrArg Value.bool (by decide))) ?_
 refine zq fun K8 hK8 => ?_
 refine rg mixed y7 zz7 ?_
 refine .mb rfl e7 ?_
 refine .al rfl ?_
 refine .dn fun a9 g W9 y9 zz9 hk hg hV hR hP => ?_
 obtain ⟨e6, -, -⟩ := hV
 replace e6 := e6.q
 replace kw := kw.x hk
 clear hR hk hg hP
 refine zn (hK8 _ _ ?_)
 refine wp_ret ?_
 refine ret1 rfl zz9 e6 ⟨_, rfl, kw, ?_⟩
 exact rfl
set_option maxRecDepth 100000 in
theorem takeBN_ok (name : ByteArray) (fv : Value) (w : World) : Calls Try.prog 106 #[.pointer none, .string name, fv] w (Ret w fun u _ => u = .bool false) := by
 refine enter Try.func106 rfl Try.ntmps106 (lbr rfl) fun a0 y0 zz0 harg => ?_
 have e0 : sl a0 0 = (.pointer none) := harg 0 (lbr rfl)
 have e1 : sl a0 1 = (.string (name)) := harg 1 (lbr rfl)
 have e2 : sl a0 2 = fv := harg 2 (lbr rfl)
 have kw := Keeps.refl All w
 clear harg
 refine zq fun K1 hK1 => ?_
 refine rg mixed y0 zz0 ?_
 refine .ac ?_
 refine .dn fun a2 g W2 y2 zz2 hk hg hV hR hP => ?_
 obtain ⟨-, -⟩ := hV
 replace e0 := ft hR e0
 replace e1 := ft hR e1
 replace e2 := ft hR e2
 replace kw := kw.x hk
 clear hR hk hg hP
 refine zn (hK1 _ _ ?_)
 refine zq fun K3 hK3 => ?_
 refine rg mixed y2 zz2 ?_
 refine .ac ?_
 refine .dn fun a4 g W4 y4 zz4 hk hg hV hR hP => ?_
 obtain ⟨e7, -⟩ := hV
 replace e0 := ft hR e0
 replace e1 := ft hR e1
 replace e2 := ft hR e2
 replace e7 := e7.q
 replace kw := kw.x hk
 clear hR hk hg hP
 refine zn (hK3 _ _ ?_)
 refine zq fun K5 hK5 => ?_
 refine zq fun K6 hK6 => ?_
 refine rg mixed y4 zz4 ?_
 refine .mb rfl e0 ?_
 refine .i (v := (.int .i64 (2))) (sp_call1 (φ1 := Is (.pointer none)) ent24 (hlc rfl) (fun g u1 W hk hgk h1 => by have h1 : u1 = _ := h1; subst u1; exact ErrN_ok W)) ?_
 refine .i (sp_neq (hlc rfl) Has.cst) ?_
 refine .dn fun a7 g W7 y7 zz7 hk hg hV hR hP => ?_
 obtain ⟨e14, -, -, -⟩ := hV
 replace e0 := ft hR e0
 replace e1 := ft hR e1
 replace e2 := ft hR e2
 replace e7 := ft hR e7
 replace e14 := e14.q
 replace kw := kw.x hk
 clear hR hk hg hP
 refine zn (hK6 _ _ ?_)
 refine wp_cond_true (e14.trans (congrArg Value.bool (by decide))) ?_
 refine zq fun K8 hK8 => ?_
 refine rg mixed y7 zz7 ?_
 refine .mb rfl e7 ?_
 refine .al rfl ?_
 refine .dn fun a9 g W9 y9 zz9 hk hg hV hR hP => ?_
 obtain ⟨e6, -, -⟩ := hV
 replace e6 := e6.q
 replace kw := kw.x hk
 clear hR hk hg hP
 refine zn (hK8 _ _ ?_)
 refine wp_ret ?_
 refine ret1 rfl zz9 e6 ⟨_, rfl, kw, ?_⟩
 exact rfl
set_option maxRecDepth 100000 in
theorem takeLN_ok (name : ByteArray) (fv : Value) (w : World) : Calls Try.prog 108 #[.pointer none, .string name, fv] w (Ret w fun u _ => u = .slice none 0 0) := by
 refine enter Try.func108 rfl Try.ntmps108 (lbr rfl) fun a0 y0 zz0 harg => ?_
 have e0 : sl a0 0 = (.pointer none) := harg 0 (lbr rfl)
 have e1 : sl a0 1 = (.string (name)) := harg 1 (lbr rfl)
 have e2 : sl a0 2 = fv := harg 2 (lbr rfl)
 have kw := Keeps.refl All w
 clear harg
 refine zq fun K1 hK1 => ?_
 refine rg mixed y0 zz0 ?_
 refine .ac ?_
 refine .dn fun a2 g W2 y2 zz2 hk hg hV hR hP => ?_
 obtain ⟨-, -⟩ := hV
 replace e0 := ft hR e0
 replace e1 := ft hR e1
 replace e2 := ft hR e2
 replace kw := kw.x hk
 clear hR hk hg hP
 refine zn (hK1 _ _ ?_)
 refine zq fun K3 hK3 => ?_
 refine rg mixed y2 zz2 ?_
 refine .ac ?_
 refine .dn fun a4 g W4 y4 zz4 hk hg hV hR hP => ?_
 obtain ⟨e7, -⟩ := hV
 replace e0 := ft hR e0
 replace e1 := ft hR e1
 replace e2 := ft hR e2
 replace e7 := e7.q
 replace kw := kw.x hk
 clear hR hk hg hP
 refine zn (hK3 _ _ ?_)
 refine zq fun K5 hK5 => ?_
 refine zq fun K6 hK6 => ?_
 refine rg mixed y4 zz4 ?_
 refine .mb rfl e0 ?_
 refine .i (v := (.int .i64 (2))) (sp_call1 (φ1 := Is (.pointer none)) ent24 (hlc rfl) (fun g u1 W hk hgk h1 => by have h1 : u1 = _ := h1; subst u1; exact ErrN_ok W)) ?_
 refine .i (sp_neq (hlc rfl) Has.cst) ?_
 refine .dn fun a7 g W7 y7 zz7 hk hg hV hR hP => ?_
 obtain ⟨e14, -, -, -⟩ := hV
 replace e0 := ft hR e0
 replace e1 := ft hR e1
 replace e2 := ft hR e2
 replace e7 := ft hR e7
 replace e14 := e14.q
 replace kw := kw.x hk
 clear hR hk hg hP
 refine zn (hK6 _ _ ?_)
 refine wp_cond_true (e14.trans (congrArg Value.bool (by decide))) ?_
 refine zq fun K8 hK8 => ?_
 refine rg mixed y7 zz7 ?_
 refine .mb rfl e7 ?_
 refine .al rfl ?_
 refine .dn fun a9 g W9 y9 zz9 hk hg hV hR hP => ?_
 obtain ⟨e6, -, -⟩ := hV
 replace e6 := e6.q
 replace kw := kw.x hk
 clear hR hk hg hP
 refine zn (hK8 _ _ ?_)
 refine wp_ret ?_
 refine ret1 rfl zz9 e6 ⟨_, rfl, kw, ?_⟩
 exact rfl
set_option maxRecDepth 100000 in
theorem takeVN_ok (name : ByteArray) (fv : Value) (w : World) : Calls Try.prog 110 #[.pointer none, .string name, fv] w (Ret w fun u _ => u = .agg #[.int .u8 0, .int .i64 0, .string ⟨#[]⟩, .slice none 0 0, .slice none 0 0]) := by
 refine enter Try.func110 rfl Try.ntmps110 (lbr rfl) fun a0 y0 zz0 harg => ?_
 have e0 : sl a0 0 = (.pointer none) := harg 0 (lbr rfl)
 have e1 : sl a0 1 = (.string (name)) := harg 1 (lbr rfl)
 have e2 : sl a0 2 = fv := harg 2 (lbr rfl)
 have kw := Keeps.refl All w
 clear harg
 refine zq fun K1 hK1 => ?_
 refine rg mixed y0 zz0 ?_
 refine .alloc z33 ?_
 refine .dn fun a2 g W2 y2 zz2 hk hg hV hR hP => ?_
 obtain ⟨⟨b6_2, e6, hb6, own_b6_2⟩, -⟩ := hV
 have lo_b6_2 : w.heap.size ≤ b6_2 := Nat.le_trans kw.size (hg.lo _ _ hb6)
 have own_b6_2 : Own W2 b6_2 [(.int .u8 (0)), (.int .i64 (0)), (.string (⟨#[]⟩)), (.slice none 0 0), (.slice none 0 0)] 33 := own_b6_2
 replace e0 := ft hR e0
 replace e1 := ft hR e1
 replace e2 := ft hR e2
 replace kw := kw.x hk
 clear hR hk hg hP hb6
 refine zn (hK1 _ _ ?_)
 refine zq fun K3 hK3 => ?_
 refine rg mixed y2 zz2 ?_
 refine .alloc z33 ?_
 refine .dn fun a4 g W4 y4 zz4 hk hg hV hR hP => ?_
 obtain ⟨⟨b7_4, e7, hb7, own_b7_4⟩, -⟩ := hV
 have lo_b7_4 : w.heap.size ≤ b7_4 := Nat.le_trans kw.size (hg.lo _ _ hb7)
 have ne_b6_2_b7_4 : b6_2 ≠ b7_4 := Nat.ne_of_lt (Nat.lt_of_lt_of_le own_b6_2.lt (hg.lo _ _ hb7))
 have own_b7_4 : Own W4 b7_4 [(.int .u8 (0)), (.int .i64 (0)), (.string (⟨#[]⟩)), (.slice none 0 0), (.slice none 0 0)] 33 := own_b7_4
 replace e0 := ft hR e0
 replace e1 := ft hR e1
 replace e2 := ft hR e2
 replace e6 := ft hR e6
 replace own_b6_2 := own_b6_2.ext hk
 replace kw := kw.x hk
 clear hR hk hg hP hb7
 refine zn (hK3 _ _ ?_)
 refine zq fun K5 hK5 => ?_
 refine zq fun K6 hK6 => ?_
 refine rg mixed y4 zz4 ?_
 refine .mb rfl e0 ?_
 refine .i (v := (.int .i64 (2))) (sp_call1 (φ1 := Is (.pointer none)) ent24 (hlc rfl) (fun g u1 W hk hgk h1 => by have h1 : u1 = _ := h1; subst u1; exact ErrN_ok W)) ?_
 refine .i (sp_neq (hlc rfl) Has.cst) ?_
 refine .dn fun a7 g W7 y7 zz7 hk hg hV hR hP => ?_
 obtain ⟨e14, -, -, -⟩ := hV
 replace e0 := ft hR e0
 replace e1 := ft hR e1
 replace e2 := ft hR e2
 replace e6 := ft hR e6
 replace e7 := ft hR e7
 replace e14 := e14.q
 replace own_b6_2 := own_b6_2.ext hk
 replace own_b7_4 := own_b7_4.ext hk
 replace kw := kw.x hk
 clear hR hk hg hP
 refine zn (hK6 _ _ ?_)
 refine wp_cond_true (e14.trans (congrArg Value.bool (by decide))) ?_
 refine zq fun K8 hK8 => ?_
 refine rg mixed y7 zz7 ?_
 refine .i (v := (.agg #[(.int .u8 (0)), (.int .i64 (0)), (.string (⟨#[]⟩)), (.slice none 0 0), (.slice none 0 0)])) (loA (hbs rfl e7) own_b7_4 trivial agg33 sz33 rfl rfl) ?_
 refine .dn fun a9 g W9 y9 zz9 hk hg hV hR hP => ?_
 obtain ⟨e15, -⟩ := hV
 replace e6 := ft hR e6
 replace e15 := e15.q
 replace own_b6_2 := own_b6_2.ext hk
 replace own_b7_4 := own_b7_4.ext hk
 replace kw := kw.x hk
 clear hR hk hg hP
 refine tail_store e6 e15 sz33 rfl own_b6_2 (lbr rfl) (all_cons rfl (all_cons rfl (all_cons rfl (all_cons rfl (all_cons rfl all_nil))))) (fun W10 hs own_b6_2 => ?_)
 have own_b6_2 : Own W10 b6_2 [(.int .u8 (0)), (.int .i64 (0)), (.string (⟨#[]⟩)), (.slice none 0 0), (.slice none 0 0)] 33 := own_b6_2
 replace own_b7_4 := own_store own_b7_4 hs ne_b6_2_b7_4.symm
 replace kw := keeps_store kw hs lo_b6_2
 clear hs
 refine zn (hK8 _ _ ?_)
 refine wp_ret ?_
 refine retC (v := (.agg #[(.int .u8 (0)), (.int .i64 (0)), (.string (⟨#[]⟩)), (.slice none 0 0), (.slice none 0 0)])) rfl zz9 e6 own_b6_2 agg33 sz33 rfl (fun h => by cases h) rfl ⟨_, rfl, kw, ?_⟩
 exact rfl
set_option maxRecDepth 100000 in
theorem TextN_ok (name : ByteArray) (w : World) : Calls Try.prog 43 #[.pointer none, .string name] w (Ret w fun u _ => u = .string ⟨#[]⟩) := by
 refine enter Try.func43 rfl Try.ntmps43 (lbr rfl) fun a0 y0 zz0 harg => ?_
 have e0 : sl a0 0 = (.pointer none) := harg 0 (lbr rfl)
 have e1 : sl a0 1 = (.string (name)) := harg 1 (lbr rfl)
 have kw := Keeps.refl All w
 clear harg
 refine zq fun K1 hK1 => ?_
 refine rg mixed y0 zz0 ?_
 refine .ac ?_
 refine .dn fun a2 g W2 y2 zz2 hk hg hV hR hP => ?_
 obtain ⟨-, -⟩ := hV
 replace e0 := ft hR e0
 replace e1 := ft hR e1
 replace kw := kw.x hk
 clear hR hk hg hP
 refine zn (hK1 _ _ ?_)
 refine zq fun K3 hK3 => ?_
 refine rg mixed y2 zz2 ?_
 refine .mb rfl e0 ?_
 refine .mb rfl e1 ?_
 refine .i (v := (.string (⟨#[]⟩))) (sp_call3 (φ1 := Is (.pointer none)) (φ2 := Is (.string (name))) (φ3 := Is (.func (.func 103) #[] #[])) ent102 (hlc rfl) (hlc rfl) Has.fn (fun g u1 u2 u3 W hk hgk h1 h2 h3 => by have h1 : u1 = _ := h1; subst u1; have h2 : u2 = _ := h2; subst u2; have h3 : u3 = _ := h3; subst u3; exact takeTN_ok _ _ W)) ?_
 refine .al rfl ?_
 refine .dn fun a4 g W4 y4 zz4 hk hg hV hR hP => ?_
 obtain ⟨e4, -, -, -, -⟩ := hV
 replace e4 := e4.q
 replace kw := kw.x hk
 clear hR hk hg hP
 refine zn (hK3 _ _ ?_)
 refine wp_ret ?_
 refine ret1 rfl zz4 e4 ⟨_, rfl, kw, ?_⟩
 exact rfl
set_option maxRecDepth 100000 in
theorem BoolN_ok (name : ByteArray) (w : World) : Calls Try.prog 45 #[.pointer none, .string name] w (Ret w fun u _ => u = .bool false) := by
 refine enter Try.func45 rfl Try.ntmps45 (lbr rfl) fun a0 y0 zz0 harg => ?_
 have e0 : sl a0 0 = (.pointer none) := harg 0 (lbr rfl)
 have e1 : sl a0 1 = (.string (name)) := harg 1 (lbr rfl)
 have kw := Keeps.refl All w
 clear harg
 refine zq fun K1 hK1 => ?_
 refine rg mixed y0 zz0 ?_
 refine .ac ?_
 refine .dn fun a2 g W2 y2 zz2 hk hg hV hR hP => ?_
 obtain ⟨-, -⟩ := hV
 replace e0 := ft hR e0
 replace e1 := ft hR e1
 replace kw := kw.x hk
 clear hR hk hg hP
 refine zn (hK1 _ _ ?_)
 refine zq fun K3 hK3 => ?_
 refine rg mixed y2 zz2 ?_
 refine .mb rfl e0 ?_
 refine .mb rfl e1 ?_
 refine .i (v := (.bool (false))) (sp_call3 (φ1 := Is (.pointer none)) (φ2 := Is (.string (name))) (φ3 := Is (.func (.func 107) #[] #[])) ent106 (hlc rfl) (hlc rfl) Has.fn (fun g u1 u2 u3 W hk hgk h1 h2 h3 => by have h1 : u1 = _ := h1; subst u1; have h2 : u2 = _ := h2; subst u2; have h3 : u3 = _ := h3; subst u3; exact takeBN_ok _ _ W)) ?_
 refine .al rfl ?_
 refine .dn fun a4 g W4 y4 zz4 hk hg hV hR hP => ?_
 obtain ⟨e4, -, -, -, -⟩ := hV
 replace e4 := e4.q
 replace kw := kw.x hk
 clear hR hk hg hP
 refine zn (hK3 _ _ ?_)
 refine wp_ret ?_
 refine ret1 rfl zz4 e4 ⟨_, rfl, kw, ?_⟩
 exact rfl
set_option maxRecDepth 100000 in
theorem AnyN_ok (name : ByteArray) (w : World) : Calls Try.prog 48 #[.pointer none, .string name] w (Ret w fun u _ => u = .agg #[.int .u8 0, .int .i64 0, .string ⟨#[]⟩, .slice none 0 0, .slice none 0 0]) := by
 refine enter Try.func48 rfl Try.ntmps48 (lbr rfl) fun a0 y0 zz0 harg => ?_
 have e0 : sl a0 0 = (.pointer none) := harg 0 (lbr rfl)
 have e1 : sl a0 1 = (.string (name)) := harg 1 (lbr rfl)
 have kw := Keeps.refl All w
 clear harg
 refine zq fun K1 hK1 => ?_
 refine rg mixed y0 zz0 ?_
 refine .alloc z33 ?_
 refine .dn fun a2 g W2 y2 zz2 hk hg hV hR hP => ?_
 obtain ⟨⟨b4_2, e4, hb4, own_b4_2⟩, -⟩ := hV
 have lo_b4_2 : w.heap.size ≤ b4_2 := Nat.le_trans kw.size (hg.lo _ _ hb4)
 have own_b4_2 : Own W2 b4_2 [(.int .u8 (0)), (.int .i64 (0)), (.string (⟨#[]⟩)), (.slice none 0 0), (.slice none 0 0)] 33 := own_b4_2
 replace e0 := ft hR e0
 replace e1 := ft hR e1
 replace kw := kw.x hk
 clear hR hk hg hP hb4
 refine zn (hK1 _ _ ?_)
 refine zq fun K3 hK3 => ?_
 refine rg mixed y2 zz2 ?_
 refine .mb rfl e0 ?_
 refine .mb rfl e1 ?_
 refine .i (v := (.agg #[(.int .u8 (0)), (.int .i64 (0)), (.string (⟨#[]⟩)), (.slice none 0 0), (.slice none 0 0)])) (sp_call3 (φ1 := Is (.pointer none)) (φ2 := Is (.string (name))) (φ3 := Is (.func (.func 112) #[] #[])) ent110 (hlc rfl) (hlc rfl) Has.fn (fun g u1 u2 u3 W hk hgk h1 h2 h3 => by have h1 : u1 = _ := h1; subst u1; have h2 : u2 = _ := h2; subst u2; have h3 : u3 = _ := h3; subst u3; exact takeVN_ok _ _ W)) ?_
 refine .dn fun a4 g W4 y4 zz4 hk hg hV hR hP => ?_
 obtain ⟨e7, -, -, -⟩ := hV
 replace e4 := ft hR e4
 replace e7 := e7.q
 replace own_b4_2 := own_b4_2.ext hk
 replace kw := kw.x hk
 clear hR hk hg hP
 refine tail_store e4 e7 sz33 rfl own_b4_2 (lbr rfl) (all_cons rfl (all_cons rfl (all_cons rfl (all_cons rfl (all_cons rfl all_nil))))) (fun W5 hs own_b4_2 => ?_)
 have own_b4_2 : Own W5 b4_2 [(.int .u8 (0)), (.int .i64 (0)), (.string (⟨#[]⟩)), (.slice none 0 0), (.slice none 0 0)] 33 := own_b4_2
 replace kw := keeps_store kw hs lo_b4_2
 clear hs
 refine zn (hK3 _ _ ?_)
 refine wp_ret ?_
 refine retC (v := (.agg #[(.int .u8 (0)), (.int .i64 (0)), (.string (⟨#[]⟩)), (.slice none 0 0), (.slice none 0 0)])) rfl zz4 e4 own_b4_2 agg33 sz33 rfl (fun h => by cases h) rfl ⟨_, rfl, kw, ?_⟩
 exact rfl
set_option maxRecDepth 100000 in
theorem HasN_ok (name : ByteArray) (w : World) : Calls Try.prog 42 #[.pointer none, .string name] w (Ret w fun u _ => u = .bool false) := by
 refine enter Try.func42 rfl Try.ntmps42 (lbr rfl) fun a0 y0 zz0 harg => ?_
 have e0 : sl a0 0 = (.pointer none) := harg 0 (lbr rfl)
 have e1 : sl a0 1 = (.string (name)) := harg 1 (lbr rfl)
 have kw := Keeps.refl All w
 clear harg
 refine zq fun K1 hK1 => ?_
 refine rg mixed y0 zz0 ?_
 refine .ac ?_
 refine .dn fun a2 g W2 y2 zz2 hk hg hV hR hP => ?_
 obtain ⟨-, -⟩ := hV
 replace e0 := ft hR e0
 replace e1 := ft hR e1
 replace kw := kw.x hk
 clear hR hk hg hP
 refine zn (hK1 _ _ ?_)
 refine zq fun K3 hK3 => ?_
 refine zq fun K4 hK4 => ?_
 refine rg mixed y2 zz2 ?_
 refine .mb rfl e0 ?_
 refine .i (v := (.int .i64 (2))) (sp_call1 (φ1 := Is (.pointer none)) ent24 (hlc rfl) (fun g u1 W hk hgk h1 => by have h1 : u1 = _ := h1; subst u1; exact ErrN_ok W)) ?_
 refine .i (sp_neq (hlc rfl) Has.cst) ?_
 refine .dn fun a5 g W5 y5 zz5 hk hg hV hR hP => ?_
 obtain ⟨e9, -, -, -⟩ := hV
 replace e0 := ft hR e0
 replace e1 := ft hR e1
 replace e9 := e9.q
 replace kw := kw.x hk
 clear hR hk hg hP
 refine zn (hK4 _ _ ?_)
 refine wp_cond_true (e9.trans (congrArg Value.bool (by decide))) ?_
 refine zq fun K6 hK6 => ?_
 refine rg mixed y5 zz5 ?_
 refine .ac ?_
 refine .dn fun a7 g W7 y7 zz7 hk hg hV hR hP => ?_
 obtain ⟨e4, -⟩ := hV
 replace e4 := e4.q
 replace kw := kw.x hk
 clear hR hk hg hP
 refine zn (hK6 _ _ ?_)
 refine wp_ret ?_
 refine ret1 rfl zz7 e4 ⟨_, rfl, kw, ?_⟩
 exact rfl
set_option maxRecDepth 100000 in
theorem ListN_ok (name : ByteArray) (most : Int) (w : World) : Calls Try.prog 46 #[.pointer none, .string name, .int .i64 most] w (Ret w fun u _ => u = .slice none 0 0) := by
 refine enter Try.func46 rfl Try.ntmps46 (lbr rfl) fun a0 y0 zz0 harg => ?_
 have e0 : sl a0 0 = (.pointer none) := harg 0 (lbr rfl)
 have e1 : sl a0 1 = (.string (name)) := harg 1 (lbr rfl)
 have e2 : sl a0 2 = (.int .i64 (most)) := harg 2 (lbr rfl)
 have kw := Keeps.refl All w
 clear harg
 refine zq fun K1 hK1 => ?_
 refine rg mixed y0 zz0 ?_
 refine .boxOp (v := (.int .i64 (most))) (hbs rfl e2) ?_
 refine .ac ?_
 refine .dn fun a2 g W2 y2 zz2 hk hg hV hR hP => ?_
 obtain ⟨-, ⟨b5_2, e5, hb5, own_b5_2⟩, -⟩ := hV
 have lo_b5_2 : w.heap.size ≤ b5_2 := Nat.le_trans kw.size (hg.lo _ _ hb5)
 have own_b5_2 : Own W2 b5_2 [(.int .i64 (most))] 3 := own_b5_2
 replace e0 := ft hR e0
 replace e1 := ft hR e1
 replace kw := kw.x hk
 clear hR hk hg hP hb5
 refine zn (hK1 _ _ ?_)
 refine zq fun K3 hK3 => ?_
 refine rg mixed y2 zz2 ?_
 refine .mb rfl e0 ?_
 refine .mb rfl e1 ?_
 refine .i (v := (.func (.func 109) #[] #[(.pointer (some ⟨b5_2, 0, none⟩))])) (sp_mkF1 (hbs rfl e5)) ?_
 refine .i (v := (.slice none 0 0)) (sp_call3 (φ1 := Is (.pointer none)) (φ2 := Is (.string (name))) (φ3 := Is (.func (.func 109) #[] #[(.pointer (some ⟨b5_2, 0, none⟩))])) ent108 (hlc rfl) (hlc rfl) (hlc rfl) (fun g u1 u2 u3 W hk hgk h1 h2 h3 => by have h1 : u1 = _ := h1; subst u1; have h2 : u2 = _ := h2; subst u2; have h3 : u3 = _ := h3; subst u3; exact takeLN_ok _ _ W)) ?_
 refine .al rfl ?_
 refine .dn fun a4 g W4 y4 zz4 hk hg hV hR hP => ?_
 obtain ⟨e6, -, -, -, -, -⟩ := hV
 replace e6 := e6.q
 replace own_b5_2 := own_b5_2.ext hk
 replace kw := kw.x hk
 clear hR hk hg hP
 refine zn (hK3 _ _ ?_)
 refine wp_ret ?_
 refine ret1 rfl zz4 e6 ⟨_, rfl, kw, ?_⟩
 exact rfl
set_option maxRecDepth 100000 in
theorem ObjectN_ok (name : ByteArray) (most : Int) (w : World) : Calls Try.prog 47 #[.pointer none, .string name, .int .i64 most] w (Ret w fun u _ => u = .agg #[.int .u8 0, .int .i64 0, .string ⟨#[]⟩, .slice none 0 0, .slice none 0 0]) := by
 refine enter Try.func47 rfl Try.ntmps47 (lbr rfl) fun a0 y0 zz0 harg => ?_
 have e0 : sl a0 0 = (.pointer none) := harg 0 (lbr rfl)
 have e1 : sl a0 1 = (.string (name)) := harg 1 (lbr rfl)
 have e2 : sl a0 2 = (.int .i64 (most)) := harg 2 (lbr rfl)
 have kw := Keeps.refl All w
 clear harg
 refine zq fun K1 hK1 => ?_
 refine rg mixed y0 zz0 ?_
 refine .boxOp (v := (.int .i64 (most))) (hbs rfl e2) ?_
 refine .alloc z33 ?_
 refine .dn fun a2 g W2 y2 zz2 hk hg hV hR hP => ?_
 obtain ⟨⟨b6_2, e6, hb6, own_b6_2⟩, ⟨b5_2, e5, hb5, own_b5_2⟩, -⟩ := hV
 have lo_b6_2 : w.heap.size ≤ b6_2 := Nat.le_trans kw.size (hg.lo _ _ hb6)
 have own_b6_2 : Own W2 b6_2 [(.int .u8 (0)), (.int .i64 (0)), (.string (⟨#[]⟩)), (.slice none 0 0), (.slice none 0 0)] 33 := own_b6_2
 have lo_b5_2 : w.heap.size ≤ b5_2 := Nat.le_trans kw.size (hg.lo _ _ hb5)
 have own_b5_2 : Own W2 b5_2 [(.int .i64 (most))] 3 := own_b5_2
 have ne_b6_2_b5_2 : b6_2 ≠ b5_2 := fun h => by have := hg.inj _ _ _ hb6 (h ▸ hb5); cases this
 replace e0 := ft hR e0
 replace e1 := ft hR e1
 replace kw := kw.x hk
 clear hR hk hg hP hb6 hb5
 refine zn (hK1 _ _ ?_)
 refine zq fun K3 hK3 => ?_
 refine rg mixed y2 zz2 ?_
 refine .mb rfl e0 ?_
 refine .mb rfl e1 ?_
 refine .i (v := (.func (.func 111) #[] #[(.pointer (some ⟨b5_2, 0, none⟩))])) (sp_mkF1 (hbs rfl e5)) ?_
 refine .i (v := (.agg #[(.int .u8 (0)), (.int .i64 (0)), (.string (⟨#[]⟩)), (.slice none 0 0), (.slice none 0 0)])) (sp_call3 (φ1 := Is (.pointer none)) (φ2 := Is (.string (name))) (φ3 := Is (.func (.func 111) #[] #[(.pointer (some ⟨b5_2, 0, none⟩))])) ent110 (hlc rfl) (hlc rfl) (hlc rfl) (fun g u1 u2 u3 W hk hgk h1 h2 h3 => by have h1 : u1 = _ := h1; subst u1; have h2 : u2 = _ := h2; subst u2; have h3 : u3 = _ := h3; subst u3; exact takeVN_ok _ _ W)) ?_
 refine .dn fun a4 g W4 y4 zz4 hk hg hV hR hP => ?_
 obtain ⟨e10, -, -, -, -⟩ := hV
 replace e6 := ft hR e6
 replace e10 := e10.q
 replace own_b6_2 := own_b6_2.ext hk
 replace own_b5_2 := own_b5_2.ext hk
 replace kw := kw.x hk
 clear hR hk hg hP
 refine tail_store e6 e10 sz33 rfl own_b6_2 (lbr rfl) (all_cons rfl (all_cons rfl (all_cons rfl (all_cons rfl (all_cons rfl all_nil))))) (fun W5 hs own_b6_2 => ?_)
 have own_b6_2 : Own W5 b6_2 [(.int .u8 (0)), (.int .i64 (0)), (.string (⟨#[]⟩)), (.slice none 0 0), (.slice none 0 0)] 33 := own_b6_2
 replace own_b5_2 := own_store own_b5_2 hs ne_b6_2_b5_2.symm
 replace kw := keeps_store kw hs lo_b6_2
 clear hs
 refine zn (hK3 _ _ ?_)
 refine wp_ret ?_
 refine retC (v := (.agg #[(.int .u8 (0)), (.int .i64 (0)), (.string (⟨#[]⟩)), (.slice none 0 0), (.slice none 0 0)])) rfl zz4 e6 own_b6_2 agg33 sz33 rfl (fun h => by cases h) rfl ⟨_, rfl, kw, ?_⟩
 exact rfl
set_option maxRecDepth 100000 in
theorem DoneN_ok (w : World) : Calls Try.prog 32 #[.pointer none] w (Ret w fun u _ => u = .int .i64 2) := by
 refine enter Try.func32 rfl Try.ntmps32 (lbr rfl) fun a0 y0 zz0 harg => ?_
 have e0 : sl a0 0 = (.pointer none) := harg 0 (lbr rfl)
 have kw := Keeps.refl All w
 clear harg
 refine zq fun K1 hK1 => ?_
 refine rg mixed y0 zz0 ?_
 refine .ac ?_
 refine .dn fun a2 g W2 y2 zz2 hk hg hV hR hP => ?_
 obtain ⟨-, -⟩ := hV
 replace e0 := ft hR e0
 replace kw := kw.x hk
 clear hR hk hg hP
 refine zn (hK1 _ _ ?_)
 refine zq fun K3 hK3 => ?_
 refine zq fun K4 hK4 => ?_
 refine rg mixed y2 zz2 ?_
 refine .mb rfl e0 ?_
 refine .i (v := (.int .i64 (2))) (sp_call1 (φ1 := Is (.pointer none)) ent24 (hlc rfl) (fun g u1 W hk hgk h1 => by have h1 : u1 = _ := h1; subst u1; exact ErrN_ok W)) ?_
 refine .al rfl ?_
 refine .dn fun a5 g W5 y5 zz5 hk hg hV hR hP => ?_
 obtain ⟨e3, -, -, -⟩ := hV
 replace e0 := ft hR e0
 replace e3 := e3.q
 replace kw := kw.x hk
 clear hR hk hg hP
 refine zn (hK4 _ _ ?_)
 refine zq fun K6 hK6 => ?_
 refine rg mixed y5 zz5 ?_
 refine .mb rfl e3 ?_
 refine .i (sp_neq (hlc rfl) Has.cst) ?_
 refine .dn fun a7 g W7 y7 zz7 hk hg hV hR hP => ?_
 obtain ⟨e9, -, -⟩ := hV
 replace e0 := ft hR e0
 replace e3 := ft hR e3
 replace e9 := e9.q
 replace kw := kw.x hk
 clear hR hk hg hP
 refine zn (hK6 _ _ ?_)
 refine wp_cond_true (e9.trans (congrArg Value.bool (by decide))) ?_
 refine zq fun K8 hK8 => ?_
 refine rg mixed y7 zz7 ?_
 refine .mb rfl e3 ?_
 refine .al rfl ?_
 refine .dn fun a9 g W9 y9 zz9 hk hg hV hR hP => ?_
 obtain ⟨e2, -, -⟩ := hV
 replace e2 := e2.q
 replace kw := kw.x hk
 clear hR hk hg hP
 refine zn (hK8 _ _ ?_)
 refine wp_ret ?_
 refine ret1 rfl zz9 e2 ⟨_, rfl, kw, ?_⟩
 exact rfl
set_option maxRecDepth 100000 in
theorem BoolOf_ok (w : World) : Calls Try.prog 40 #[.bool true] w (Ret w fun u _ => u = .agg #[.int .u8 1, .int .i64 1, .string ⟨#[]⟩, .slice none 0 0, .slice none 0 0]) := by
 refine enter Try.func40 rfl Try.ntmps40 (lbr rfl) fun a0 y0 zz0 harg => ?_
 have e0 : sl a0 0 = (.bool (true)) := harg 0 (lbr rfl)
 have kw := Keeps.refl All w
 clear harg
 refine zq fun K1 hK1 => ?_
 refine rg mixed y0 zz0 ?_
 refine .alloc z33 ?_
 refine .dn fun a2 g W2 y2 zz2 hk hg hV hR hP => ?_
 obtain ⟨⟨b2_2, e2, hb2, own_b2_2⟩, -⟩ := hV
 have lo_b2_2 : w.heap.size ≤ b2_2 := Nat.le_trans kw.size (hg.lo _ _ hb2)
 have own_b2_2 : Own W2 b2_2 [(.int .u8 (0)), (.int .i64 (0)), (.string (⟨#[]⟩)), (.slice none 0 0), (.slice none 0 0)] 33 := own_b2_2
 replace e0 := ft hR e0
 replace kw := kw.x hk
 clear hR hk hg hP hb2
 refine zn (hK1 _ _ ?_)
 refine zq fun K3 hK3 => ?_
 refine zq fun K4 hK4 => ?_
 refine rg mixed y2 zz2 ?_
 refine .mb rfl e0 ?_
 refine .dn fun a5 g W5 y5 zz5 hk hg hV hR hP => ?_
 obtain ⟨e3, -⟩ := hV
 replace e2 := ft hR e2
 replace e3 := e3.q
 replace own_b2_2 := own_b2_2.ext hk
 replace kw := kw.x hk
 clear hR hk hg hP
 refine zn (hK4 _ _ ?_)
 refine wp_cond_true e3 ?_
 refine zq fun K6 hK6 => ?_
 refine rg mixed y5 zz5 ?_
 refine .i (v := (.agg #[(.int .u8 (1)), (.int .i64 (1)), (.string (⟨#[]⟩)), (.slice none 0 0), (.slice none 0 0)])) (sp_build (vs := [(0, (.int .u8 (1))), (1, (.int .i64 (1)))]) Try.underlying33 z33 (pl33 Try.underlying33) ⟨rfl, Has.cst, rfl, Has.cst, trivial⟩ rfl) ?_
 refine .dn fun a7 g W7 y7 zz7 hk hg hV hR hP => ?_
 obtain ⟨e4, -⟩ := hV
 replace e2 := ft hR e2
 replace e4 := e4.q
 replace own_b2_2 := own_b2_2.ext hk
 replace kw := kw.x hk
 clear hR hk hg hP
 refine tail_store e2 e4 sz33 rfl own_b2_2 (lbr rfl) (all_cons rfl (all_cons rfl (all_cons rfl (all_cons rfl (all_cons rfl all_nil))))) (fun W8 hs own_b2_2 => ?_)
 have own_b2_2 : Own W8 b2_2 [(.int .u8 (1)), (.int .i64 (1)), (.string (⟨#[]⟩)), (.slice none 0 0), (.slice none 0 0)] 33 := own_b2_2
 replace kw := keeps_store kw hs lo_b2_2
 clear hs
 refine zn (hK6 _ _ ?_)
 refine wp_ret ?_
 refine retC (v := (.agg #[(.int .u8 (1)), (.int .i64 (1)), (.string (⟨#[]⟩)), (.slice none 0 0), (.slice none 0 0)])) rfl zz7 e2 own_b2_2 agg33 sz33 rfl (fun h => by cases h) rfl ⟨_, rfl, kw, ?_⟩
 exact rfl
set_option maxRecDepth 100000 in
theorem ListOf_ok (l : List V) (hl : l.length ≤ 1073741824) (hw : ∀ q ∈ l, q.wt ≤ 1073741824) (w : World) (S : BSet) (v : Value) (hS : ∀ b o, S b o → Cln o) (hv : Rd w S (valsD l) v) : Calls Try.prog 36 #[v] w (Ret w fun u W => Rd W (Fr w) (V.d (V.mk 4 0 ⟨#[]⟩ [] l)) u) := by
 obtain ⟨va, vc, ev, D_v⟩ := rdVs_out (rd_arg hv)
 subst ev
 refine enter Try.func36 rfl Try.ntmps36 (lbr rfl) fun a0 y0 zz0 harg => ?_
 have e0 : sl a0 0 = (.slice va (l.length) vc) := harg 0 (lbr rfl)
 have kw := Keeps.refl All w
 clear harg
 refine zq fun K1 hK1 => ?_
 refine rg mixed y0 zz0 ?_
 refine .alloc z33 ?_
 refine .dn fun a2 g W2 y2 zz2 hk hg hV hR hP => ?_
 obtain ⟨⟨b2_2, e2, hb2, own_b2_2⟩, -⟩ := hV
 have lo_b2_2 : w.heap.size ≤ b2_2 := Nat.le_trans kw.size (hg.lo _ _ hb2)
 have own_b2_2 : Own W2 b2_2 [(.int .u8 (0)), (.int .i64 (0)), (.string (⟨#[]⟩)), (.slice none 0 0), (.slice none 0 0)] 33 := own_b2_2
 replace e0 := ft hR e0
 replace D_v := sa_more D_v hk [b2_2] (in_cons (hg.lo _ _ hb2) in_nil)
 replace kw := kw.x hk
 clear hR hk hg hP hb2
 refine zn (hK1 _ _ ?_)
 refine zq fun K3 hK3 => ?_
 refine rg mixed y2 zz2 ?_
 refine .i (v := (.agg #[(.int .u8 (4)), (.int .i64 (0)), (.string (⟨#[]⟩)), (.slice none 0 0), (.slice none 0 0)])) (sp_build (vs := [(0, (.int .u8 (4)))]) Try.underlying33 z33 (pl33 Try.underlying33) ⟨rfl, Has.cst, trivial⟩ rfl) ?_
 refine .alloc z33 ?_
 refine .dn fun a4 g W4 y4 zz4 hk hg hV hR hP => ?_
 obtain ⟨⟨b3_4, e3, hb3, own_b3_4⟩, e6, -⟩ := hV
 have lo_b3_4 : w.heap.size ≤ b3_4 := Nat.le_trans kw.size (hg.lo _ _ hb3)
 have ne_b2_2_b3_4 : b2_2 ≠ b3_4 := Nat.ne_of_lt (Nat.lt_of_lt_of_le own_b2_2.lt (hg.lo _ _ hb3))
 have own_b3_4 : Own W4 b3_4 [(.int .u8 (0)), (.int .i64 (0)), (.string (⟨#[]⟩)), (.slice none 0 0), (.slice none 0 0)] 33 := own_b3_4
 replace e0 := ft hR e0
 replace e2 := ft hR e2
 replace D_v := sa_more D_v hk [b3_4] (in_cons (hg.lo _ _ hb3) in_nil)
 replace e6 := e6.q
 replace own_b2_2 := own_b2_2.ext hk
 replace kw := kw.x hk
 clear hR hk hg hP hb3
 refine tail_store e3 e6 sz33 rfl own_b3_4 (lbr rfl) (all_cons rfl (all_cons rfl (all_cons rfl (all_cons rfl (all_cons rfl all_nil))))) (fun W5 hs own_b3_4 => ?_)
 have own_b3_4 : Own W5 b3_4 [(.int .u8 (4)), (.int .i64 (0)), (.string (⟨#[]⟩)), (.slice none 0 0), (.slice none 0 0)] 33 := own_b3_4
 replace own_b2_2 := own_store own_b2_2 hs ne_b2_2_b3_4
 replace D_v := sa_store D_v hs (by simp)
 replace kw := keeps_store kw hs lo_b3_4
 clear hs
 refine zn (hK3 _ _ ?_)
 refine zq fun K6 hK6 => ?_
 refine zq fun K7 hK7 => ?_
 refine rg mixed y4 zz4 ?_
 refine .mb rfl e0 ?_
 refine .i (sp_lenVs Try.underlying31 ((hlc rfl).dat D_v sub_all)) ?_
 refine .i (sp_move Has.cst) ?_
 refine .dn fun a8 g W8 y8 zz8 hk hg hV hR hP => ?_
 obtain ⟨e9, e8, e7, -⟩ := hV
 replace e2 := ft hR e2
 replace e3 := ft hR e3
 replace D_v := D_v.ext hk
 replace e7 := e7.q
 replace e8 := e8.q
 replace e9 := e9.q
 replace own_b2_2 := own_b2_2.ext hk
 replace own_b3_4 := own_b3_4.ext hk
 replace kw := kw.x hk
 clear hR hk hg hP
 refine zn (hK7 _ _ ?_)
 refine wp_block ?_
 have A_ar9 : Arr W8 w.heap.size 33 5 (SF w (blks none ++ (b3_4 :: (b2_2 :: [])))) (List.map V.d ([])) (.slice none 0 0) none := arr_nil _ _ _ _ _
 replace D_v : Rd W8 (SA w S (blks none ++ (b3_4 :: (b2_2 :: [])))) (valsD (l)) (.slice va (l.length) vc) := D_v
 refine wp_for (l.length) (fun k a W => ∃ (va4_10 : Value), ∃ (hd4_10 : Option Nat), a.tmps.size = 22 ∧ a.defers = [] ∧ Keeps All w W ∧ sl a 2 = (.pointer (some ⟨b2_2, 0, none⟩)) ∧ sl a 3 = (.pointer (some ⟨b3_4, 0, none⟩)) ∧ sl a 7 = (.slice va (l.length) vc) ∧ sl a 8 = (.int .i64 (l.length)) ∧ sl a 9 = (.int .i64 ((k : Nat))) ∧ Own W b2_2 [(.int .u8 (0)), (.int .i64 (0)), (.string (⟨#[]⟩)), (.slice none 0 0), (.slice none 0 0)] 33 ∧ Own W b3_4 [(.int .u8 (4)), (.int .i64 (0)), (.string (⟨#[]⟩)), (.slice none 0 0), va4_10] 33 ∧ Rd W (SA w S (blks hd4_10 ++ (b3_4 :: (b2_2 :: [])))) (valsD (l)) (.slice va (l.length) vc) ∧ Arr W w.heap.size 33 5 (SF w (blks hd4_10 ++ (b3_4 :: (b2_2 :: [])))) (List.map V.d (l.take k)) va4_10 hd4_10 ∧ b2_2 ∉ blks hd4_10 ∧ b3_4 ∉ blks hd4_10) ⟨(.slice none 0 0), none, y8, zz8, kw, e2, e3, e7, e8, (e9.trans (congrArg (Value.int .i64) (rfl))), own_b2_2, own_b3_4, D_v, A_ar9, nb_none, nb_none⟩ ?_
 clear kw e2 e3 e7 e8 e9 own_b2_2 own_b3_4 D_v A_ar9
 rintro k a10 W10 hkk ⟨va4_10, hd4_10, y10, zz10, kw, e2, e3, e7, e8, e9, own_b2_2, own_b3_4, D_v, A4_10, nb_b2_2_ar9_10, nb_b3_4_ar9_10⟩
 refine zq fun K11 hK11 => ?_
 refine rg mixed y10 zz10 ?_
 refine .i (sp_lss (hbs rfl e9) (hbs rfl e8)) ?_
 refine .dn fun a12 g W12 y12 zz12 hk hg hV hR hP => ?_
 obtain ⟨e10, -⟩ := hV
 replace e2 := ft hR e2
 replace e3 := ft hR e3
 replace e7 := ft hR e7
 replace e8 := ft hR e8
 replace e9 := ft hR e9
 replace A4_10 := A4_10.ext hk
 replace D_v := D_v.ext hk
 replace e10 := e10.q
 replace own_b2_2 := own_b2_2.ext hk
 replace own_b3_4 := own_b3_4.ext hk
 replace kw := kw.x hk
 clear hR hk hg hP
 refine zn (hK11 _ _ ?_)
 refine zq fun K13 hK13 => ?_
 refine zc e10 (fun hc => ?_) (fun hc => ?_)
 ·
  have hlt : k < l.length := by simpa using hc
  have hwm := hw _ (List.getElem_mem hlt)
  refine wp_skip (hK13 _ _ ?_)
  refine zq fun K14 hK14 => ?_
  refine wp_block ?_
  refine zq fun K15 hK15 => ?_
  refine rg mixed y12 zz12 ?_
  refine .rf (sp_indexV (i := k) ((hbs rfl e7).dat D_v sub_all) (hbs rfl e9) Try.underlying31 sz33 rfl hlt) ?_
  refine .da (sp_loadV (hlc rfl) agg33 sz33) ?_
  refine .alloc z33 ?_
  refine .dn fun a16 g W16 y16 zz16 hk hg hV hR hP => ?_
  obtain ⟨⟨b5_16, e5, hb5, own_b5_16⟩, e12, -, -⟩ := hV
  have lo_b5_16 : w.heap.size ≤ b5_16 := Nat.le_trans kw.size (hg.lo _ _ hb5)
  have ne_b2_2_b5_16 : b2_2 ≠ b5_16 := Nat.ne_of_lt (Nat.lt_of_lt_of_le own_b2_2.lt (hg.lo _ _ hb5))
  have ne_b3_4_b5_16 : b3_4 ≠ b5_16 := Nat.ne_of_lt (Nat.lt_of_lt_of_le own_b3_4.lt (hg.lo _ _ hb5))
  have own_b5_16 : Own W16 b5_16 [(.int .u8 (0)), (.int .i64 (0)), (.string (⟨#[]⟩)), (.slice none 0 0), (.slice none 0 0)] 33 := own_b5_16
  replace e2 := ft hR e2
  replace e3 := ft hR e3
  replace e7 := ft hR e7
  replace e8 := ft hR e8
  replace e9 := ft hR e9
  have hMx : ∀ b ∈ (blks hd4_10 ++ (b3_4 :: (b2_2 :: []))), b < W12.heap.size := (in_app A4_10.lt (in_cons own_b3_4.lt (in_cons own_b2_2.lt in_nil)))
  have nb_b5_16_ar9 : b5_16 ∉ blks hd4_10 := nb_lt A4_10.lt (hg.lo _ _ hb5)
  replace A4_10 : Arr W16 w.heap.size 33 5 (SF w (b5_16 :: (blks hd4_10 ++ (b3_4 :: (b2_2 :: []))))) (List.map V.d (l.take k)) va4_10 hd4_10 := arrF_more A4_10 hk [b5_16] (in_cons (hg.lo _ _ hb5) in_nil)
  replace D_v : Rd W16 (SA w S (b5_16 :: (blks hd4_10 ++ (b3_4 :: (b2_2 :: []))))) (valsD (l)) (.slice va (l.length) vc) := sa_more D_v hk [b5_16] (in_cons (hg.lo _ _ hb5) in_nil)
  obtain ⟨v12_16, ev⟩ : ∃ v, sl a16 12 = v := ⟨_, rfl⟩
  rw [ev] at e12
  have D_v12_16 : Rd W16 (SA w S (b5_16 :: (blks hd4_10 ++ (b3_4 :: (b2_2 :: []))))) (V.d (l[k]'hlt)) v12_16 := sa_end e12 hk [b5_16] (in_cons ⟨_, hb5⟩ in_nil)
  replace e12 := ev; clear ev
  obtain ⟨cn12_16a, cn12_16c, ci12_16a, ci12_16c, ev, ht_v12_16, D_cn12_16, D_ci12_16⟩ := rdV_out D_v12_16
  subst ev; clear D_v12_16
  replace own_b2_2 := own_b2_2.ext hk
  replace own_b3_4 := own_b3_4.ext hk
  replace kw := kw.x hk
  clear hR hk hg hP hb5
  refine tail_store e5 e12 sz33 rfl own_b5_16 (lbr rfl) (all_cons rfl (all_cons rfl (all_cons rfl (all_cons rfl (all_cons rfl all_nil))))) (fun W17 hs own_b5_16 => ?_)
  have own_b5_16 : Own W17 b5_16 [(.int .u8 ((l[k]'hlt).k)), (.int .i64 ((l[k]'hlt).n)), (.string ((l[k]'hlt).t)), (.slice cn12_16a (((l[k]'hlt).ns).length) cn12_16c), (.slice ci12_16a (((l[k]'hlt).xs).length) ci12_16c)] 33 := own_b5_16
  replace own_b2_2 := own_store own_b2_2 hs ne_b2_2_b5_16
  replace own_b3_4 := own_store own_b3_4 hs ne_b3_4_b5_16
  replace D_v := sa_store D_v hs (by simp)
  replace D_cn12_16 := sa_store D_cn12_16 hs (by simp)
  replace D_ci12_16 := sa_store D_ci12_16 hs (by simp)
  replace A4_10 := arrF_store A4_10 hs (by simp) nb_b5_16_ar9
  replace kw := keeps_store kw hs lo_b5_16
  clear hs
  refine zn (hK15 _ _ ?_)
  refine wp_reg (fun k => k ∉ blks hd4_10) (Ψ := fun W => Arr W w.heap.size 33 5 (SF w (b5_16 :: (blks hd4_10 ++ (b3_4 :: (b2_2 :: []))))) (List.map V.d (l.take k)) va4_10 hd4_10) mixed y16 zz16 (fun W W' k h => h.ext k) A4_10 ?_
  refine .i (fo 4 (hbs rfl e3) Try.underlying33 rfl sz31 rfl) ?_
  refine .i (lo1 (hlc rfl) own_b3_4 nb_b3_4_ar9_10 agg31 sz31 rfl) ?_
  refine .i (v := (.agg #[(.int .u8 ((l[k]'hlt).k)), (.int .i64 ((l[k]'hlt).n)), (.string ((l[k]'hlt).t)), (.slice cn12_16a (((l[k]'hlt).ns).length) cn12_16c), (.slice ci12_16a (((l[k]'hlt).xs).length) ci12_16c)])) (loA (hbs rfl e5) own_b5_16 nb_b5_16_ar9 agg33 sz33 rfl rfl) ?_
  refine .op (φ := IsD (Fr W17) (V.d ((l[k]'hlt)))) (st_d (sub_frnb (fun b hb => A4_10.lt b hb))) (sp_call1 (φ1 := IsD (SA w S (b5_16 :: (blks hd4_10 ++ (b3_4 :: (b2_2 :: []))))) (V.d ((l[k]'hlt)))) ent79 ((hlc rfl).dat (rdV_in (x := (l[k]'hlt)) ht_v12_16 D_cn12_16 D_ci12_16 : Rd W17 (SA w S (b5_16 :: (blks hd4_10 ++ (b3_4 :: (b2_2 :: []))))) (V.d ((l[k]'hlt))) _) (sub_nb (fun b hb => List.mem_cons_of_mem _ (List.mem_append_left _ hb)))) (fun g u1 W hk hgk h1 => (Copy_ok ((l[k]'hlt)) (by first | omega | exact Nat.le_of_ble_eq_true (by kernel_rfl)) W _ _ (fun b o h => sa_cln hS b o h.1) h1).mono (ret_fr hk hgk))) ?_
  refine .op (φ := IsD (SF w (b5_16 :: (blks hd4_10 ++ (b3_4 :: (b2_2 :: []))))) (valsD ([(l[k]'hlt)]))) (st_d (sub_nbF (fun b hb => List.mem_cons_of_mem _ (List.mem_append_left _ hb)))) (sp_bsl (ds := [V.d ((l[k]'hlt))]) Try.underlying31 sz33 z33 (lbr rfl) (lbr rfl) ⟨rfl, ((hlc rfl).sup (fr_sf kw (in_cons own_b5_16.lt (in_app A4_10.lt (in_cons own_b3_4.lt (in_cons own_b2_2.lt in_nil)))))), trivial⟩ rfl (by intro e he; simp at he; rcases he with rfl <;> exact width_V _) (fr_sf kw (in_cons own_b5_16.lt (in_app A4_10.lt (in_cons own_b3_4.lt (in_cons own_b2_2.lt in_nil)))))) ?_
  refine .appB (ds := List.map V.d (l.take k)) (es := [V.d ((l[k]'hlt))]) (X := SF w (b5_16 :: (blks hd4_10 ++ (b3_4 :: (b2_2 :: []))))) Try.underlying31 inf33 (lbr rfl) (hlc rfl) (hlc rfl) (sub_nbF (fun b hb => List.mem_cons_of_mem _ (List.mem_append_left _ hb))) (by simp [maxLen]; omega) (by simp; omega) kw.size ?_
  refine .i (fo 4 (hbs rfl e3) Try.underlying33 rfl sz31 rfl) ?_
  refine .dn fun a18 g W18 y18 zz18 hk hg hV hR hP => ?_
  obtain ⟨e19, e18, -, -, -, -, -, -⟩ := hV
  replace e2 := ft hR e2
  replace e3 := ft hR e3
  replace e7 := ft hR e7
  replace e8 := ft hR e8
  replace e9 := ft hR e9
  obtain ⟨v18_18, ev⟩ : ∃ v, sl a18 18 = v := ⟨_, rfl⟩
  rw [ev] at e18
  obtain ⟨hd18_18, A_18_18, hf18_18⟩ := e18
  have e18 := ev; clear ev
  obtain ⟨v18_18a, v18_18n, v18_18c, ev⟩ := arr_sl A_18_18; subst ev
  replace A_18_18 := arrF_new (M' := (b5_16 :: (blks hd18_18 ++ (b3_4 :: (b2_2 :: []))))) A_18_18 (rep_cons (rep_app (rep_q fun _ h => h) (rep_cons (rep_cons rep_nil))))
  replace A_18_18 : Arr W18 w.heap.size 33 5 (SF w (b5_16 :: (blks hd18_18 ++ (b3_4 :: (b2_2 :: []))))) (List.map V.d ((l.take k) ++ [(l[k]'hlt)])) (.slice v18_18a v18_18n v18_18c) hd18_18 := by first | exact A_18_18 | (rw [List.map_append]; exact A_18_18)
  have nb_b2_2_18 : b2_2 ∉ blks hd18_18 := nb_new nb_b2_2_ar9_10 own_b2_2.lt hf18_18
  have nb_b3_4_18 : b3_4 ∉ blks hd18_18 := nb_new nb_b3_4_ar9_10 own_b3_4.lt hf18_18
  have nb_b5_16_18 : b5_16 ∉ blks hd18_18 := nb_new nb_b5_16_ar9 own_b5_16.lt hf18_18
  replace D_v := sa_app (M' := (b5_16 :: (blks hd18_18 ++ (b3_4 :: (b2_2 :: []))))) D_v hk (fun b hb => List.mem_cons_of_mem _ (List.mem_append_left _ hb)) (rep_cons (rep_app hf18_18 (rep_cons (rep_cons rep_nil))))
  replace D_cn12_16 := sa_app (M' := (b5_16 :: (blks hd18_18 ++ (b3_4 :: (b2_2 :: []))))) D_cn12_16 hk (fun b hb => List.mem_cons_of_mem _ (List.mem_append_left _ hb)) (rep_cons (rep_app hf18_18 (rep_cons (rep_cons rep_nil))))
  replace D_ci12_16 := sa_app (M' := (b5_16 :: (blks hd18_18 ++ (b3_4 :: (b2_2 :: []))))) D_ci12_16 hk (fun b hb => List.mem_cons_of_mem _ (List.mem_append_left _ hb)) (rep_cons (rep_app hf18_18 (rep_cons (rep_cons rep_nil))))
  replace own_b2_2 := own_app own_b2_2 hk nb_b2_2_ar9_10
  replace own_b3_4 := own_app own_b3_4 hk nb_b3_4_ar9_10
  replace own_b5_16 := own_app own_b5_16 hk nb_b5_16_ar9
  replace kw := keeps_app kw hk A4_10.ge
  have e19 : sl a18 19 = (.pointer (some ⟨b3_4, 4, none⟩)) := e19
  clear hR hk hg hP hf18_18 A4_10
  refine tail_store e19 e18 sz31 rfl own_b3_4 (lbr rfl) (all_cons rfl all_nil) (fun W19 hs own_b3_4 => ?_)
  have own_b3_4 : Own W19 b3_4 [(.int .u8 (4)), (.int .i64 (0)), (.string (⟨#[]⟩)), (.slice none 0 0), (.slice v18_18a v18_18n v18_18c)] 33 := own_b3_4
  replace own_b2_2 := own_store own_b2_2 hs ne_b2_2_b3_4
  replace own_b5_16 := own_store own_b5_16 hs ne_b3_4_b5_16.symm
  replace D_v := sa_store D_v hs (by simp)
  replace D_cn12_16 := sa_store D_cn12_16 hs (by simp)
  replace D_ci12_16 := sa_store D_ci12_16 hs (by simp)
  replace A_18_18 := arrF_store A_18_18 hs (by simp) nb_b3_4_18
  replace kw := keeps_store kw hs lo_b3_4
  clear hs
  refine zn (hK14 _ _ ?_)
  refine rg mixed y18 zz18 ?_
  refine .i (sp_add (hbs rfl e9) Has.cst (i64_in (by omega))) ?_
  refine .i (sp_move (hlc rfl)) ?_
  refine .dn fun a20 g W20 y20 zz20 hk hg hV hR hP => ?_
  obtain ⟨e9, -, -⟩ := hV
  replace e2 := ft hR e2
  replace e3 := ft hR e3
  replace e7 := ft hR e7
  replace e8 := ft hR e8
  replace A_18_18 := A_18_18.ext hk
  replace D_v := D_v.ext hk
  replace e9 := e9.q
  replace own_b2_2 := own_b2_2.ext hk
  replace own_b3_4 := own_b3_4.ext hk
  replace own_b5_16 := own_b5_16.ext hk
  replace kw := kw.x hk
  clear hR hk hg hP
  rw [show (l.take k) ++ [(l[k]'hlt)] = l.take (k + 1) by rw [List.take_succ_eq_append_getElem hlt]] at A_18_18
  exact tail_nil ⟨hlt, (.slice v18_18a v18_18n v18_18c), hd18_18, y20, zz20, kw, e2, e3, e7, e8, (e9.trans (congrArg (Value.int .i64) (by simp))), own_b2_2, own_b3_4, (sa_less D_v (ls_skip (ls_keepA (ls_keep (ls_keep ls_nil))))), (arrF_less A_18_18 (ls_skip (ls_keepA (ls_keep (ls_keep ls_nil))))), nb_b2_2_18, nb_b3_4_18⟩
 have hge0 : ¬ k < l.length := by simpa using hc
 have hge : k = l.length := by omega
 rw [show l.take k = l by rw [hge, List.take_length]] at A4_10
 have D_va4_10 : Rd W12 (SF w [b3_4, b2_2]) (valsD (l)) va4_10 := arrF_rd A4_10 (ls_skipA (ls_keep (ls_keep ls_nil))) (nin_cons nb_b3_4_ar9_10 (nin_cons nb_b2_2_ar9_10 nin_nil))
 obtain ⟨va4_10a, va4_10c, ev, D2⟩ := rdVs_out D_va4_10
 subst ev; replace D_va4_10 := D2; clear D2
 replace D_v := sa_less (M' := [b3_4, b2_2]) D_v (ls_skipA (ls_keep (ls_keep ls_nil)))
 refine wp_exit (hK6 _ _ ?_)
 refine zq fun K21 hK21 => ?_
 refine rg mixed y12 zz12 ?_
 refine .i (v := (.agg #[(.int .u8 (4)), (.int .i64 (0)), (.string (⟨#[]⟩)), (.slice none 0 0), (.slice va4_10a (l.length) va4_10c)])) (loA (hbs rfl e3) own_b3_4 trivial agg33 sz33 rfl rfl) ?_
 refine .dn fun a22 g W22 y22 zz22 hk hg hV hR hP => ?_
 obtain ⟨e21, -⟩ := hV
 replace e2 := ft hR e2
 replace D_v := D_v.ext hk
 replace D_va4_10 := D_va4_10.ext hk
 replace e21 := e21.q
 replace own_b2_2 := own_b2_2.ext hk
 replace own_b3_4 := own_b3_4.ext hk
 replace kw := kw.x hk
 clear hR hk hg hP
 refine tail_store e2 e21 sz33 rfl own_b2_2 (lbr rfl) (all_cons rfl (all_cons rfl (all_cons rfl (all_cons rfl (all_cons rfl all_nil))))) (fun W23 hs own_b2_2 => ?_)
 have own_b2_2 : Own W23 b2_2 [(.int .u8 (4)), (.int .i64 (0)), (.string (⟨#[]⟩)), (.slice none 0 0), (.slice va4_10a (l.length) va4_10c)] 33 := own_b2_2
 replace own_b3_4 := own_store own_b3_4 hs ne_b2_2_b3_4.symm
 replace D_v := sa_store D_v hs (by simp)
 replace D_va4_10 := sf_store D_va4_10 hs (by simp)
 replace kw := keeps_store kw hs lo_b2_2
 clear hs
 refine zn (hK21 _ _ ?_)
 refine wp_ret ?_
 refine retC (v := (.agg #[(.int .u8 (4)), (.int .i64 (0)), (.string (⟨#[]⟩)), (.slice none 0 0), (.slice va4_10a (l.length) va4_10c)])) rfl zz22 e2 own_b2_2 agg33 sz33 rfl (fun h => by cases h) rfl ⟨_, rfl, kw, ?_⟩
 exact sf_fr (show Rd _ _ (V.d (V.mk 4 0 ⟨#[]⟩ [] l)) _ from (rdV_mk (lbr rfl) (rd_nil _) D_va4_10 : Rd W23 (SF w [b3_4, b2_2]) (V.d (V.mk (4) (0) (⟨#[]⟩) ([]) (l))) _))
set_option maxRecDepth 100000 in
theorem rOf_ok (x : V) (hxt : x.t.size ≤ maxLen) (hk5 : x.k = 5) (hlen : x.ns.length = x.xs.length) (hasc : asc x.ns = true) (w : World) (S : BSet) (cn ci : Value) (hv : Rd w S (strsD x.ns) cn) (hu : Rd w S (valsD x.xs) ci) : Calls Try.prog 30 #[.agg #[.int .u8 x.k, .int .i64 x.n, .string x.t, cn, ci]] w (Ret w fun u W => ∃ b, u = .pointer (some ⟨b, 0, none⟩) ∧ w.heap.size ≤ b ∧ Own W b [.int .u8 x.k, .int .i64 x.n, .string x.t, cn, ci, .slice none 0 0, .int .i64 0] 56) := by
 have hln : x.ns.length ≤ maxLen := rd_lenS hv
 simp only [maxLen] at hln
 obtain ⟨cna, cnc, ev, D_cn⟩ := rdS_out (rd_arg hv)
 subst ev
 obtain ⟨cia, cic, ev, D_ci⟩ := rdVs_out (rd_arg hu)
 subst ev
 refine enter Try.func30 rfl Try.ntmps30 (lbr rfl) fun a0 y0 zz0 harg => ?_
 have e0 : sl a0 0 = (.agg #[(.int .u8 (x.k)), (.int .i64 (x.n)), (.string (x.t)), (.slice cna (x.ns.length) cnc), (.slice cia (x.xs.length) cic)]) := harg 0 (lbr rfl)
 have kw := Keeps.refl All w
 clear harg
 refine zq fun K1 hK1 => ?_
 refine rg mixed y0 zz0 ?_
 refine .boxOp (v := (.agg #[(.int .u8 (x.k)), (.int .i64 (x.n)), (.string (x.t)), (.slice cna (x.ns.length) cnc), (.slice cia (x.xs.length) cic)])) (hbs rfl e0) ?_
 refine .ac ?_
 refine .dn fun a2 g W2 y2 zz2 hk hg hV hR hP => ?_
 obtain ⟨-, ⟨b1_2, e1, hb1, own_b1_2⟩, -⟩ := hV
 have lo_b1_2 : w.heap.size ≤ b1_2 := Nat.le_trans kw.size (hg.lo _ _ hb1)
 have own_b1_2 : Own W2 b1_2 [(.int .u8 (x.k)), (.int .i64 (x.n)), (.string (x.t)), (.slice cna (x.ns.length) cnc), (.slice cia (x.xs.length) cic)] 33 := own_b1_2
 replace D_cn := sa_more D_cn hk [b1_2] (in_cons (hg.lo _ _ hb1) in_nil)
 replace D_ci := sa_more D_ci hk [b1_2] (in_cons (hg.lo _ _ hb1) in_nil)
 replace kw := kw.x hk
 clear hR hk hg hP hb1
 refine zn (hK1 _ _ ?_)
 refine zq fun K3 hK3 => ?_
 refine rg mixed y2 zz2 ?_
 refine .i (v := (.agg #[(.int .u8 (x.k)), (.int .i64 (x.n)), (.string (x.t)), (.slice cna (x.ns.length) cnc), (.slice cia (x.xs.length) cic)])) (loA (hbs rfl e1) own_b1_2 trivial agg33 sz33 rfl rfl) ?_
 refine .i (v := (.agg #[(.int .u8 (x.k)), (.int .i64 (x.n)), (.string (x.t)), (.slice cna (x.ns.length) cnc), (.slice cia (x.xs.length) cic), (.slice none 0 0), (.int .i64 (0))])) (sp_build (vs := [(0, (.agg #[(.int .u8 (x.k)), (.int .i64 (x.n)), (.string (x.t)), (.slice cna (x.ns.length) cnc), (.slice cia (x.xs.length) cic)]))]) Try.underlying56 z56 (pl56 Try.underlying56) ⟨rfl, (hlc rfl), trivial⟩ (by kernel_rfl)) ?_
 refine .boxOp (v := (.agg #[(.int .u8 (x.k)), (.int .i64 (x.n)), (.string (x.t)), (.slice cna (x.ns.length) cnc), (.slice cia (x.xs.length) cic), (.slice none 0 0), (.int .i64 (0))])) (hlc rfl) ?_
 refine .dn fun a4 g W4 y4 zz4 hk hg hV hR hP => ?_
 obtain ⟨⟨b7_4, e7, hb7, own_b7_4⟩, -, -, -⟩ := hV
 have lo_b7_4 : w.heap.size ≤ b7_4 := Nat.le_trans kw.size (hg.lo _ _ hb7)
 have ne_b1_2_b7_4 : b1_2 ≠ b7_4 := Nat.ne_of_lt (Nat.lt_of_lt_of_le own_b1_2.lt (hg.lo _ _ hb7))
 have own_b7_4 : Own W4 b7_4 [(.int .u8 (x.k)), (.int .i64 (x.n)), (.string (x.t)), (.slice cna (x.ns.length) cnc), (.slice cia (x.xs.length) cic), (.slice none 0 0), (.int .i64 (0))] 56 := own_b7_4
 replace e1 := ft hR e1
 replace D_cn := sa_more D_cn hk [b7_4] (in_cons (hg.lo _ _ hb7) in_nil)
 replace D_ci := sa_more D_ci hk [b7_4] (in_cons (hg.lo _ _ hb7) in_nil)
 replace own_b1_2 := own_b1_2.ext hk
 replace kw := kw.x hk
 clear hR hk hg hP hb7
 refine tail_assign (v := (.pointer (some ⟨b7_4, 0, none⟩))) e7 (by rw [y4]; exact Nat.le_of_ble_eq_true rfl) (fun a5 y5 zz5 e3 hr => ?_)
 replace y5 := y5.trans y4; replace zz5 := zz5.trans zz4
 replace e1 := (hr 1 (by decide)).trans e1
 replace e7 := (hr 7 (by decide)).trans e7
 clear hr
 refine zn (hK3 _ _ ?_)
 refine zq fun K6 hK6 => ?_
 refine zq fun K7 hK7 => ?_
 refine rg mixed y5 zz5 ?_
 refine .i (fo 0 (hbs rfl e1) Try.underlying33 rfl sz5 rfl) ?_
 refine .i (lo1 (hlc rfl) own_b1_2 trivial agg5 sz5 rfl) ?_
 refine .i (sp_neq (hlc rfl) Has.cst) ?_
 refine .dn fun a8 g W8 y8 zz8 hk hg hV hR hP => ?_
 obtain ⟨e10, -, -, -⟩ := hV
 replace e1 := ft hR e1
 replace e3 := ft hR e3
 replace D_cn := D_cn.ext hk
 replace D_ci := D_ci.ext hk
 replace e10 := e10.q
 replace own_b1_2 := own_b1_2.ext hk
 replace own_b7_4 := own_b7_4.ext hk
 replace kw := kw.x hk
 clear hR hk hg hP
 refine zn (hK7 _ _ ?_)
 refine zc e10 (fun hc => ?_) (fun hc => ?_)
 ·
  exfalso
  simp at hc; omega
 refine wp_skip (hK6 _ _ ?_)
 refine zq fun K9 hK9 => ?_
 refine zq fun K10 hK10 => ?_
 refine rg mixed y8 zz8 ?_
 refine .i (fo 3 (hbs rfl e1) Try.underlying33 rfl sz23 rfl) ?_
 refine .i (lo1 (hlc rfl) own_b1_2 trivial agg23 sz23 rfl) ?_
 refine .i (sp_lenSs Try.underlying23 ((hlc rfl).dat D_cn sub_all)) ?_
 refine .i (fo 4 (hbs rfl e1) Try.underlying33 rfl sz31 rfl) ?_
 refine .i (lo1 (hlc rfl) own_b1_2 trivial agg31 sz31 rfl) ?_
 refine .i (sp_lenVs Try.underlying31 ((hlc rfl).dat D_ci sub_all)) ?_
 refine .i (sp_neq (hlc rfl) (hlc rfl)) ?_
 refine .dn fun a11 g W11 y11 zz11 hk hg hV hR hP => ?_
 obtain ⟨e21, -, -, -, -, -, -, -⟩ := hV
 replace e1 := ft hR e1
 replace e3 := ft hR e3
 replace D_cn := D_cn.ext hk
 replace D_ci := D_ci.ext hk
 replace e21 := e21.q
 replace own_b1_2 := own_b1_2.ext hk
 replace own_b7_4 := own_b7_4.ext hk
 replace kw := kw.x hk
 clear hR hk hg hP
 refine zn (hK10 _ _ ?_)
 refine zc e21 (fun hc => ?_) (fun hc => ?_)
 ·
  exfalso
  simp at hc; omega
 refine wp_skip (hK9 _ _ ?_)
 refine zq fun K12 hK12 => ?_
 refine zq fun K13 hK13 => ?_
 refine rg mixed y11 zz11 ?_
 refine .ac ?_
 refine .dn fun a14 g W14 y14 zz14 hk hg hV hR hP => ?_
 obtain ⟨e4, -⟩ := hV
 replace e1 := ft hR e1
 replace e3 := ft hR e3
 replace D_cn := D_cn.ext hk
 replace D_ci := D_ci.ext hk
 replace e4 := e4.q
 replace own_b1_2 := own_b1_2.ext hk
 replace own_b7_4 := own_b7_4.ext hk
 replace kw := kw.x hk
 clear hR hk hg hP
 refine zn (hK13 _ _ ?_)
 refine wp_block ?_
 refine wp_for (x.ns.length) (fun k a W => a.tmps.size = 48 ∧ a.defers = [] ∧ Keeps All w W ∧ sl a 1 = (.pointer (some ⟨b1_2, 0, none⟩)) ∧ sl a 3 = (.pointer (some ⟨b7_4, 0, none⟩)) ∧ sl a 4 = (.int .i64 (((k + 1 : Nat) : Int))) ∧ Own W b1_2 [(.int .u8 (x.k)), (.int .i64 (x.n)), (.string (x.t)), (.slice cna (x.ns.length) cnc), (.slice cia (x.xs.length) cic)] 33 ∧ Own W b7_4 [(.int .u8 (x.k)), (.int .i64 (x.n)), (.string (x.t)), (.slice cna (x.ns.length) cnc), (.slice cia (x.xs.length) cic), (.slice none 0 0), (.int .i64 (0))] 56 ∧ Rd W (SA w S [b7_4, b1_2]) (strsD (x.ns)) (.slice cna (x.ns.length) cnc) ∧ Rd W (SA w S [b7_4, b1_2]) (valsD (x.xs)) (.slice cia (x.xs.length) cic)) ⟨y14, zz14, kw, e1, e3, (e4.trans (congrArg (Value.int .i64) (rfl))), own_b1_2, own_b7_4, D_cn, D_ci⟩ ?_
 clear kw e1 e3 e4 own_b1_2 own_b7_4 D_cn D_ci
 rintro k a15 W15 hkk ⟨y15, zz15, kw, e1, e3, e4, own_b1_2, own_b7_4, D_cn, D_ci⟩
 refine zq fun K16 hK16 => ?_
 refine zq fun K17 hK17 => ?_
 refine rg mixed y15 zz15 ?_
 refine .mb rfl e4 ?_
 refine .i (fo 3 (hbs rfl e1) Try.underlying33 rfl sz23 rfl) ?_
 refine .i (lo1 (hlc rfl) own_b1_2 trivial agg23 sz23 rfl) ?_
 refine .i (sp_lenSs Try.underlying23 ((hlc rfl).dat D_cn sub_all)) ?_
 refine .i (sp_lss (hlc rfl) (hlc rfl)) ?_
 refine .dn fun a18 g W18 y18 zz18 hk hg hV hR hP => ?_
 obtain ⟨e29, -, -, -, -, -⟩ := hV
 replace e1 := ft hR e1
 replace e3 := ft hR e3
 replace e4 := ft hR e4
 replace D_cn := D_cn.ext hk
 replace D_ci := D_ci.ext hk
 replace e29 := e29.q
 replace own_b1_2 := own_b1_2.ext hk
 replace own_b7_4 := own_b7_4.ext hk
 replace kw := kw.x hk
 clear hR hk hg hP
 refine zn (hK17 _ _ ?_)
 refine zc e29 (fun hc => ?_) (fun hc => ?_)
 ·
  have hlt : k + 1 < x.ns.length := by have := of_decide_eq_true hc; omega
  refine wp_skip (hK16 _ _ ?_)
  refine zq fun K19 hK19 => ?_
  refine wp_block ?_
  refine zq fun K20 hK20 => ?_
  refine rg mixed y18 zz18 ?_
  refine .i (fo 3 (hbs rfl e1) Try.underlying33 rfl sz23 rfl) ?_
  refine .i (lo1 (hlc rfl) own_b1_2 trivial agg23 sz23 rfl) ?_
  refine .mb rfl e4 ?_
  refine .i (sp_sub (hlc rfl) Has.cst (i64_in (by omega))) ?_
  refine .rf (sp_indexS (i := k) ((hlc rfl).dat D_cn sub_all) (hlc rfl) Try.underlying23 sz9 (by omega) (by omega)) ?_
  refine .i (sp_loadStr (hlc rfl) agg9 sz9) ?_
  refine .i (fo 3 (hbs rfl e1) Try.underlying33 rfl sz23 rfl) ?_
  refine .i (lo1 (hlc rfl) own_b1_2 trivial agg23 sz23 rfl) ?_
  refine .mb rfl e4 ?_
  refine .rf (sp_indexS (i := (k + 1)) ((hlc rfl).dat D_cn sub_all) (hlc rfl) Try.underlying23 sz9 rfl hlt) ?_
  refine .i (sp_loadStr (hlc rfl) agg9 sz9) ?_
  refine .i (sp_sGeq (hlc rfl) (hlc rfl)) ?_
  refine .dn fun a21 g W21 y21 zz21 hk hg hV hR hP => ?_
  obtain ⟨e43, -, -, -, -, -, -, -, -, -, -, -, -⟩ := hV
  replace e1 := ft hR e1
  replace e3 := ft hR e3
  replace e4 := ft hR e4
  replace D_cn := D_cn.ext hk
  replace D_ci := D_ci.ext hk
  replace e43 := e43.q
  replace own_b1_2 := own_b1_2.ext hk
  replace own_b7_4 := own_b7_4.ext hk
  replace kw := kw.x hk
  clear hR hk hg hP
  refine zn (hK20 _ _ ?_)
  refine zc e43 (fun hc => ?_) (fun hc => ?_)
  ·
   exfalso
   have h2 := (asc_iff x.ns).1 hasc k hlt
   rw [h2] at hc
   simp at hc
  refine wp_skip (hK19 _ _ ?_)
  refine rg mixed y21 zz21 ?_
  refine .mb rfl e4 ?_
  refine .i (sp_add (hlc rfl) Has.cst (i64_in (by omega))) ?_
  refine .al rfl ?_
  refine .dn fun a22 g W22 y22 zz22 hk hg hV hR hP => ?_
  obtain ⟨e4, -, -, -⟩ := hV
  replace e1 := ft hR e1
  replace e3 := ft hR e3
  replace D_cn := D_cn.ext hk
  replace D_ci := D_ci.ext hk
  replace e4 := e4.q
  replace own_b1_2 := own_b1_2.ext hk
  replace own_b7_4 := own_b7_4.ext hk
  replace kw := kw.x hk
  clear hR hk hg hP
  exact tail_nil ⟨by omega, y22, zz22, kw, e1, e3, (e4.trans (congrArg (Value.int .i64) (by omega))), own_b1_2, own_b7_4, D_cn, D_ci⟩
 refine wp_exit (hK12 _ _ ?_)
 refine zq fun K23 hK23 => ?_
 refine rg mixed y18 zz18 ?_
 refine .mb rfl e3 ?_
 refine .al rfl ?_
 refine .dn fun a24 g W24 y24 zz24 hk hg hV hR hP => ?_
 obtain ⟨e2, -, -⟩ := hV
 replace D_cn := D_cn.ext hk
 replace D_ci := D_ci.ext hk
 have e2 : sl a24 2 = (.pointer (some ⟨b7_4, 0, none⟩)) := e2
 replace own_b1_2 := own_b1_2.ext hk
 replace own_b7_4 := own_b7_4.ext hk
 replace kw := kw.x hk
 clear hR hk hg hP
 refine zn (hK23 _ _ ?_)
 refine wp_ret ?_
 refine ret1 rfl zz24 e2 ⟨_, rfl, kw, ?_⟩
 exact ⟨_, rfl, lo_b7_4, own_b7_4⟩
end Go.Proofs.Ytnobijngkpflcaa
