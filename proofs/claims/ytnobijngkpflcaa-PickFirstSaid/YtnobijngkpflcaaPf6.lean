/-
  The law PickFirst of package legatelaw11 returns true for every input, and leaves its arguments as they were. No condition beyond the row's own.
-/
import Derived.Test.YtnobijngkpflcaaPf5
import Derived.Test.YtnobijngkpflcaaRows
namespace Go.Eng
open Go.ChangeShapes Go.WideShapes Go.ChangeAt Go.RowKit
structure ClT (P : Program) (tL tC tK tS tN tM tE : TypeId) : Prop where
  l : P.underlying tL = some (.slice tC)
  v : ((P.underlying tC).bind fun | .struct fs => some (fs.toList.map (·.type)) | _ => none) = some [tK, tS, tN, tN, tM, tE]
  k : P.underlying tK = some (.int .u8)
  s : P.underlying tS = some .string
  n : P.underlying tN = some (.int .i64)
  m : P.underlying tM = some (.int .i64)
  e : P.underlying tE = some (.int .i64)
  c : P.cellsOf tC = 6
theorem hasCl {P : Program} {tL tC tK tS tN tM tE : TypeId} (q : ClT P tL tC tK tS tN tM tE) (d : D) (h : HasT P d tC) : ∃ a : Cl, d = a.d := by
  obtain ⟨xs, rfl, hf⟩ := hasT_agg q.v d h
  match xs, hf with
  | [a, b, c, e, f, g], hf =>
    simp only [HasTF] at hf
    obtain ⟨ha, hb, hc, he, hf, hg, -⟩ := hf
    obtain ⟨k, rfl, hk⟩ := hasT_int q.k _ ha
    obtain ⟨s, rfl, _⟩ := hasT_str q.s _ hb
    obtain ⟨n1, rfl, _⟩ := hasT_int q.n _ hc
    obtain ⟨n2, rfl, _⟩ := hasT_int q.n _ he
    obtain ⟨n3, rfl, _⟩ := hasT_int q.m _ hf
    obtain ⟨n4, rfl, _⟩ := hasT_int q.e _ hg
    refine ⟨⟨k.toNat, s, n1, n2, n3, n4⟩, ?_⟩
    have hk0 : (k.toNat : Int) = k := by
      simp only [Lit.wf, Bool.and_eq_true, decide_eq_true_eq] at hk
      have h0 : IntKind.min .u8 = 0 := by decide
      have : (0 : Int) ≤ k := by have := hk.1; rw [h0] at this; exact this
      omega
    simp only [Cl.d, hk0]
  | [], hf => simp [HasTF] at hf
  | [_], hf => simp [HasTF] at hf
  | [_, _], hf => simp [HasTF] at hf
  | [_, _, _], hf => simp [HasTF] at hf
  | [_, _, _, _], hf => simp [HasTF] at hf
  | [_, _, _, _, _], hf => simp [HasTF] at hf
  | _ :: _ :: _ :: _ :: _ :: _ :: _ :: _, hf => simp [HasTF] at hf
theorem hasCls {P : Program} {tL tC tK tS tN tM tE : TypeId} (q : ClT P tL tC tK tS tN tM tE) : ∀ (xs : List D), HasTL P xs tC → ∃ l : List Cl, xs = l.map Cl.d
  | [], _ => ⟨[], rfl⟩
  | x :: xs, h => by
    simp only [HasTL] at h
    obtain ⟨a, rfl⟩ := hasCl q x h.1
    obtain ⟨l, rfl⟩ := hasCls q xs h.2
    exact ⟨a :: l, rfl⟩
theorem arg_Cls {H : Type} {enc : TypeId × Value → H} {P : Program} {W : World} {tL tC tK tS tN tM tE : TypeId} (q : ClT P tL tC tK tS tN tM tE) {ts : List TypeId} {e : TypeId} {v : Value} {d : DataW H} {ps : List MemPlace} {base : Nat} (hp : (ts.all (plain1 P ts)) = true) (ht : tL ∈ ts) (hu : P.underlying tL = some (.slice e)) (hval : Value.okWide P W .any base tL v)
    (h : DataW.Trod enc P W 0 (fun _ => true) true tL v d ps) : ∃ l : List Cl, Rd W Univ (clsD l) v := by
  obtain ⟨dd, h1, h2⟩ := arg_slice hp ht hu hval h
  obtain ⟨xs, rfl, h3⟩ := hasT_lst q.l dd h2
  obtain ⟨l, rfl⟩ := hasCls q xs h3
  exact ⟨l, by rw [q.c] at h1; exact h1⟩
end Go.Eng
namespace Go.Eng
open Go.ChangeShapes Go.WideShapes Go.ChangeAt Go.RowKit
def AtW (w : World) : BSet := fun b o => o = w.heap[b]?
theorem rd_atW {w : World} {d : D} {v : Value} (h : Rd w Univ d v) : Rd w (AtW w) d v :=
  let ⟨cs, h1, h2⟩ := h; ⟨cs, rdc_move (S' := AtW w) (Nat.le_refl _) (fun _ _ _ => ⟨rfl, rfl⟩) _ _ h1, h2⟩
theorem pin_atW (w : World) : Pin w (AtW w) := fun _ _ h _ => h
def offsOf (P : Program) (t : TypeId) : Option (List (Nat × TypeId)) := (P.underlying t).bind fun | .struct fs => some (fs.toList.map fun f => (f.offset, f.type)) | _ => none
structure VO (P : Program) (tV tK tN tS tNs tXs : TypeId) : Prop where
  v : offsOf P tV = some [(0, tK), (1, tN), (2, tS), (3, tNs), (4, tXs)]
  xs : P.underlying tXs = some (.slice tV)
  c1 : P.cellsOf tXs = 1
  c5 : P.cellsOf tV = 5
section
variable {H : Type} {enc : TypeId × Value → H} {P : Program} {W : World}
def NoF (W : World) (ps : List MemPlace) : Prop := ∀ b off, MemPlace.cell b off ∈ ps → W.frozen? ⟨b, off, none⟩ = false
theorem trod_f4 {tV tK tN tS tNs tXs : TypeId} (q : VO P tV tK tN tS tNs tXs) {n : Nat} {c : List Value} {y : DataW H × List MemPlace} (h : DataW.trod enc P W 0 (fun _ => true) true n tV c = some y) (hy : NoF W y.2) :
    ∃ n' cc z, c[4]? = some cc ∧ DataW.trod enc P W 0 (fun _ => true) true n' tXs [cc] = some z ∧ NoF W z.2 := by
  have hv := q.v
  unfold offsOf at hv
  cases hu : P.underlying tV with
  | none => rw [hu] at hv; cases hv
  | some td =>
    rw [hu] at hv
    cases td with
    | struct fs =>
      simp only [Option.bind_some, Option.some.injEq] at hv
      obtain ⟨xs, n', hn', hx, hlen, hxl, hfs⟩ := DataW.trod_struct hu h
      have h4 : (fs.toList.map fun f => (f.offset, f.type))[4]? = some (4, tXs) := by rw [hv]; rfl
      rw [List.getElem?_map] at h4
      cases hf : fs.toList[4]? with
      | none => rw [hf] at h4; cases h4
      | some f =>
        rw [hf] at h4
        simp only [Option.map_some, Option.some.injEq, Prod.mk.injEq] at h4
        have h5 := hfs 4 f (by simpa using hf)
        rw [h4.1, h4.2, q.c1] at h5
        have hcl : c.length = 5 := hlen.trans q.c5
        have hsz : 4 < fs.size := by
          have := (List.getElem?_eq_some_iff.1 hf).1
          simpa using this
        have hx4 : 4 < xs.length := by omega
        rw [List.getElem?_eq_getElem hx4] at h5
        have hd : (c.drop 4).take 1 = [c[4]'(by omega)] := by
          rw [List.drop_eq_getElem_cons (by omega)]; rfl
        rw [hd] at h5
        refine ⟨n', c[4]'(by omega), xs[4], by simp, h5, fun b off hm => hy b off ?_⟩
        rw [hx]
        exact List.mem_flatMap.2 ⟨_, List.getElem_mem hx4, hm⟩
    | _ => simp at hv
theorem nv_slice {tV tK tN tS tNs tXs : TypeId} (q : VO P tV tK tN tS tNs tXs) : ∀ (m n : Nat) (v : Value) (y : DataW H × List MemPlace), DataW.trod enc P W 0 (fun _ => true) true n tXs [v] = some y → NoF W y.2 → NV W m v
  | 0, _, _, _, _, _ => trivial
  | m + 1, n, v, y, h, hy => by
    intro a len cap hv i hi
    subst hv
    rcases DataW.trod_slice q.xs h with ⟨h1, _⟩ | ⟨a', len', cap', elems, rest, n', hn', hcs, hx, _, hlc, hcm, hle, hel, _⟩
    · simp at h1
    · simp only [List.cons.injEq, Value.slice.injEq, Option.some.injEq, and_true] at hcs
      obtain ⟨rfl, rfl, rfl⟩ := hcs
      have h1 := hel i hi
      rw [List.getElem?_eq_getElem (by omega), Option.bind_eq_some_iff] at h1
      obtain ⟨c, hc, ht⟩ := h1
      obtain ⟨_, hcl, hcell⟩ := World.cells?_some hc
      rw [q.c5] at hcl hcell
      have hmem : NoF W (elems[i]'(by omega)).2 := fun b off hm => hy b off (by
        rw [hx]
        exact List.mem_append_right _ (List.mem_flatMap.2 ⟨_, List.mem_append_left _ (List.getElem_mem _), hm⟩))
      obtain ⟨n2, cc, z, h4, h5, h6⟩ := trod_f4 q ht hmem
      have hcc := hcell 4 (by omega)
      have had : ((a.add (i * 5)).add 4) = ⟨a.block, a.off + i * 5 + 4, none⟩ := by
        unfold Addr.add
        by_cases h0 : i * 5 = 0 <;> simp [h0]
      rw [had, h4] at hcc
      refine ⟨?_, hy _ _ ?_, fun c2 hc2 => ?_⟩
      · unfold World.cell? at hcc
        split at hcc
        · rename_i hq; exact (Array.getElem?_eq_some_iff.1 hq).1
        · cases hcc
      · rw [hx]
        refine List.mem_append_left _ (List.mem_map.2 ⟨i * 5, List.mem_range.2 ?_, rfl⟩)
        rw [q.c5]
        have : i * 5 < elems.length * 5 := by omega
        have h9 : elems.length * 5 ≤ (elems.length + rest.length) * 5 := Nat.mul_le_mul_right _ (by omega)
        omega
      · rw [hcc] at hc2
        cases hc2
        exact nv_slice q m n2 _ _ h5 h6
theorem arg_AV {tV tK tN tS tNs tXs : TypeId} (q : VO P tV tK tN tS tNs tXs) {v : Value} {d : DataW H} {ps : List MemPlace} (h : DataW.Trod enc P W 0 (fun _ => true) true tV v d ps) (hp : NoF W ps) : AVv W v := by
  obtain ⟨n, h⟩ := h
  intro c0 c1 c2 c3 c4 hv m
  subst hv
  obtain ⟨n', cc, z, h4, h5, h6⟩ := trod_f4 q h hp
  simp [Value.cells] at h4
  subst h4
  exact nv_slice q m n' _ _ h5 h6
end
end Go.Eng
namespace Go.Proofs.Ytnobijngkpflcaa
open Go.Eng Go.ChangeShapes Go.WideShapes Go.ChangeAt Go.RowKit
theorem Try.own : ownKnob Try.prog.godebug = none := by kernel_rfl
theorem Try.laidOut : laidOutB Try.prog = true := by kernel_rfl
theorem vt : VT Try.prog 33 5 2 9 23 31 := ⟨by kernel_rfl, Try.underlying5, Try.underlying2, Try.underlying9, Try.underlying23, Try.underlying31, by kernel_rfl, by kernel_rfl⟩
theorem vo : VO Try.prog 33 5 2 9 23 31 := ⟨by kernel_rfl, Try.underlying31, by kernel_rfl, by kernel_rfl⟩
theorem clt : ClT Try.prog 46 54 5 9 2 3 28 := ⟨Try.underlying46, by kernel_rfl, Try.underlying5, Try.underlying9, Try.underlying2, Try.underlying3, Try.underlying28, by kernel_rfl⟩
set_option maxRecDepth 100000 in
theorem PickFirst_lifted (os : Os) (started : os.Started) (H : Type) (enc : TypeId × Value → H) :
    ReturnsInHanded {} Try.checked os 5 .any (Rows.pickFirstSpec.pre6 enc Try.prog Try.f5 Rows.pickFirstRow.domain false) (Rows.pickFirstSpec.post enc Try.prog Try.f5 false true false false) := by
  refine returnsInHanded_of_change (C := Try.checked) Try.own started (by kernel_rfl) Try.func5
    (ChangeSpec.witness6 (enc := enc) (C := Try.checked) false ⟨#[], #[.agg #[(.int .u8 (0)), (.int .i64 (0)), (.string (⟨#[]⟩)), (.slice none 0 0), (.slice none 0 0)], (.slice none 0 0), (.slice none 0 0)], []⟩ 8 (by kernel_rfl) (by kernel_rfl) (by kernel_rfl) (by kernel_rfl)) ?_
  intro W base args ds gs before hval0 hW hcnd _
  have hval : ∀ (j : Nat) t v, Try.f5.params[j]? = some t → args[j]? = some v → Value.okWide Try.prog W .any base t v := hval0
  have hW' := hW
  obtain ⟨p, q, hA0, hV, rfl, hfz, hnd⟩ := hW
  have hA : DataW.TrodAll enc Try.prog W 0 (fun _ => true) true Try.f5.params.toList args.toList ds p := hA0
  rw [Try.params5] at hA hval
  obtain ⟨v0, v1, v2, d0, d1, d2, p0, p1, p2, rfl, rfl, rfl, h0, h1, h2⟩ := trodAll_three hA
  obtain ⟨rfl, rfl⟩ := trodVars_none hV
  obtain ⟨x0, r0⟩ := arg_V vt (ts := [33, 5, 2, 9, 23, 31]) (by kernel_rfl) (by decide) Try.underlying33 (hval 0 33 v0 rfl rfl) h0
  obtain ⟨x1, r1⟩ := arg_Cls clt (ts := [46, 54, 5, 9, 2, 3, 28]) (by kernel_rfl) (by decide) Try.underlying46 (hval 1 46 v1 rfl rfl) h1
  obtain ⟨x2, r2⟩ := arg_Cls clt (ts := [46, 54, 5, 9, 2, 3, 28]) (by kernel_rfl) (by decide) Try.underlying46 (hval 2 46 v2 rfl rfl) h2
  have a0 : AVv W v0 := arg_AV vo h0 fun b off hm => hfz b off (by simp only [List.mem_append]; simp [hm])
  refine (PickFirst_ok W x0 x1 x2 W (AtW W) v0 v1 v2 (Nat.le_refl _) (pin_atW W) a0 (rd_atW r0) (rd_atW r1) (rd_atW r2)).mono fun e W' ⟨v, he, hk, hv⟩ => ?_
  subst hv
  exact ⟨_, he, law_post Try.laidOut (of_decide_eq_true (by kernel_rfl)) rfl (tb := 4) (by kernel_rfl) Try.underlying4 rfl hW' hk⟩
theorem pickFirst_holds : Rows.PickFirstSaid :=
  OpenClaim.holds_of_wide 5 Try.f5 rfl rfl rfl rfl rfl rfl rfl ⟨rfl, rfl, rfl, rfl, rfl⟩ rfl rfl rfl rfl rfl (by kernel_rfl) Try.func5 (by kernel_rfl)
    (of_decide_eq_true (by kernel_rfl)) (by unfold Func.isWrapper; first | (rw [if_pos (by decide +kernel)]; kernel_rfl) | (rw [if_neg (by decide +kernel)]; exact ⟨rfl, rfl⟩))
    (fun os started H enc _ => PickFirst_lifted os started H enc)
end Go.Proofs.Ytnobijngkpflcaa
