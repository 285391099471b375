/- Regions, whether they draw their order or not, come to what the evaluator says. -/
import Derived.Test.YtachcmfgjjoimaaEv2
/- Regions, whether they draw their order or not. -/
namespace Go.Ev

section
variable {ρ : Nm} {P : Program}

theorem put_VRs {tm : List (AV R)} {a : Act} {v : AV R} {u : Value} (h : VRs ρ tm a.tmps.toList) (hv : VR ρ v u) (dst : Option Tmp) : VRs ρ (putT tm dst v) (a.put dst u).tmps.toList := by
  cases dst with
  | none => exact h
  | some d => simp only [putT, Act.put, Array.toList_setIfInBounds]; exact VRs.set h hv

theorem put_defers (a : Act) (dst : Option Tmp) (u : Value) : (a.put dst u).defers = a.defers := by cases dst <;> rfl

theorem opd_sound {tm : List (AV R)} {a : Act} (h : VRs ρ tm a.tmps.toList) {x : Operand} {v : AV R} (hx : opd tm x = some v) : VR ρ v (a.eval x) := by
  cases x with
  | tmp t =>
    obtain ⟨u, h1, h2⟩ := h.get (i := t) hx
    have : a.tmps[t]? = some u := by simpa using h1
    show VR ρ v (a.tmps.getD t undef)
    simpa [Array.getD_eq_getD_getElem?, this] using h2
  | const c => exact absV_VR hx
  | global g => cases hx
  | func f =>
    have : v = .clo f [] [] := (Option.some.inj hx).symm
    subst this
    exact ⟨#[], #[], rfl, trivial, trivial⟩

theorem opds_sound {tm : List (AV R)} {a : Act} (h : VRs ρ tm a.tmps.toList) : ∀ {xs : List Operand} {vs : List (AV R)}, opds tm xs = some vs → VRs ρ vs (xs.map a.eval)
  | [], vs, hx => by simp only [opds] at hx; cases hx; trivial
  | x :: r, vs, hx => by
    simp only [opds] at hx
    split at hx
    · rename_i v l h1 h2
      cases hx
      exact ⟨opd_sound h h1, opds_sound h h2⟩
    · cases hx

theorem wanted_sound {all : List Oper} {tm : List (AV R)} {a : Act} (h : VRs ρ tm a.tmps.toList) {o : Oper} {b : Bool} (hw : wantedV all tm o = some b) : Region.wanted o (yielded all.toArray a.tmps) = b := by
  unfold wantedV at hw
  unfold Region.wanted
  split at hw
  · rename_i hg; rw [hg]; exact Option.some.inj hw
  · rename_i j want hg
    rw [hg]
    split at hw
    · rename_i g hj
      split at hw
      · rename_i t ht
        have hjd : (all.toArray[j]?).bind (·.dst) = some t := by simp [hj, ht]
        split at hw
        · rename_i c hc
          obtain ⟨u, h1, h2⟩ := h.get (i := t) hc
          cases h2
          have : a.tmps[t]? = some (.bool c) := by simpa using h1
          have hy : yielded all.toArray a.tmps j = some c := by unfold yielded; rw [hjd]; simp [this]
          simp only [hy]
          have : (c == want) = b := Option.some.inj hw
          rw [← this]; rfl
        · rename_i hc
          obtain ⟨u, h1, h2⟩ := h.get (i := t) hc
          cases h2
          have : a.tmps[t]? = some undef := by simpa using h1
          have hy : yielded all.toArray a.tmps j = none := by unfold yielded; rw [hjd]; simp [this, undef]
          simp only [hy]
          have : false = b := Option.some.inj hw
          rw [← this]; rfl
        · cases hw
      · cases hw
    · cases hw

theorem splitB_sound {g : Bool} {o out : Out R} (h : (splitB g o).run = some out) : out.d = o.d ∧ out.nx = o.nx ∧ ∀ ρ v, VR ρ o.v v → VR ρ out.v v := by
  unfold splitB at h
  split at h
  · rename_i b hb
    rcases run_choose_some h with ⟨hbt, h⟩ | ⟨hbf, h⟩
    · have := (Option.some.inj h).symm; subst this
      refine ⟨rfl, rfl, fun ρ v hv => ?_⟩
      rw [hb] at hv
      have : v = .bool b := hv
      rw [this, hbt]; rfl
    · have := (Option.some.inj h).symm; subst this
      refine ⟨rfl, rfl, fun ρ v hv => ?_⟩
      rw [hb] at hv
      have : v = .bool b := hv
      rw [this, hbf]; rfl
  · have := (Option.some.inj h).symm; subst this
    exact ⟨rfl, rfl, fun _ _ h => h⟩

theorem compactO_sound {h : Heap R} {nx : Nat} {t : TO R} {out : Out R} (hr : (compactO (D := R) h nx t).run = some out) :
    ∃ o, t.run = some o ∧ Le o.v out.v ∧ o.nx ≤ out.nx ∧ ∀ (ρ ρ' : Nm) (w w' : World), Fresh ρ nx out.nx → Step ρ ρ' w w' nx o.nx o.d h → Step ρ ρ' w w' nx out.nx out.d h := by
  have hself : t.run = some out → ∃ o, t.run = some o ∧ Le o.v out.v ∧ o.nx ≤ out.nx ∧ ∀ (ρ ρ' : Nm) (w w' : World), Fresh ρ nx out.nx → Step ρ ρ' w w' nx o.nx o.d h → Step ρ ρ' w w' nx out.nx out.d h :=
    fun g => ⟨out, g, Le.refl _, Nat.le_refl _, fun _ _ _ _ _ s => s⟩
  unfold compactO at hr
  split at hr
  · dsimp only at hr
    split at hr
    · obtain ⟨⟨e, st⟩, h1, h2⟩ := T.run_bind_some hr
      obtain ⟨s, g1, g2⟩ := compact_sound h1
      obtain ⟨o, k1, k2⟩ := T.run_bind_some g1
      have k3 := Option.some.inj k2
      simp only [Prod.mk.injEq] at k3
      obtain ⟨rfl, rfl⟩ := k3
      have sl := g2 o.d rfl ⟨rfl, fun i hi => by
        cases i with
        | zero => simp at hi
        | succ i => simp⟩
      simp only at h2
      split at h2
      · rename_i v hv
        have := (Option.some.inj h2).symm
        subst this
        refine ⟨o, k1, fun ρ u hu => ?_, sl.nx, fun ρ ρ' w w' hF hs => ?_⟩
        · have := sl.tm ρ [u] ⟨hu, trivial⟩
          rw [hv] at this
          exact this.1
        · obtain ⟨d, e1, e2⟩ := sl.step rfl hs hF
          show Step ρ ρ' w w' nx st.nx (laidOn h st.h) h
          rw [e1, laidOn_append]
          exact e2
      · cases h2
    · exact hself hr
  · exact hself hr

theorem BlkR.gh_ne {ρ : Nm} {n : Nat} {w : World} {c : Bool} {l : List (AV R)} (h : BlkR ρ n w [.gh c l]) : l ≠ [] := by
  cases h with
  | plain h1 h2 h3 h4 =>
    obtain ⟨v, ws, _, g, _⟩ := h4.cons_inv
    exact (g : False).elim
  | gh h1 h2 => exact h1

theorem Step.unopen {ρ ρ' : Nm} {w w' : World} {nx nx' n : Nat} {d h : Heap R} {c : Bool} {l : List (AV R)} (s : Step ρ ρ' w w' nx nx' d ((n, l) :: h)) (hg : hget h n = some [.gh c l]) (hl : l ≠ []) : Step ρ ρ' w w' nx nx' d h :=
  { s with hr := fun m blk hm => (by
      rw [hget_append] at hm
      cases hd : hget d m with
      | some b =>
        rw [hd] at hm
        exact s.hr m blk (by rw [hget_append, hd]; exact hm)
      | none =>
        rw [hd] at hm
        have hm' : hget h m = some blk := by simpa using hm
        by_cases e : n = m
        · subst e
          rw [hg] at hm'
          cases hm'
          exact .gh hl fun _ => s.hr n l (by rw [hget_append, hd]; simp [hget])
        · exact s.hr m blk (by rw [hget_append, hd]; simpa [hget, e] using hm')) }

theorem opened_spec {h h' : Heap R} {x : AV R} {c : Bool} (ho : opened (D := R) h x = some (c, h')) : ∃ n l, hget h n = some [.gh c l] ∧ h' = (n, l) :: h := by
  unfold opened at ho
  split at ho <;> first | (cases ho; done) | skip
  all_goals
    split at ho
    · rename_i hg; cases ho; exact ⟨_, _, hg, rfl⟩
    · cases ho

theorem run_node_fail {α : Type} {c : Bool} {t : T Bool α} {w : String} {a : α} (h : (T.node c t (.fail w)).run = some a) : c = true ∧ t.run = some a := by
  cases c with
  | true => exact ⟨rfl, h⟩
  | false => cases h

theorem evLoadV_sound {call : CallFn R} (hc : CallOK P call) (o : Oper) {x : AV R} {h : Heap R} {nx : Nat} {out : Out R} {a : Act} {w : World} {K : Act → World → Prop} {Q : Exit → Act → World → Prop} (hr : (evLoadV P call o.op x h nx).run = some out) (hv : VRs ρ [x] (o.op.operands.toList.map a.eval))
    (hH : HR ρ h w) (hI : Inj ρ w) (hF : Fresh ρ nx out.nx) (hK : ∀ ρ' v w', VR ρ' out.v v → Step ρ ρ' w w' nx out.nx out.d h → K (a.put o.dst v) w') : o.wp P a w K Q := by
  unfold evLoadV at hr
  split at hr
  · rename_i c h' ho
    obtain ⟨rfl, hr⟩ := run_node_fail hr
    obtain ⟨n, l, hg, rfl⟩ := opened_spec ho
    have hB := hH n _ hg
    refine evOpV_sound hc o hr hv (fun m blk hm => ?_) hI hF fun ρ' v w' k1 k2 => hK ρ' v w' k1 (k2.unopen hg hB.gh_ne)
    simp only [hget] at hm
    by_cases e : (n == m) = true
    · have : n = m := by simpa using e
      subst this
      rw [if_pos e] at hm
      cases hm
      exact hB.opens rfl
    · rw [if_neg e] at hm; exact hH m blk hm
  · exact evOpV_sound hc o hr hv hH hI hF hK

theorem VRs.ofOpt {ρ : Nm} {n o : Nat} {vs : List Value} (h : VRs ρ [.optr true n o] vs) : VRs ρ [.ptr n o] vs := by
  obtain ⟨v, ws, rfl, h1, h2⟩ := h.cons_inv
  rcases h1 with ⟨_, g⟩ | ⟨e, _⟩
  · exact ⟨g, h2⟩
  · cases e

theorem evOpN_sound {call : CallFn R} (hc : CallOK P call) (o : Oper) {vs : List (AV R)} {h : Heap R} {nx : Nat} {out : Out R} {a : Act} {w : World} {K : Act → World → Prop} {Q : Exit → Act → World → Prop} (hr : (evOpN P call o.op vs h nx).run = some out) (hv : VRs ρ vs (o.op.operands.toList.map a.eval))
    (hH : HR ρ h w) (hI : Inj ρ w) (hF : Fresh ρ nx out.nx) (hK : ∀ ρ' v w', VR ρ' out.v v → Step ρ ρ' w w' nx out.nx out.d h → K (a.put o.dst v) w') : o.wp P a w K Q := by
  unfold evOpN at hr
  split at hr
  · obtain ⟨rfl, hr⟩ := run_node_fail hr
    exact evLoadV_sound hc o hr hv.ofOpt hH hI hF hK
  · exact evLoadV_sound hc o hr hv hH hI hF hK
  · obtain ⟨rfl, hr⟩ := run_node_fail hr
    exact evOpV_sound hc o hr hv.ofOpt hH hI hF hK
  · obtain ⟨rfl, hr⟩ := run_node_fail hr
    exact evOpV_sound hc o hr hv.ofOpt hH hI hF hK
  · exact evOpV_sound hc o hr hv hH hI hF hK

theorem evOper_sound {call : CallFn R} (hc : CallOK P call) {all : List Oper} {i : Nat} {o : Oper} (hi : all[i]? = some o) {tm : List (AV R)} {h : Heap R} {nx : Nat} {out : Out R}
    (hr : (evOper P call all i o tm h nx).run = some out) {a : Act} {w : World} (ht : VRs ρ tm a.tmps.toList) (hH : HR ρ h w) (hI : Inj ρ w) (hF : Fresh ρ nx out.nx) {K : Act → World → Prop} {Q : Exit → Act → World → Prop}
    (hK : ∀ ρ' v w', VR ρ' out.v v → Step ρ ρ' w w' nx out.nx out.d h → K (a.put o.dst v) w') : wpOp P all.toArray Q i K a w := by
  unfold wpOp
  have hi' : all.toArray[i]? = some o := by simpa using hi
  rw [hi']
  simp only
  unfold evOper at hr
  split at hr
  · rename_i hw
    rw [wanted_sound ht hw]
    simp only [if_true]
    left
    split at hr
    · rename_i vs hvs
      obtain ⟨u, h1, h2⟩ := T.run_bind_some hr
      split at h2
      case isFalse => cases h2
      obtain ⟨e1, e2, e3⟩ := splitB_sound h2
      obtain ⟨o1, g1, g2, g3, g4⟩ := compactO_sound h1
      exact evOpN_sound hc o g1 (opds_sound ht hvs) hH hI (fun n c1 c2 => hF n c1 (by rw [e2]; omega)) fun ρ' v w' k1 k2 => hK ρ' v w' (e3 ρ' v (g2 ρ' v k1)) (by rw [e1, e2]; exact g4 ρ ρ' w w' (by rw [← e2]; exact hF) k2)
    · cases hr
  · rename_i hw
    rw [wanted_sound ht hw]
    simp only [Bool.false_eq_true, if_false]
    have := (Option.some.inj hr).symm
    subst this
    exact hK ρ undef w rfl (Step.refl hH hI)
  · cases hr

theorem evOper_mono {call : CallFn R} {all : List Oper} {i : Nat} {o : Oper} {tm : List (AV R)} {h : Heap R} {nx : Nat} {out : Out R} (hr : (evOper P call all i o tm h nx).run = some out) : nx ≤ out.nx := by
  unfold evOper at hr
  split at hr
  · split at hr
    · obtain ⟨u, h1, h2⟩ := T.run_bind_some hr
      split at h2
      · obtain ⟨e1, e2, e3⟩ := splitB_sound h2
        omega
      · cases h2
    · cases hr
  · have := (Option.some.inj hr).symm; subst this; exact Nat.le_refl _
  · cases hr

theorem wrOps_cons (o : Oper) (r : List Oper) : wrOps (o :: r) = match o.dst with
  | some t => wrOps r ||| 2 ^ t
  | none => wrOps r := by
  unfold wrOps
  rw [List.foldr_cons]
  cases o.dst <;> rfl

theorem putT_agree (o : Oper) (r : List Oper) (tm : List (AV R)) (v : AV R) : Agree (wrOps (o :: r)) (putT tm o.dst v) tm := by
  rw [wrOps_cons]
  cases hd : o.dst with
  | none => exact Agree.refl _ _
  | some t =>
    simp only [putT]
    refine ⟨by simp, fun i hi => ?_⟩
    have := (testBit_or_false hi).2
    rw [Nat.testBit_two_pow] at this
    have hne : t ≠ i := by simpa using this
    rw [List.getElem?_set_ne hne]

theorem wrOps_tail (o : Oper) (r : List Oper) {i : Nat} (h : (wrOps (o :: r)).testBit i = false) : (wrOps r).testBit i = false := by
  rw [wrOps_cons] at h
  cases hd : o.dst <;> rw [hd] at h
  · exact h
  · exact (testBit_or_false h).1

/-- What a row of operations comes to, with no machine in sight: new names only, memory laid ahead, other temporaries as they were. -/
theorem evSeq_pure {P : Program} {call : CallFn R} {all : List Oper} : ∀ (r : List Oper) (i : Nat) (tm : List (AV R)) (h : Heap R) (nx : Nat) (tm' : List (AV R)) (h' : Heap R) (nx' : Nat), (evSeq P call all r i tm h nx).run = some (tm', h', nx') →
    nx ≤ nx' ∧ (∃ d, h' = d ++ h) ∧ Agree (wrOps r) tm' tm
  | [], _, _, _, _, _, _, _, hr => by simp only [evSeq] at hr; cases hr; exact ⟨Nat.le_refl _, ⟨[], rfl⟩, Agree.refl _ _⟩
  | o :: r, i, tm, h, nx, tm', h', nx', hr => by
    simp only [evSeq] at hr
    obtain ⟨u, h1, h2⟩ := T.run_bind_some hr
    obtain ⟨g1, ⟨d, g2⟩, g3⟩ := evSeq_pure r _ _ _ _ _ _ _ h2
    exact ⟨Nat.le_trans (evOper_mono h1) g1, ⟨d ++ u.d, by rw [g2, List.append_assoc]⟩, (g3.mono fun _ hi => wrOps_tail o r hi).trans (putT_agree o r tm u.v)⟩

/-- A row of operations out of a region whose order is that of its list. -/
theorem evSeq_sound {call : CallFn R} (hc : CallOK P call) {all : List Oper} {Q : Exit → Act → World → Prop} : ∀ (r s : List Oper) (L : List Nat) (i : Nat) (tm : List (AV R)) (h : Heap R) (nx : Nat) (tm' : List (AV R)) (h' : Heap R) (nx' : Nat) (ρ : Nm) (a : Act) (w : World),
    all.drop i = r ++ s → (evSeq P call all r i tm h nx).run = some (tm', h', nx') → VRs ρ tm a.tmps.toList → HR ρ h w → Inj ρ w → Fresh ρ nx nx' →
    (∀ ρ' a' w', a'.defers = a.defers → VRs ρ' tm' a'.tmps.toList → (∃ d, h' = d ++ h ∧ Step ρ ρ' w w' nx nx' d h) → wpOps P all.toArray Q L a' w') →
    wpOps P all.toArray Q (List.range' i r.length ++ L) a w
  | [], s, L, i, tm, h, nx, tm', h', nx', ρ, a, w, _, hr, ht, hH, hI, _, hQ => by
    simp only [evSeq] at hr
    cases hr
    exact hQ ρ a w rfl ht ⟨[], rfl, Step.refl hH hI⟩
  | o :: r, s, L, i, tm, h, nx, tm', h', nx', ρ, a, w, hd, hr, ht, hH, hI, hF, hQ => by
    simp only [evSeq] at hr
    obtain ⟨u, h1, h2⟩ := T.run_bind_some hr
    have m1 := evOper_mono h1
    have m2 := (evSeq_pure _ _ _ _ _ _ _ _ h2).1
    have hi : all[i]? = some o := by
      have := congrArg List.head? hd
      simpa [List.head?_drop] using this
    have hd' : all.drop (i + 1) = r ++ s := by
      have := congrArg List.tail hd
      simpa [List.tail_drop] using this
    rw [List.length_cons, List.range'_succ, List.cons_append, wpOps_cons]
    refine evOper_sound hc hi h1 ht hH hI (fun n a1 a2 => hF n a1 (by omega)) fun ρ' v w' k1 k2 => ?_
    have kn := k2.knows (fun n a1 a2 => hF n a1 (by omega))
    refine evSeq_sound hc r s L (i + 1) _ _ _ tm' h' nx' ρ' _ w' hd' h2 (put_VRs (VRs.mono kn _ _ ht) k1 o.dst) k2.hr k2.inj ?_ ?_
    · intro n a1 a2
      rw [k2.old n (by omega)]
      exact hF n (by omega) a2
    · rintro ρ2 a2 w2 e1 e2 ⟨d, e3, e4⟩
      refine hQ ρ2 a2 w2 (by rw [e1, put_defers]) e2 ⟨d ++ u.d, by rw [e3, List.append_assoc], k2.trans e4⟩

theorem wrOps_append (r s : List Oper) {i : Nat} (h : (wrOps (r ++ s)).testBit i = false) : (wrOps r).testBit i = false ∧ (wrOps s).testBit i = false := by
  induction r with
  | nil => exact ⟨by simp [wrOps], h⟩
  | cons o r ih =>
    rw [List.cons_append] at h
    refine ⟨?_, (ih (wrOps_tail o _ h)).2⟩
    have h1 := (ih (wrOps_tail o _ h)).1
    rw [wrOps_cons] at h ⊢
    cases hd : o.dst with
    | none => exact h1
    | some t =>
      rw [hd] at h
      rw [Nat.testBit_or, Bool.or_eq_false_iff]
      exact ⟨h1, (testBit_or_false h).2⟩

/-- The state of a segment, its ways taken together. -/
theorem seg_inv {P : Program} {call : CallFn R} {all r : List Oper} {i : Nat} {tm : List (AV R)} {h : Heap R} {nx : Nat} {e : Ex} {st : St R}
    (hr : (compact (D := R) (wrOps r) tm h nx ((evSeq P call all r i tm h nx).bind fun (tm, h, nx) => .ret (.normal, ⟨tm, h, nx⟩))).run = some (e, st)) :
    ∃ s : St R, ∃ d0, (evSeq P call all r i tm h nx).run = some (s.tm, s.h, s.nx) ∧ s.h = d0 ++ h ∧ StLe (wrOps r) tm h nx s d0 st ∧ nx ≤ s.nx := by
  obtain ⟨s, g1, g2⟩ := compact_sound hr
  obtain ⟨⟨tm1, h1, nx1⟩, k1, k2⟩ := T.run_bind_some g1
  have k3 := Option.some.inj k2
  simp only [Prod.mk.injEq] at k3
  obtain ⟨_, rfl⟩ := k3
  obtain ⟨p1, ⟨d0, p2⟩, p3⟩ := evSeq_pure _ _ _ _ _ _ _ _ k1
  exact ⟨_, d0, k1, p2, g2 d0 p2 p3, p1⟩

theorem evSegs_pure {P : Program} {call : CallFn R} {all : List Oper} : ∀ (ks : List Nat) (r : List Oper) (i : Nat) (tm : List (AV R)) (h : Heap R) (nx : Nat) (tm' : List (AV R)) (h' : Heap R) (nx' : Nat), (evSegs P call all ks r i tm h nx).run = some (tm', h', nx') →
    nx ≤ nx' ∧ (∃ d, h' = d ++ h) ∧ Agree (wrOps r) tm' tm
  | [], [], _, _, _, _, _, _, _, hr => by simp only [evSegs] at hr; cases hr; exact ⟨Nat.le_refl _, ⟨[], rfl⟩, Agree.refl _ _⟩
  | [], _ :: _, _, _, _, _, _, _, _, hr => by simp only [evSegs] at hr; cases hr
  | k :: ks, r, i, tm, h, nx, tm', h', nx', hr => by
    simp only [evSegs] at hr
    obtain ⟨⟨e, st⟩, h1, h2⟩ := T.run_bind_some hr
    simp only at h2
    split at h2
    · obtain ⟨s, d0, g1, g2, g3, g4⟩ := seg_inv h1
      obtain ⟨p1, ⟨d, p2⟩, p3⟩ := evSegs_pure ks _ _ _ _ _ _ _ _ h2
      obtain ⟨d1, q1, _⟩ := g3.lay
      refine ⟨Nat.le_trans g4 (Nat.le_trans g3.nx p1), ⟨d ++ d1, by rw [p2, q1, List.append_assoc]⟩, ?_⟩
      have hsp : ∀ j, (wrOps r).testBit j = false → (wrOps (r.take k)).testBit j = false ∧ (wrOps (r.drop k)).testBit j = false := fun j hj => wrOps_append _ _ (by rw [List.take_append_drop]; exact hj)
      exact (p3.mono fun j hj => (hsp j hj).2).trans (g3.ag.mono fun j hj => (hsp j hj).1)
    · cases h2

/-- A region whose order is that of its list. -/
theorem evSegs_sound {call : CallFn R} (hc : CallOK P call) {all : List Oper} {Q : Exit → Act → World → Prop} : ∀ (ks : List Nat) (r : List Oper) (i : Nat) (tm : List (AV R)) (h : Heap R) (nx : Nat) (tm' : List (AV R)) (h' : Heap R) (nx' : Nat) (ρ : Nm) (a : Act) (w : World),
    all.drop i = r → (evSegs P call all ks r i tm h nx).run = some (tm', h', nx') → VRs ρ tm a.tmps.toList → HR ρ h w → Inj ρ w → Fresh ρ nx nx' →
    (∀ ρ' a' w', a'.defers = a.defers → VRs ρ' tm' a'.tmps.toList → (∃ d, h' = d ++ h ∧ Step ρ ρ' w w' nx nx' d h) → Q .normal a' w') →
    wpOps P all.toArray Q (List.range' i r.length) a w
  | [], [], i, tm, h, nx, tm', h', nx', ρ, a, w, _, hr, ht, hH, hI, _, hQ => by
    simp only [evSegs] at hr
    cases hr
    exact hQ ρ a w rfl ht ⟨[], rfl, Step.refl hH hI⟩
  | [], _ :: _, _, _, _, _, _, _, _, _, _, _, _, hr, _, _, _, _, _ => by simp only [evSegs] at hr; cases hr
  | k :: ks, r, i, tm, h, nx, tm', h', nx', ρ, a, w, hd, hr, ht, hH, hI, hF, hQ => by
    simp only [evSegs] at hr
    obtain ⟨⟨e, st⟩, h1, h2⟩ := T.run_bind_some hr
    simp only at h2
    split at h2
    · obtain ⟨s, d0, g1, g2, g3, g4⟩ := seg_inv h1
      have m2 := (evSegs_pure _ _ _ _ _ _ _ _ _ h2).1
      have hnx := g3.nx
      have hlen : r.length = (r.take k).length + (r.drop k).length := by rw [← List.length_append, List.take_append_drop]
      have hdr : all.drop (i + (r.take k).length) = r.drop k := by
        rw [← List.drop_drop, hd, List.length_take]
        by_cases hk : k ≤ r.length
        · rw [Nat.min_eq_left hk]
        · rw [Nat.min_eq_right (by omega), List.drop_eq_nil_of_le (by omega), List.drop_eq_nil_of_le (by omega)]
      rw [hlen, ← List.range'_append_1]
      refine evSeq_sound hc (r.take k) (r.drop k) _ i tm h nx _ _ _ ρ a w (by rw [List.take_append_drop]; exact hd) g1 ht hH hI (fun n a1 a2 => hF n a1 (by omega)) ?_
      rintro ρ1 a1 w1 e1 e2 ⟨d, e3, e4⟩
      have hdd : d0 = d := by rw [g2] at e3; exact List.append_cancel_right e3
      subst hdd
      obtain ⟨d2, q1, q2⟩ := g3.step g2 e4 (fun n a1 a2 => hF n a1 (by omega))
      refine evSegs_sound hc ks (r.drop k) _ st.tm st.h st.nx tm' h' nx' ρ1 a1 w1 hdr h2 (g3.tm _ _ e2) (by rw [q1]; exact q2.hr) q2.inj ?_ ?_
      · intro n c1 c2
        rw [q2.old n (by omega)]
        exact hF n (by omega) c2
      · rintro ρ2 a2 w2 f1 f2 ⟨d3, f3, f4⟩
        rw [q1] at f3 f4
        exact hQ ρ2 a2 w2 (f1.trans e1) f2 ⟨d3 ++ d2, by rw [f3, List.append_assoc], q2.trans f4⟩
    · cases h2

end
end Go.Ev
/- Regions that draw their order: whatever order comes, it comes to the same. -/
namespace Go.Ev

structure Item where
  o : Oper
  mask : Nat
  seen : Heap R
  v : AV R
  d : Heap R
  nx : Nat
  nx' : Nat

noncomputable def Item.rec' (it : Item) : Rec R := ⟨it.mask, it.seen, it.d⟩

noncomputable def tmOf (p : Nat → Bool) : List (AV R) → List Item → Nat → List (AV R)
  | tm, [], _ => tm
  | tm, it :: r, i => tmOf p (if p i then putT tm it.o.dst it.v else tm) r (i + 1)

theorem putT_get (tm : List (AV R)) (dst : Option Tmp) (v : AV R) (t : Nat) : (putT tm dst v)[t]? = if dst = some t then (tm[t]?).map (fun _ => v) else tm[t]? := by
  cases dst with
  | none => simp [putT]
  | some d =>
    simp only [putT]
    by_cases e : d = t
    · subst e
      simp only [if_true]
      rw [List.getElem?_set_self']
      cases tm[d]? <;> rfl
    · have : ¬ (some d = some t) := by simpa using e
      rw [if_neg this, List.getElem?_set_ne e]

theorem tmOf_eq {p q : Nat → Bool} : ∀ (items : List Item) (i : Nat) (tm : List (AV R)), (∀ k, k < items.length → p (i + k) = q (i + k)) → tmOf p tm items i = tmOf q tm items i
  | [], _, _, _ => rfl
  | it :: r, i, tm, h => by
    simp only [tmOf]
    rw [show p i = q i from by simpa using h 0 (by simp)]
    exact tmOf_eq r (i + 1) _ fun k hk => by have := h (k + 1) (by simp; omega); simpa [Nat.add_assoc, Nat.add_comm 1] using this

theorem tmOf_congr {p q : Nat → Bool} (t : Nat) : ∀ (items : List Item) (i : Nat) (tm tm' : List (AV R)), tm[t]? = tm'[t]? → (∀ k it, items[k]? = some it → it.o.dst = some t → p (i + k) = q (i + k)) →
    (tmOf p tm items i)[t]? = (tmOf q tm' items i)[t]?
  | [], _, _, _, h, _ => h
  | it :: r, i, tm, tm', h, hk => by
    simp only [tmOf]
    refine tmOf_congr t r (i + 1) _ _ ?_ fun k it' hi hd => by have := hk (k + 1) it' (by simpa using hi) hd; simpa [Nat.add_assoc, Nat.add_comm 1] using this
    by_cases hd : it.o.dst = some t
    · have := hk 0 it rfl hd
      simp only [Nat.add_zero] at this
      rw [this]
      split
      · rw [putT_get, putT_get, if_pos hd, if_pos hd, h]
      · exact h
    · have e1 : ∀ (x : List (AV R)), (putT x it.o.dst it.v)[t]? = x[t]? := fun x => by rw [putT_get, if_neg hd]
      split <;> split <;> simp [e1, h]

theorem tmOf_take (k : Nat) : ∀ (items : List Item) (tm : List (AV R)) (i : Nat), tmOf (fun _ => true) tm (items.take k) i = tmOf (fun j => decide (j < i + k)) tm items i := by
  induction k with
  | zero =>
    intro items tm i
    simp only [List.take_zero, tmOf]
    have : ∀ (items : List Item) (j : Nat), i ≤ j → tmOf (fun j => decide (j < i + 0)) tm items j = tm := by
      intro items
      induction items with
      | nil => intro _ _; rfl
      | cons it r ih =>
        intro j hj
        simp only [tmOf]
        rw [if_neg (by simp; omega)]
        exact ih (j + 1) (by omega)
    exact (this items i (Nat.le_refl _)).symm
  | succ k ih =>
    intro items tm i
    cases items with
    | nil => rfl
    | cons it r =>
      simp only [List.take_succ_cons, tmOf, if_true]
      rw [if_pos (by simp), ih r _ (i + 1)]
      exact tmOf_eq r (i + 1) _ fun j _ => by simp [Nat.add_assoc, Nat.add_comm 1]

theorem heapOf_eq {p q : Nat → Bool} : ∀ (recs : List (Rec R)) (i : Nat) (h : Heap R), (∀ k, k < recs.length → p (i + k) = q (i + k)) → heapOf p h recs i = heapOf q h recs i
  | [], _, _, _ => rfl
  | it :: r, i, h, hk => by
    simp only [heapOf]
    rw [show p i = q i from by simpa using hk 0 (by simp)]
    exact heapOf_eq r (i + 1) _ fun k hk' => by have := hk (k + 1) (by simp; omega); simpa [Nat.add_assoc, Nat.add_comm 1] using this

theorem heapOf_none {p : Nat → Bool} : ∀ (recs : List (Rec R)) (i : Nat) (h : Heap R), (∀ k, k < recs.length → p (i + k) = false) → heapOf p h recs i = h
  | [], _, _, _ => rfl
  | it :: r, i, h, hk => by
    simp only [heapOf]
    rw [show p i = false from by simpa using hk 0 (by simp)]
    exact heapOf_none r (i + 1) _ fun k hk' => by have := hk (k + 1) (by simp; omega); simpa [Nat.add_assoc, Nat.add_comm 1] using this

theorem heapOf_append {p : Nat → Bool} : ∀ (l1 l2 : List (Rec R)) (i : Nat) (h : Heap R), heapOf p h (l1 ++ l2) i = heapOf p (heapOf p h l1 i) l2 (i + l1.length)
  | [], _, _, _ => rfl
  | r :: l1, l2, i, h => by
    simp only [List.cons_append, heapOf]
    rw [heapOf_append l1 l2 (i + 1)]
    simp [Nat.add_assoc, Nat.add_comm 1]

theorem heapOf_congr {p q : Nat → Bool} (n : Nat) : ∀ (recs : List (Rec R)) (i : Nat) (h h' : Heap R), hget h n = hget h' n → (∀ k r, recs[k]? = some r → (hget r.d n).isSome = true → p (i + k) = q (i + k)) →
    hget (heapOf p h recs i) n = hget (heapOf q h' recs i) n
  | [], _, _, _, h, _ => h
  | r :: rs, i, h, h', he, hk => by
    simp only [heapOf]
    refine heapOf_congr n rs (i + 1) _ _ ?_ fun k r' hi hd => by have := hk (k + 1) r' (by simpa using hi) hd; simpa [Nat.add_assoc, Nat.add_comm 1] using this
    cases hd : hget r.d n with
    | some b =>
      have := hk 0 r rfl (by rw [hd]; rfl)
      simp only [Nat.add_zero] at this
      rw [this]
      split
      · rw [hget_append, hget_append, hd]; rfl
      · exact he
    | none =>
      have e1 : ∀ (x : Heap R), hget (r.d ++ x) n = hget x n := fun x => by rw [hget_append, hd]; rfl
      split <;> split <;> simp [e1, he]

theorem heapOf_hit {p : Nat → Bool} (n : Nat) (blk : List (AV R)) : ∀ (recs : List (Rec R)) (i : Nat) (h : Heap R) (j : Nat) (r : Rec R), recs[j]? = some r → p (i + j) = true → hget r.d n = some blk →
    (∀ k r', j < k → recs[k]? = some r' → p (i + k) = true → hget r'.d n = none) → hget (heapOf p h recs i) n = some blk
  | [], _, _, _, _, h, _, _, _ => by simp at h
  | r0 :: rs, i, h, 0, r, hj, hp, hd, hk => by
    simp at hj; subst hj
    simp only [heapOf]
    simp only [Nat.add_zero] at hp
    rw [hp]
    simp only [if_true]
    rw [heapOf_congr (p := p) (q := fun _ => false) n rs (i + 1) _ (r0.d ++ h) rfl fun k r' hi hd' => by
      cases hpk : p (i + 1 + k) with
      | false => rfl
      | true =>
        have := hk (k + 1) r' (by omega) (by simpa using hi) (by rw [← hpk]; congr 1; omega)
        rw [this] at hd'; cases hd']
    rw [heapOf_none rs (i + 1) _ (fun _ _ => rfl), hget_append, hd]; rfl
  | r0 :: rs, i, h, j + 1, r, hj, hp, hd, hk => by
    simp only [heapOf]
    exact heapOf_hit n blk rs (i + 1) _ j r (by simpa using hj) (by rw [← hp]; congr 1; omega) hd fun k r' h1 h2 h3 => hk (k + 1) r' (by omega) (by simpa using h2) (by rw [← h3]; congr 1; omega)

theorem heapOf_all : ∀ (recs : List (Rec R)) (i : Nat) (h : Heap R), ∃ d, heapOf (fun _ => true) h recs i = d ++ h ∧ ∀ n, (hget d n).isSome = true ↔ ∃ (k : Nat) (r : Rec R), recs[k]? = some r ∧ (hget r.d n).isSome = true
  | [], _, h => ⟨[], rfl, fun n => by simp [hget]⟩
  | r :: rs, i, h => by
    obtain ⟨d, h1, h2⟩ := heapOf_all rs (i + 1) (r.d ++ h)
    refine ⟨d ++ r.d, by simp only [heapOf, if_true]; rw [h1, List.append_assoc], fun n => ?_⟩
    rw [hget_append]
    constructor
    · intro hs
      cases hd : hget d n with
      | some b =>
        obtain ⟨k, r', g1, g2⟩ := (h2 n).1 (by rw [hd]; rfl)
        exact ⟨k + 1, r', by simpa using g1, g2⟩
      | none =>
        rw [hd] at hs
        exact ⟨0, r, rfl, by simpa using hs⟩
    · rintro ⟨k, r', g1, g2⟩
      cases k with
      | zero =>
        simp at g1; subst g1
        cases hd : hget d n with
        | some b => rfl
        | none => simpa using g2
      | succ k =>
        have := (h2 n).2 ⟨k, r', by simpa using g1, g2⟩
        cases hd : hget d n with
        | some b => rfl
        | none => rw [hd] at this; cases this

theorem blockAt_sub {tm : List (AV R)} {h : Heap R} {a : Option Operand} {n : Nat} {blk : List (AV R)} (hg : hget (blockAt tm h a) n = some blk) : hget h n = some blk := by
  have one : ∀ (k : Nat) (b : List (AV R)), hget h k = some b → hget [(k, b)] n = some blk → hget h n = some blk := by
    intro k b hb hg
    simp only [hget] at hg
    by_cases e : (k == n) = true
    · have : k = n := by simpa using e
      subst this
      rw [if_pos e] at hg
      cases hg
      exact hb
    · rw [if_neg e] at hg; cases hg
  unfold blockAt at hg
  split at hg
  · split at hg
    · split at hg
      · rename_i b hb; exact one _ b hb hg
      · cases hg
    · split at hg
      · rename_i b hb; exact one _ b hb hg
      · cases hg
    · split at hg
      · rename_i b hb; exact one _ b hb hg
      · cases hg
    · exact hg
  · exact hg

theorem narrow_sub {op : Op} {tm : List (AV R)} {h : Heap R} {n : Nat} {blk : List (AV R)} (hg : hget (narrow op tm h) n = some blk) : hget h n = some blk := by
  unfold narrow at hg
  split at hg
  · cases hg
  · split at hg
    · exact blockAt_sub hg
    · exact blockAt_sub hg
    · exact hg

/-- Which operations were reckoned, and how. -/
structure Drawn (P : Program) (call : CallFn R) (all : List Oper) (h0 : Heap R) (tm : List (AV R)) (i : Nat) (pre : List (Rec R)) (nx nx' : Nat) (items : List Item) : Prop where
  le : nx ≤ nx'
  run : ∀ (k : Nat) (it : Item), items[k]? = some it → (evOper P call all (i + k) it.o (tmOf (fun _ => true) tm (items.take k) 0) it.seen it.nx).run = some ⟨it.v, it.d, it.nx'⟩
  seen : ∀ (k : Nat) (it : Item), items[k]? = some it → ∀ n blk, hget it.seen n = some blk → hget (heapOf (fun j => it.mask.testBit j) h0 (pre ++ (items.take k).map Item.rec') 0) n = some blk
  lo : ∀ (k : Nat) (it : Item), items[k]? = some it → nx ≤ it.nx ∧ it.nx ≤ it.nx' ∧ it.nx' ≤ nx'
  apart : ∀ (k k2 : Nat) (it it2 : Item), items[k]? = some it → items[k2]? = some it2 → k < k2 → it.nx' ≤ it2.nx

theorem tmOf_shift (items : List Item) : ∀ (tm : List (AV R)) (i j : Nat), tmOf (fun _ => true) tm items i = tmOf (fun _ => true) tm items j := by
  induction items with
  | nil => intro _ _ _; rfl
  | cons it r ih => intro tm i j; simp only [tmOf, if_true]; exact ih _ _ _

theorem evDraw_inv {P : Program} {call : CallFn R} {all : List Oper} {h0 : Heap R} : ∀ (r : List Oper) (ms : List Nat) (i : Nat) (recs : List (Rec R)) (tm : List (AV R)) (nx : Nat) (tm' : List (AV R)) (recs' : List (Rec R)) (nx' : Nat),
    (evDraw P call all h0 r ms i recs tm nx).run = some (tm', recs', nx') →
    ∃ items : List Item, items.map (·.o) = r ∧ (∀ (k : Nat) (it : Item), items[k]? = some it → ms[k]? = some it.mask) ∧ recs' = recs ++ items.map Item.rec' ∧ tm' = tmOf (fun _ => true) tm items 0 ∧ Drawn P call all h0 tm i recs nx nx' items
  | [], ms, i, recs, tm, nx, tm', recs', nx', h => by
    simp only [evDraw] at h
    cases h
    exact ⟨[], rfl, by simp, by simp, rfl, ⟨Nat.le_refl _, by simp, by simp, by simp, by simp⟩⟩
  | o :: r, [], i, recs, tm, nx, tm', recs', nx', h => by simp only [evDraw] at h; cases h
  | o :: r, m :: ms, i, recs, tm, nx, tm', recs', nx', h => by
    simp only [evDraw] at h
    obtain ⟨u, h1, h2⟩ := T.run_bind_some h
    obtain ⟨items, g1, g2, g3, g4, g5⟩ := evDraw_inv r ms (i + 1) _ _ _ _ _ _ h2
    have m1 := evOper_mono h1
    let it0 : Item := ⟨o, m, narrow o.op tm (heapOf (fun k => m.testBit k) h0 recs 0), u.v, u.d, nx, u.nx⟩
    refine ⟨it0 :: items, by simp [g1, it0], ?_, by rw [g3]; simp [Item.rec', it0], by rw [g4]; simp only [tmOf, if_true]; exact tmOf_shift _ _ _ _, ?_⟩
    · intro k it hk
      cases k with
      | zero => simp at hk; subst hk; rfl
      | succ k => simpa using g2 k it (by simpa using hk)
    · constructor
      · exact Nat.le_trans m1 g5.le
      · intro k it hk
        cases k with
        | zero => simp at hk; subst hk; exact h1
        | succ k =>
          have := g5.run k it (by simpa using hk)
          simp only [List.take_succ_cons, tmOf, if_true]
          rw [tmOf_shift _ _ (0 + 1) 0]
          have e : i + (k + 1) = i + 1 + k := by omega
          rw [e]
          exact this
      · intro k it hk
        cases k with
        | zero =>
          simp at hk; subst hk
          intro n blk hg
          simpa using narrow_sub hg
        | succ k =>
          intro n blk hg
          have := g5.seen k it (by simpa using hk) n blk hg
          rw [← this]
          simp [Item.rec', it0]
      · intro k it hk
        cases k with
        | zero => simp at hk; subst hk; exact ⟨Nat.le_refl _, m1, g5.le⟩
        | succ k =>
          have := g5.lo k it (by simpa using hk)
          exact ⟨by omega, this.2.1, this.2.2⟩
      · intro k k2 it it2 hk hk2 hlt
        cases k2 with
        | zero => omega
        | succ k2 =>
          cases k with
          | zero =>
            simp at hk; subst hk
            exact (g5.lo k2 it2 (by simpa using hk2)).1
          | succ k => exact g5.apart k k2 it it2 (by simpa using hk) (by simpa using hk2) (by omega)

end Go.Ev
/- Regions that draw their order, second part: the invariant. -/
namespace Go.Ev

theorem maskOf_spec (masks : List Nat) (i : Nat) : ∀ (es : List Edge) (m : Nat), maskOf masks i es = some m →
    (∀ e ∈ es, Region.binds .any e = true → e.on < i) ∧ (∀ k, m.testBit k = true → ∃ e ∈ es, Region.binds .any e = true ∧ (k = e.on ∨ (masks.getD e.on 0).testBit k = true))
  | [], m, h => by
    simp only [maskOf] at h; cases h
    exact ⟨fun _ he => (by cases he), fun k hk => by simp at hk⟩
  | e :: r, m, h => by
    simp only [maskOf] at h
    split at h
    · cases h
    · rename_i m' hm
      obtain ⟨h1, h2⟩ := maskOf_spec masks i r m' hm
      split at h
      · rename_i hb
        split at h
        · rename_i hlt
          cases h
          refine ⟨fun e' he' hb' => ?_, fun k hk => ?_⟩
          · rcases List.mem_cons.1 he' with rfl | he'
            · exact hlt
            · exact h1 e' he' hb'
          · rw [Nat.testBit_or, Nat.testBit_or] at hk
            simp only [Bool.or_eq_true] at hk
            rcases hk with hk | hk | hk
            · obtain ⟨e', he', hb', hh⟩ := h2 k hk
              exact ⟨e', List.mem_cons_of_mem _ he', hb', hh⟩
            · rw [Nat.testBit_two_pow] at hk
              exact ⟨e, List.mem_cons_self, hb, .inl (by simpa using hk : e.on = k).symm⟩
            · exact ⟨e, List.mem_cons_self, hb, .inr hk⟩
        · cases h
      · rename_i hb
        cases h
        refine ⟨fun e' he' hb' => ?_, fun k hk => ?_⟩
        · rcases List.mem_cons.1 he' with rfl | he'
          · exact absurd hb' hb
          · exact h1 e' he' hb'
        · obtain ⟨e', he', hb', hh⟩ := h2 k hk
          exact ⟨e', List.mem_cons_of_mem _ he', hb', hh⟩

theorem masksOf_spec : ∀ (r : List Oper) (i : Nat) (acc ms : List Nat), acc.length = i → masksOf r i acc = some ms →
    (∃ t, ms = acc ++ t ∧ t.length = r.length) ∧ ∀ k o, r[k]? = some o → ∃ m, ms[i + k]? = some m ∧ (∀ e ∈ o.after.toList, Region.binds .any e = true → e.on < i + k) ∧
      (∀ j, m.testBit j = true → ∃ e ∈ o.after.toList, Region.binds .any e = true ∧ (j = e.on ∨ (ms.getD e.on 0).testBit j = true))
  | [], i, acc, ms, hl, h => by
    simp only [masksOf] at h; cases h
    exact ⟨⟨[], by simp, rfl⟩, by simp⟩
  | o :: r, i, acc, ms, hl, h => by
    simp only [masksOf] at h
    split at h
    · rename_i m hm
      obtain ⟨⟨t, ht, htl⟩, h2⟩ := masksOf_spec r (i + 1) (acc ++ [m]) ms (by simp [hl]) h
      obtain ⟨g1, g2⟩ := maskOf_spec acc i _ m hm
      refine ⟨⟨m :: t, by rw [ht]; simp, by simp [htl]⟩, ?_⟩
      intro k o' hk
      cases k with
      | zero =>
        simp at hk; subst hk
        refine ⟨m, by rw [ht]; simp [← hl], g1, fun j hj => ?_⟩
        obtain ⟨e, he, hb, hh⟩ := g2 j hj
        refine ⟨e, he, hb, hh.imp id fun hbit => ?_⟩
        have hlt : e.on < acc.length := by rw [hl]; exact g1 e he hb
        have : ms.getD e.on 0 = acc.getD e.on 0 := by
          rw [ht, List.append_assoc, List.getD_eq_getElem?_getD, List.getD_eq_getElem?_getD, List.getElem?_append_left hlt]
        rw [this]; exact hbit
      | succ k =>
        obtain ⟨m', a1, a2, a3⟩ := h2 k o' (by simpa using hk)
        have e : i + (k + 1) = i + 1 + k := by omega
        exact ⟨m', by rw [e]; exact a1, by rw [e]; exact a2, a3⟩
    · cases h

theorem drawTmps_spec {all : List Oper} {ms : List Nat} (h : drawTmps all ms = true) {i j : Nat} {p o : Oper} (hp : all[i]? = some p) (ho : all[j]? = some o) (hne : i ≠ j) {t : Tmp} (ht : p.dst = some t) :
    o.dst ≠ some t ∧ (t ∈ looksT all o → (ms.getD j 0).testBit i = true ∨ (ms.getD i 0).testBit j = true) := by
  unfold drawTmps at h
  rw [List.all_eq_true] at h
  have h1 := h (o, j) (List.mem_zipIdx_iff_getElem?.2 ho)
  rw [List.all_eq_true] at h1
  have h2 := h1 (p, i) (List.mem_zipIdx_iff_getElem?.2 hp)
  simp only [Bool.or_eq_true, beq_iff_eq, ht, Bool.and_eq_true, bne_iff_ne, ne_eq, Bool.not_eq_true'] at h2
  rcases h2 with h2 | ⟨h2, h3⟩
  · exact absurd h2 hne
  · refine ⟨h2, fun hm => ?_⟩
    rcases h3 with (h3 | h3) | h3
    · have : (looksT all o).contains t = true := by simpa using hm
      rw [this] at h3; cases h3
    · exact .inl h3
    · exact .inr h3

theorem drawMem_spec {recs : List (Rec R)} (h : drawMem recs = true) {i j : Nat} {a b : Rec R} (ha : recs[i]? = some a) (hb : recs[j]? = some b) (hne : i ≠ j) (h1 : a.mask.testBit j = false) (h2 : b.mask.testBit i = false) {n : Nat}
    (hn : (hget a.d n).isSome = true) : hget b.seen n = none ∧ hget b.d n = none := by
  unfold drawMem at h
  rw [List.all_eq_true] at h
  have g := h (a, i) (List.mem_zipIdx_iff_getElem?.2 ha)
  simp only [Bool.or_eq_true] at g
  rcases g with g | g
  · have : a.d = [] := by simpa using g
    rw [this] at hn; cases hn
  · rw [List.all_eq_true] at g
    have g2 := g (b, j) (List.mem_zipIdx_iff_getElem?.2 hb)
    simp only [Bool.or_eq_true, beq_iff_eq] at g2
    rcases g2 with ((g2 | g2) | g2) | g2
    · exact absurd g2 hne
    · rw [h1] at g2; cases g2
    · rw [h2] at g2; cases g2
    · rw [List.all_eq_true] at g2
      have key : ∀ (d : Heap R), (∀ x ∈ d, ((hget b.seen x.1).isNone && (hget b.d x.1).isNone) = true) → (hget d n).isSome = true → hget b.seen n = none ∧ hget b.d n = none := by
        intro d
        induction d with
        | nil => intro _ hh; cases hh
        | cons q r ih =>
          obtain ⟨m, blk⟩ := q
          intro hd hh
          simp only [hget] at hh
          by_cases e : (m == n) = true
          · have e' : m = n := by simpa using e
            subst e'
            have := hd (m, blk) List.mem_cons_self
            simpa using this
          · simp only [e] at hh
            exact ih (fun x hx => hd x (List.mem_cons_of_mem _ hx)) hh
      exact key a.d g2 hn

theorem opds_congr {tm tm' : List (AV R)} : ∀ (xs : List Operand), (∀ t, Operand.tmp t ∈ xs → tm[t]? = tm'[t]?) → opds tm xs = opds tm' xs
  | [], _ => rfl
  | x :: r, h => by
    have e : opd tm x = opd tm' x := by
      cases x with
      | tmp t => exact h t List.mem_cons_self
      | _ => rfl
    simp only [opds, e, opds_congr r fun t ht => h t (List.mem_cons_of_mem _ ht)]

theorem evOper_congr {P : Program} {call : CallFn R} {all : List Oper} {i : Nat} {o : Oper} {tm tm' : List (AV R)} {h : Heap R} {nx : Nat} (hl : ∀ t ∈ looksT all o, tm[t]? = tm'[t]?) :
    evOper P call all i o tm h nx = evOper P call all i o tm' h nx := by
  have e1 : wantedV all tm o = wantedV all tm' o := by
    unfold wantedV
    split
    · rfl
    · rename_i j want hg
      cases hj : all[j]? with
      | none => rfl
      | some g =>
        cases ht : g.dst with
        | none => simp [ht]
        | some t =>
          have : t ∈ looksT all o := by
            unfold looksT Oper.looksAt
            rw [hg]
            simp [hj, ht]
          simp only [ht, hl t this]
  have e2 : opds tm o.op.operands.toList = opds tm' o.op.operands.toList := opds_congr _ fun t ht => hl t (by
    unfold looksT Oper.looksAt
    exact List.mem_append_left _ (List.mem_filterMap.2 ⟨.tmp t, ht, rfl⟩))
  unfold evOper
  rw [e1, e2]

theorem count_set_true : ∀ (l : List Bool) (i : Nat), l[i]? = some false → (l.set i true).count false + 1 = l.count false
  | [], i, h => by simp at h
  | b :: l, 0, h => by simp at h; subst h; simp
  | b :: l, i + 1, h => by
    have := count_set_true l i (by simpa using h)
    simp only [List.set_cons_succ, List.count_cons]
    omega

theorem HR.congr {ρ : Nm} {h h' : Heap R} {w : World} (hh : ∀ n, hget h n = hget h' n) (x : HR ρ h w) : HR ρ h' w := fun n blk hg => x n blk (by rw [hh]; exact hg)

/-- The state in the midst of such a region: those of 'p' are done. -/
structure Mid (items : List Item) (tm0 : List (AV R)) (h0 : Heap R) (ρ0 : Nm) (a0 : Act) (w0 : World) (nx0 nxF : Nat) (p : Nat → Bool) (ρ : Nm) (a : Act) (w : World) : Prop where
  defers : a.defers = a0.defers
  inj : Inj ρ w
  tm : VRs ρ (tmOf p tm0 items 0) a.tmps.toList
  hr : HR ρ (heapOf p h0 (items.map Item.rec') 0) w
  fresh : ∀ (k : Nat) (it : Item), items[k]? = some it → p k = false → Fresh ρ it.nx it.nx'
  old : ∀ n, ¬ (nx0 ≤ n ∧ n < nxF) → ρ.pl n = ρ0.pl n
  st : ∀ n, ¬ (nx0 ≤ n ∧ n < nxF) → ρ.st n = ρ0.st n ∨ (ρ.st n = .dead ∧ ρ0.st n = .own ∧ ∃ (k : Nat) (it : Item), items[k]? = some it ∧ p k = true ∧ (hget it.d n).isSome = true)
  new : ∀ n b, nx0 ≤ n → n < nxF → ρ n = some b → w0.heap.size ≤ b ∨ ∃ m, ρ0 m = some b ∧ ρ0.st m = .own ∧ ∃ (k : Nat) (it : Item), items[k]? = some it ∧ p k = true ∧ (hget it.d m).isSome = true
  own : ∀ (k : Nat) (it : Item) n, items[k]? = some it → p k = true → (hget it.d n).isSome = true → (nx0 ≤ n ∧ n < nxF) ∨ ρ0.st n = .own
  size : w0.heap.size ≤ w.heap.size
  os : w.os = w0.os
  tape : w.tape = w0.tape
  output : w.output = w0.output
  frame : ∀ b, b < w0.heap.size → (∀ (k : Nat) (it : Item) n blk, items[k]? = some it → p k = true → hget it.d n = some blk → ρ0 n ≠ some b) → w.heap[b]? = w0.heap[b]?

theorem mid_step {P : Program} {call : CallFn R} (hc : CallOK P call) {all : List Oper} {ms : List Nat} {items : List Item} {tm0 : List (AV R)} {h0 : Heap R} {ρ0 : Nm} {a0 : Act} {w0 : World} {nx0 nxF : Nat}
    (hall : items.map (·.o) = all) (hms : ∀ (k : Nat) (it : Item), items[k]? = some it → ms[k]? = some it.mask) (hD : Drawn P call all h0 tm0 0 [] nx0 nxF items)
    (hT : drawTmps all ms = true) (hM : drawMem (items.map Item.rec') = true) (hlow : ∀ (k : Nat) (it : Item), items[k]? = some it → ∀ j, it.mask.testBit j = true → j < k)
    {p : Nat → Bool} (hcl : ∀ (k : Nat) (it : Item), items[k]? = some it → p k = true → ∀ j, it.mask.testBit j = true → p j = true)
    {ρ : Nm} {a : Act} {w : World} (hm : Mid items tm0 h0 ρ0 a0 w0 nx0 nxF p ρ a w) {j : Nat} {it : Item} (hj : items[j]? = some it) (hpj : p j = false) (hanc : ∀ i, it.mask.testBit i = true → p i = true)
    {K : Act → World → Prop} {Q : Exit → Act → World → Prop}
    (hK : ∀ ρ' a' w', Mid items tm0 h0 ρ0 a0 w0 nx0 nxF (fun k => p k || k == j) ρ' a' w' → K a' w') : wpOp P all.toArray Q j K a w := by
  have hoall : ∀ (k : Nat) (it' : Item), items[k]? = some it' → all[k]? = some it'.o := by
    intro k it' hk; rw [← hall]; simp [hk]
  have hrec : ∀ (k : Nat) (it' : Item), items[k]? = some it' → (items.map Item.rec')[k]? = some it'.rec' := by
    intro k it' hk; simp [hk]
  have hrec' : ∀ (k : Nat) (r : Rec R), (items.map Item.rec')[k]? = some r → ∃ it', items[k]? = some it' ∧ r = it'.rec' := by
    intro k r hk
    simp only [List.getElem?_map, Option.map_eq_some_iff] at hk
    obtain ⟨it', h1, h2⟩ := hk
    exact ⟨it', h1, h2.symm⟩
  have hmask : ∀ (k : Nat) (it' : Item), items[k]? = some it' → ms.getD k 0 = it'.mask := by
    intro k it' hk; simp [hms k it' hk]
  have hun : ∀ (k : Nat) (it' : Item), items[k]? = some it' → p k = true → it'.mask.testBit j = false := by
    intro k it' hk hpk
    cases hb : it'.mask.testBit j with
    | false => rfl
    | true => have := hcl k it' hk hpk j hb; rw [hpj] at this; cases this
  have hrunj := hD.run j it hj
  have hseen := hD.seen j it hj
  have hlo := hD.lo j it hj
  simp only [Nat.zero_add] at hrunj
  -- the operation sees in its own order what it would see here
  have hrun : (evOper P call all j it.o (tmOf p tm0 items 0) it.seen it.nx).run = some ⟨it.v, it.d, it.nx'⟩ := by
    rw [← hrunj, tmOf_take]
    congr 1
    refine evOper_congr fun t ht => tmOf_congr t items 0 tm0 tm0 rfl fun k it' hk hd => ?_
    simp only [Nat.zero_add]
    by_cases hkj : k = j
    · subst hkj; rw [hpj]; simp
    · have hd' := (drawTmps_spec hT (hoall k it' hk) (hoall j it hj) hkj hd).2 ht
      rw [hmask j it hj, hmask k it' hk] at hd'
      rcases hd' with hb | hb
      · rw [hanc k hb]
        have := hlow j it hj k hb
        simp [this]
      · have hlt := hlow k it' hk j hb
        have : p k = false := by
          cases hpk : p k with
          | false => rfl
          | true => have := hcl k it' hk hpk j hb; rw [hpj] at this; cases this
        rw [this]
        simp; omega
  -- its memory is part of what lies here
  have hHseen : HR ρ it.seen w := by
    intro n blk hg
    refine hm.hr n blk ?_
    have hs2 := hg
    have hg := hseen n blk hg
    · rw [← hg]
      have hpre : heapOf (fun k => it.mask.testBit k) h0 ([] ++ (items.take j).map Item.rec') 0 = heapOf (fun k => it.mask.testBit k) h0 (items.map Item.rec') 0 := by
        have e : items.map Item.rec' = (items.take j).map Item.rec' ++ (items.drop j).map Item.rec' := by rw [← List.map_append, List.take_append_drop]
        rw [e, List.nil_append, heapOf_append]
        refine (heapOf_none _ _ _ fun k _ => ?_).symm
        cases hb : it.mask.testBit (0 + ((items.take j).map Item.rec').length + k) with
        | false => rfl
        | true =>
          have := hlow j it hj _ hb
          have hjl : j < items.length := (List.getElem?_eq_some_iff.1 hj).1
          simp at this; omega
      rw [hpre] at hg ⊢
      refine heapOf_congr n _ 0 h0 h0 rfl fun k r hk hs => ?_
      obtain ⟨it', hk', rfl⟩ := hrec' k r hk
      simp only [Nat.zero_add]
      cases hb : it.mask.testBit k with
      | true => exact hanc k hb
      | false =>
        cases hpk : p k with
        | false => rfl
        | true =>
          have hkj : k ≠ j := fun e => by subst e; rw [hpj] at hpk; cases hpk
          have := (drawMem_spec hM (hrec k it' hk') (hrec j it hj) hkj (hun k it' hk' hpk) hb hs).1
          have this' : hget it.seen n = none := this
          rw [hs2] at this'; cases this'
  have hfr := hm.fresh j it hj hpj
  refine evOper_sound hc (hoall j it hj) hrun hm.tm hHseen hm.inj hfr fun ρ' v w' hv st => hK ρ' (a.put it.o.dst v) w' ?_
  have kn := st.knows hfr
  have inside : ∀ n, it.nx ≤ n → n < it.nx' → nx0 ≤ n ∧ n < nxF := fun n h1 h2 => by omega
  constructor
  · rw [put_defers]; exact hm.defers
  · exact st.inj
  · -- temporaries
    have e : tmOf (fun k => p k || k == j) tm0 items 0 = putT (tmOf p tm0 items 0) it.o.dst it.v := by
      apply List.ext_getElem?
      intro t
      rw [putT_get]
      by_cases hd : it.o.dst = some t
      · rw [if_pos hd]
        have uniq : ∀ (k : Nat) (it' : Item), items[k]? = some it' → k ≠ j → it'.o.dst ≠ some t := fun k it' hk hkj =>
          (drawTmps_spec hT (hoall j it hj) (hoall k it' hk) (fun e => hkj e.symm) hd).1
        have e1 : (tmOf p tm0 items 0)[t]? = tm0[t]? := by
          rw [tmOf_congr (p := p) (q := fun _ => false) t items 0 tm0 tm0 rfl fun k it' hk hdk => by
            by_cases hkj : k = j
            · subst hkj; simpa using hpj
            · exact absurd hdk (uniq k it' hk hkj)]
          have : ∀ (items : List Item) (i : Nat), tmOf (fun _ => false) tm0 items i = tm0 := by
            intro items
            induction items with
            | nil => intro _; rfl
            | cons _ _ ih => intro i; simp only [tmOf, Bool.false_eq_true, if_false]; exact ih (i + 1)
          rw [this]
        rw [e1]
        have hit : ∀ (l : List Item) (i jj : Nat) (tm : List (AV R)), l[jj]? = some it → (∀ (k : Nat) (it' : Item), l[k]? = some it' → k ≠ jj → it'.o.dst ≠ some t) → i + jj = j →
            (tmOf (fun k => p k || k == j) tm l i)[t]? = (tm[t]?).map (fun _ => it.v) := by
          intro l
          induction l with
          | nil => intro i jj tm h; simp at h
          | cons x r ih =>
            intro i jj tm h hu hij
            simp only [tmOf]
            cases jj with
            | zero =>
              simp at h; subst h
              have hp : (p i || i == j) = true := by simp; right; omega
              rw [if_pos hp]
              rw [tmOf_congr (p := fun k => p k || k == j) (q := fun _ => false) t r (i + 1) _ _ rfl fun k it' hk hdk => absurd hdk (hu (k + 1) it' (by simpa using hk) (by omega))]
              have : ∀ (items : List Item) (tm : List (AV R)) (i : Nat), tmOf (fun _ => false) tm items i = tm := by
                intro items
                induction items with
                | nil => intro _ _; rfl
                | cons _ _ ih => intro tm i; simp only [tmOf, Bool.false_eq_true, if_false]; exact ih tm (i + 1)
              rw [this, putT_get, if_pos hd]
            | succ jj =>
              rw [ih (i + 1) jj _ (by simpa using h) (fun k it' hk hne => hu (k + 1) it' (by simpa using hk) (by omega)) (by omega)]
              split
              · rw [putT_get, if_neg (hu 0 x rfl (by omega))]
              · rfl
        exact hit items 0 j tm0 hj uniq (by omega)
      · rw [if_neg hd]
        refine tmOf_congr t items 0 tm0 tm0 rfl fun k it' hk hdk => ?_
        have hkj : k ≠ j := fun e => by subst e; rw [hj] at hk; cases hk; exact hd hdk
        simp [hkj]
    rw [e]
    exact put_VRs (VRs.mono kn _ _ hm.tm) hv it.o.dst
  · -- memory
    intro n blk hg
    cases hdn : hget it.d n with
    | some blk0 =>
      have : hget (heapOf (fun k => p k || k == j) h0 (items.map Item.rec') 0) n = some blk0 := by
        refine heapOf_hit n blk0 _ 0 h0 j it.rec' (hrec j it hj) (by simp) hdn fun k r hlt hk hpk => ?_
        obtain ⟨it', hk', rfl⟩ := hrec' k r hk
        have hkj : k ≠ j := by omega
        have hpk' : p k = true := by
          have : (p (0 + k) || 0 + k == j) = true := hpk
          simp [hkj] at this; exact this
        have h2 : it.mask.testBit k = false := by
          cases hb : it.mask.testBit k with
          | false => rfl
          | true => have := hlow j it hj k hb; omega
        exact (drawMem_spec hM (hrec j it hj) (hrec k it' hk') (fun e => hkj e.symm) h2 (hun k it' hk' hpk') (by show (hget it.d n).isSome = true; rw [hdn]; rfl)).2
      rw [this] at hg
      cases hg
      exact st.hr n blk (by rw [hget_append, hdn]; rfl)
    | none =>
      have e : hget (heapOf (fun k => p k || k == j) h0 (items.map Item.rec') 0) n = hget (heapOf p h0 (items.map Item.rec') 0) n := by
        refine heapOf_congr n _ 0 h0 h0 rfl fun k r hk hs => ?_
        obtain ⟨it', hk', rfl⟩ := hrec' k r hk
        have hkj : k ≠ j := fun e => by subst e; rw [hj] at hk'; cases hk'; have hs' : (hget it.d n).isSome = true := hs; rw [hdn] at hs'; cases hs'
        simp [hkj]
      rw [e] at hg
      have kk := hm.hr n blk hg
      by_cases hnf : it.nx ≤ n ∧ n < it.nx'
      · exact kk.fresh (hfr n hnf.1 hnf.2) _ _
      rcases kk.deadOr with hnd | hv
      case inr => exact hv _ _
      refine kk.keep kn ?_ fun b hb => st.frame b (hm.inj.lt n b hb) fun n' blk' hd' hb' => ?_
      · rcases st.st n hnf with g | ⟨_, _, g⟩
        · exact g
        · rw [hdn] at g; cases g
      · have ho : ρ.st n' = .own := by
          rcases st.own n' (by rw [hd']; rfl) with g | g
          · rw [Nm.bl_none (hfr n' g.1 g.2)] at hb'; cases hb'
          · exact g
        have := hm.inj.inj n' n b hb' hb ho hnd
        subst this; rw [hdn] at hd'; cases hd'
  · -- names
    intro k it' hk hpk n h1 h2
    have hkj : k ≠ j := fun e => by subst e; simp at hpk
    have hpk' : p k = false := by simpa [hkj] using hpk
    have hout : ¬ (it.nx ≤ n ∧ n < it.nx') := by
      intro ⟨c1, c2⟩
      rcases Nat.lt_or_gt_of_ne hkj with hlt | hgt
      · have := hD.apart k j it' it hk hj hlt; omega
      · have := hD.apart j k it it' hj hk hgt; omega
    rw [st.old n hout]
    exact hm.fresh k it' hk hpk' n h1 h2
  · intro n hn
    rw [st.old n (fun ⟨c1, c2⟩ => hn (inside n c1 c2))]
    exact hm.old n hn
  · intro n hn
    rcases st.st n (fun ⟨c1, c2⟩ => hn (inside n c1 c2)) with g | ⟨g1, g2, g3⟩
    · rcases hm.st n hn with q | ⟨q1, q2, k, it', q3, q4, q5⟩
      · exact .inl (g.trans q)
      · exact .inr ⟨g.trans q1, q2, k, it', q3, by simp [q4], q5⟩
    · refine .inr ⟨g1, ?_, j, it, hj, by simp, g3⟩
      rcases hm.st n hn with q | ⟨q, _⟩
      · rw [← q]; exact g2
      · rw [q] at g2; cases g2
  · intro n b h1 h2 hb
    have mono : ∀ m, (∃ (k : Nat) (it : Item), items[k]? = some it ∧ p k = true ∧ (hget it.d m).isSome = true) → ∃ (k : Nat) (it : Item), items[k]? = some it ∧ (p k || k == j) = true ∧ (hget it.d m).isSome = true := fun m ⟨k, it', q1, q2, q3⟩ => ⟨k, it', q1, by simp [q2], q3⟩
    by_cases hin : it.nx ≤ n ∧ n < it.nx'
    · rcases st.new n b hin.1 hin.2 hb with g | ⟨m, g1, g2, g3⟩
      · exact .inl (Nat.le_trans hm.size g)
      · by_cases hmf : nx0 ≤ m ∧ m < nxF
        · rcases hm.new m b hmf.1 hmf.2 g1 with q | ⟨m', q1, q2, q3⟩
          · exact .inl q
          · exact .inr ⟨m', q1, q2, mono m' q3⟩
        · refine .inr ⟨m, by rw [← Nm.bl_congr (hm.old m hmf)]; exact g1, ?_, j, it, hj, by simp, g3⟩
          rcases hm.st m hmf with q | ⟨q, _⟩
          · rw [← q]; exact g2
          · rw [q] at g2; cases g2
    · rw [Nm.bl_congr (st.old n hin)] at hb
      rcases hm.new n b h1 h2 hb with q | ⟨m', q1, q2, q3⟩
      · exact .inl q
      · exact .inr ⟨m', q1, q2, mono m' q3⟩
  · intro k it' n hk hpk hd
    by_cases hkj : k = j
    · subst hkj
      rw [hj] at hk; cases hk
      rcases st.own n hd with g | g
      · exact .inl (inside n g.1 g.2)
      · by_cases hnf : nx0 ≤ n ∧ n < nxF
        · exact .inl hnf
        · rcases hm.st n hnf with q | ⟨q, _⟩
          · exact .inr (by rw [← q]; exact g)
          · rw [q] at g; cases g
    · exact hm.own k it' n hk (by simpa [hkj] using hpk) hd
  · exact Nat.le_trans hm.size st.size
  · exact st.os.trans hm.os
  · exact st.tape.trans hm.tape
  · exact st.output.trans hm.output
  · intro b hb hno
    rw [st.frame b (Nat.lt_of_lt_of_le hb hm.size) fun n blk hd hbn => by
      by_cases hin : nx0 ≤ n ∧ n < nxF
      · rcases hm.new n b hin.1 hin.2 hbn with g | ⟨m, g1, _, k, it', g2, g3, g4⟩
        · omega
        · cases hgm : hget it'.d m with
          | none => rw [hgm] at g4; cases g4
          | some blk' => exact hno k it' m blk' g2 (by simp [g3]) hgm g1
      · rw [Nm.bl_congr (hm.old n hin)] at hbn
        exact hno j it n blk hj (by simp) hd hbn]
    exact hm.frame b hb fun k it' n blk hk hpk hd => hno k it' n blk hk (by simp [hpk]) hd

end Go.Ev
/- Regions as a whole, code, and calls. -/
namespace Go.Ev

theorem draw_any {P : Program} {call : CallFn R} (hc : CallOK P call) {all : List Oper} {ms : List Nat} {items : List Item} {tm0 : List (AV R)} {h0 : Heap R} {ρ0 : Nm} {a0 : Act} {w0 : World} {nx0 nxF : Nat}
    (hall : items.map (·.o) = all) (hmasks : masksOf all 0 [] = some ms) (hms : ∀ (k : Nat) (it : Item), items[k]? = some it → ms[k]? = some it.mask) (hD : Drawn P call all h0 tm0 0 [] nx0 nxF items)
    (hT : drawTmps all ms = true) (hM : drawMem (items.map Item.rec') = true) {Q : Exit → Act → World → Prop}
    (hQ : ∀ ρ a w, Mid items tm0 h0 ρ0 a0 w0 nx0 nxF (fun _ => true) ρ a w → Q .normal a w) :
    ∀ (fuel : Nat) (listed : Array Bool) (ρ : Nm) (a : Act) (w : World), listed.size = all.length → listed.toList.count false ≤ fuel →
      (∀ (k : Nat) (it : Item), items[k]? = some it → listed.getD k false = true → ∀ j, it.mask.testBit j = true → listed.getD j false = true) →
      Mid items tm0 h0 ρ0 a0 w0 nx0 nxF (fun k => listed.getD k false) ρ a w → wpAny P .any all.toArray Q fuel listed a w := by
  obtain ⟨⟨t, ht, htl⟩, hsp⟩ := masksOf_spec all 0 [] ms rfl hmasks
  have hlen : items.length = all.length := by rw [← hall]; simp
  have hoall : ∀ (k : Nat) (it' : Item), items[k]? = some it' → all[k]? = some it'.o := by
    intro k it' hk; rw [← hall]; simp [hk]
  have hitem : ∀ (k : Nat) (o : Oper), all[k]? = some o → ∃ it, items[k]? = some it ∧ it.o = o := by
    intro k o hk
    rw [← hall] at hk
    simp only [List.getElem?_map, Option.map_eq_some_iff] at hk
    exact hk
  have hspec : ∀ (k : Nat) (it : Item), items[k]? = some it → (∀ e ∈ it.o.after.toList, Region.binds .any e = true → e.on < k) ∧
      (∀ j, it.mask.testBit j = true → ∃ e ∈ it.o.after.toList, Region.binds .any e = true ∧ (j = e.on ∨ (ms.getD e.on 0).testBit j = true)) := by
    intro k it hk
    obtain ⟨m, h1, h2, h3⟩ := hsp k it.o (hoall k it hk)
    simp only [Nat.zero_add] at h1 h2
    rw [hms k it hk] at h1
    cases h1
    exact ⟨h2, h3⟩
  have hlow : ∀ (k : Nat) (it : Item), items[k]? = some it → ∀ j, it.mask.testBit j = true → j < k := by
    intro k
    induction k using Nat.strongRecOn with
    | _ k ih =>
      intro it hk j hj
      obtain ⟨h1, h2⟩ := hspec k it hk
      obtain ⟨e, he, hb, hh⟩ := h2 j hj
      have hlt := h1 e he hb
      rcases hh with rfl | hh
      · exact hlt
      · have hel : e.on < items.length := by have := (List.getElem?_eq_some_iff.1 hk).1; omega
        have := ih e.on hlt items[e.on] (List.getElem?_eq_getElem hel) j (by
          have := hms e.on items[e.on] (List.getElem?_eq_getElem hel)
          simpa [this] using hh)
        omega
  have noReady : ∀ (listed : Array Bool), listed.size = all.length → Region.ready .any all.toArray listed = [] → ∀ k, k < all.length → listed.getD k false = true := by
    intro listed hs hr k
    induction k using Nat.strongRecOn with
    | _ k ih =>
      intro hk
      cases hl : listed.getD k false with
      | true => rfl
      | false =>
        have ho : all[k]? = some all[k] := List.getElem?_eq_getElem hk
        obtain ⟨it, hit, hio⟩ := hitem k _ ho
        have : k ∈ Region.ready .any all.toArray listed := by
          rw [mem_ready]
          refine ⟨by have hks : k < listed.size := by omega
                     simp [hks] at hl ⊢; exact hl, all[k], by simp [ho], fun e he hb => ?_⟩
          have hlt := (hspec k it hit).1 e (by rw [hio]; exact Array.mem_toList_iff.2 he) hb
          exact ih e.on hlt (by omega)
        rw [hr] at this; cases this
  have finish : ∀ (listed : Array Bool) (ρ : Nm) (a : Act) (w : World), listed.size = all.length → Region.ready .any all.toArray listed = [] → Mid items tm0 h0 ρ0 a0 w0 nx0 nxF (fun k => listed.getD k false) ρ a w → Q .normal a w := by
    intro listed ρ a w hs hr hm
    have hall' := noReady listed hs hr
    refine hQ ρ a w ?_
    have e1 : tmOf (fun k => listed.getD k false) tm0 items 0 = tmOf (fun _ => true) tm0 items 0 := tmOf_eq items 0 tm0 fun k hk => by
      simp only [Nat.zero_add]; exact hall' k (by omega)
    have e2 : heapOf (fun k => listed.getD k false) h0 (items.map Item.rec') 0 = heapOf (fun _ => true) h0 (items.map Item.rec') 0 := heapOf_eq _ 0 h0 fun k hk => by
      simp only [Nat.zero_add]; exact hall' k (by simp at hk; omega)
    exact { hm with
      tm := by rw [← e1]; exact hm.tm
      hr := by rw [← e2]; exact hm.hr
      fresh := fun k it hk hp => by cases hp
      st := fun n hn => (hm.st n hn).imp id fun ⟨g1, g2, k, it, g3, _, g4⟩ => ⟨g1, g2, k, it, g3, rfl, g4⟩
      new := fun n b c1 c2 hb => (hm.new n b c1 c2 hb).imp id fun ⟨m, g1, g2, k, it, g3, _, g4⟩ => ⟨m, g1, g2, k, it, g3, rfl, g4⟩
      own := fun k it n hk _ hd => hm.own k it n hk (hall' k (by rw [← hlen]; exact (List.getElem?_eq_some_iff.1 hk).1)) hd
      frame := fun b hb hno => hm.frame b hb fun k it n blk hk _ hd => hno k it n blk hk rfl hd }
  intro fuel
  induction fuel with
  | zero =>
    intro listed ρ a w hs hcnt hcl hm
    have hr : Region.ready .any all.toArray listed = [] := by
      rw [List.eq_nil_iff_forall_not_mem]
      intro k hk
      obtain ⟨h1, o, h2, _⟩ := mem_ready.1 hk
      have hk' : k < listed.size := by
        rw [hs]; have := (Array.getElem?_eq_some_iff.1 h2).1; simpa using this
      have : listed[k] = false := by simpa [hk'] using h1
      have hm : false ∈ listed.toList := by rw [← this]; simp
      have := List.count_pos_iff.2 hm
      omega
    exact ⟨hr, finish listed ρ a w hs hr hm⟩
  | succ fuel ih =>
    intro listed ρ a w hs hcnt hcl hm
    refine ⟨fun hr => finish listed ρ a w hs hr hm, fun j hj => ?_⟩
    obtain ⟨h1, o, h2, h3⟩ := mem_ready.1 hj
    have hjl : j < listed.size := by
      rw [hs]; have := (Array.getElem?_eq_some_iff.1 h2).1; simpa using this
    have hjf : listed[j] = false := by simpa [hjl] using h1
    have hpj : listed.getD j false = false := by simp [hjl, hjf]
    obtain ⟨it, hit, hio⟩ := hitem j o (by simpa using h2)
    have hanc : ∀ i, it.mask.testBit i = true → listed.getD i false = true := by
      intro i hi
      obtain ⟨e, he, hb, hh⟩ := (hspec j it hit).2 i hi
      have hon := h3 e (by rw [← hio]; exact Array.mem_toList_iff.1 he) hb
      rcases hh with rfl | hh
      · exact hon
      · have hlt := (hspec j it hit).1 e he hb
        have hel : e.on < items.length := by omega
        refine hcl e.on items[e.on] (List.getElem?_eq_getElem hel) hon i ?_
        have := hms e.on items[e.on] (List.getElem?_eq_getElem hel)
        simpa [this] using hh
    refine mid_step hc hall hms hD hT hM hlow hcl hm hit hpj hanc fun ρ' a' w' hm' => ?_
    have hset : ∀ k, (listed.setIfInBounds j true).getD k false = (listed.getD k false || k == j) := by
      intro k
      by_cases e : k = j
      · subst e; simp [hjl]
      · have e' : j ≠ k := fun h => e h.symm
        simp [Array.getElem?_setIfInBounds_ne e', e]
    refine ih (listed.setIfInBounds j true) ρ' a' w' (by simpa using hs) ?_ ?_ ?_
    · have : (listed.setIfInBounds j true).toList = listed.toList.set j true := by simp
      rw [this]
      have := count_set_true listed.toList j (by simp [hjl, hjf])
      omega
    · intro k it' hk hp i hi
      rw [hset] at hp ⊢
      simp only [Bool.or_eq_true, beq_iff_eq] at hp ⊢
      rcases hp with hp | rfl
      · exact .inl (hcl k it' hk hp i hi)
      · rw [hit] at hk; cases hk; exact .inl (hanc i hi)
    · have : (fun k => (listed.setIfInBounds j true).getD k false) = (fun k => listed.getD k false || k == j) := funext hset
      rw [this]; exact hm'

theorem region_sound {P : Program} (hP : P.follows .mixedOrders = true) {call : CallFn R} (hc : CallOK P call) {id : Nat} {ops : Array Oper} {draw : Bool} {tm : List (AV R)} {h : Heap R} {nx : Nat} {tm' : List (AV R)} {h' : Heap R} {nx' : Nat}
    (hr : (evRegion P call ops.toList draw tm h nx).run = some (tm', h', nx')) {ρ : Nm} {a : Act} {w : World} (ht : VRs ρ tm a.tmps.toList) (hH : HR ρ h w) (hI : Inj ρ w) (hF : Fresh ρ nx nx')
    {Q : Exit → Act → World → Prop} (hQ : ∀ ρ' a' w', a'.defers = a.defers → VRs ρ' tm' a'.tmps.toList → (∃ d, h' = d ++ h ∧ Step ρ ρ' w w' nx nx' d h) → Q .normal a' w') : (Code.region id ops draw).wp P Q a w := by
  unfold evRegion at hr
  split at hr
  · rename_i hd
    subst hd
    split at hr
    · cases hr
    · rename_i ms hms
      split at hr
      · rename_i hT
        obtain ⟨⟨tm1, recs, nx1⟩, h1, h2⟩ := T.run_bind_some hr
        simp only at h2
        split at h2
        · rename_i hM
          cases h2
          obtain ⟨items, g1, g2, g3, g4, g5⟩ := evDraw_inv _ _ _ _ _ _ _ _ _ h1
          simp only [List.nil_append] at g3
          subst g3
          have hw0 : SameW w { w with drawn := w.drawn + 1 } := ⟨rfl, rfl, rfl, rfl⟩
          have s0 := hw0.step (nx := nx) hH hI
          refine wp_region_any hP ?_
          have hm0 : Mid items tm h ρ a { w with drawn := w.drawn + 1 } nx nx' (fun k => (Array.replicate ops.size false).getD k false) ρ a { w with drawn := w.drawn + 1 } := by
            have hall0 : ∀ k, (Array.replicate ops.size false).getD k false = false := by
              intro k
              simp only [Array.getD_eq_getD_getElem?, Array.getElem?_replicate]
              split <;> rfl
            have e1 : (fun k => (Array.replicate ops.size false).getD k false) = fun _ => false := funext hall0
            rw [e1]
            have t1 : ∀ (items : List Item) (i : Nat), tmOf (fun _ => false) tm items i = tm := by
              intro items
              induction items with
              | nil => intro _; rfl
              | cons _ _ ih => intro i; simp only [tmOf, Bool.false_eq_true, if_false]; exact ih (i + 1)
            exact {
              defers := rfl
              inj := s0.inj
              tm := by rw [t1]; exact ht
              hr := by rw [heapOf_none _ _ _ fun _ _ => rfl]; exact s0.hr
              fresh := fun k it hk _ n c1 c2 => by
                have := g5.lo k it hk
                exact hF n (by omega) (by omega)
              old := fun _ _ => rfl
              st := fun _ _ => .inl rfl
              new := fun n b c1 c2 hb => by rw [Nm.bl_none (hF n c1 c2)] at hb; cases hb
              own := fun _ _ _ _ hp _ => by cases hp
              size := Nat.le_refl _
              os := rfl
              tape := rfl
              output := rfl
              frame := fun _ _ _ => rfl }
          have := draw_any hc g1 hms g2 g5 hT hM (Q := Q) (a0 := a) (w0 := { w with drawn := w.drawn + 1 }) (ρ0 := ρ) (h0 := h) (tm0 := tm) (fun ρ' a' w' hm => by
            obtain ⟨d, e1, e2⟩ := heapOf_all (items.map Item.rec') 0 h
            refine hQ ρ' a' w' hm.defers (by rw [g4]; exact hm.tm) ⟨d, e1, ?_⟩
            have st : Step ρ ρ' { w with drawn := w.drawn + 1 } w' nx nx' d ([] ++ h) := {
              inj := hm.inj
              hr := by rw [List.nil_append, ← e1]; exact hm.hr
              old := hm.old
              st := fun n hn => (hm.st n hn).imp (fun x => x) fun ⟨g1, g2, k, it, g3, _, g4⟩ => ⟨g1, g2, (e2 n).2 ⟨k, it.rec', by simp [g3], g4⟩⟩
              new := fun n b c1 c2 hb => (hm.new n b c1 c2 hb).imp (fun x => x) fun ⟨m, g1, g2, k, it, g3, _, g4⟩ => ⟨m, g1, g2, (e2 m).2 ⟨k, it.rec', by simp [g3], g4⟩⟩
              own := fun n hn => by
                obtain ⟨k, r, g1, g2⟩ := (e2 n).1 hn
                simp only [List.getElem?_map, Option.map_eq_some_iff] at g1
                obtain ⟨it, g3, rfl⟩ := g1
                exact hm.own k it n g3 rfl g2
              size := hm.size
              os := hm.os
              tape := hm.tape
              output := hm.output
              frame := fun b hb hno => hm.frame b hb fun k it n blk hk _ hd hbn => by
                have hs := (e2 n).2 ⟨k, it.rec', by simp [hk], by show (hget it.d n).isSome = true; rw [hd]; rfl⟩
                cases hg : hget d n with
                | none => rw [hg] at hs; cases hs
                | some blk' => exact hno n blk' hg hbn
              le := g5.le }
            have := s0.trans st
            simpa using this)
          refine this ops.size (Array.replicate ops.size false) ρ a _ (by simp) ?_ ?_ hm0
          · simp
          · intro k it hk hp
            simp only [Array.getD_eq_getD_getElem?, Array.getElem?_replicate] at hp
            split at hp <;> cases hp
        · cases h2
      · cases hr
  · rename_i hd
    have hdf : draw = false := by simpa using hd
    subst hdf
    refine wp_region ?_
    have := evSegs_sound hc (all := ops.toList) (Q := Q) _ ops.toList 0 tm h nx tm' h' nx' ρ a w rfl hr ht hH hI hF hQ
    simpa [List.range_eq_range'] using this

end Go.Ev
