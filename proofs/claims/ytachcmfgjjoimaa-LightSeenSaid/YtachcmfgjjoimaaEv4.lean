/- Code, calls, table entries and the rows of laws, out of what the evaluator says. -/
import Derived.Scope
import Derived.ProofKit
import Derived.Laws.Cover2
import Derived.Deep.Slices
import Derived.IntWalk
import Derived.Test.YtachcmfgjjoimaaEv3
/- Code, calls, functions. -/
namespace Go.Ev

def exitOf : Ex → Exit
  | .normal => .normal
  | .exit id => .exit id
  | .ret => .ret

/-- What code that is reckoned comes to. -/
def CodeOK (P : Program) (ev : Code → St R → T Bool (Ex × St R)) : Prop :=
  ∀ c st e st', (ev c st).run = some (e, st') → ∀ (ρ : Nm) (a : Act) (w : World), VRs ρ st.tm a.tmps.toList → HR ρ st.h w → Inj ρ w → Fresh ρ st.nx st'.nx →
    c.wp P (fun x a' w' => x = exitOf e ∧ a'.defers = a.defers ∧ ∃ ρ', VRs ρ' st'.tm a'.tmps.toList ∧ ∃ d, st'.h = d ++ st.h ∧ Step ρ ρ' w w' st.nx st'.nx d st.h) a w

def CodeMono (ev : Code → St R → T Bool (Ex × St R)) : Prop := ∀ c st e st', (ev c st).run = some (e, st') → st.nx ≤ st'.nx

theorem evDraw_pure {P : Program} {call : CallFn R} {all : List Oper} {h0 : Heap R} : ∀ {r : List Oper} {ms : List Nat} {i : Nat} {recs : List (Rec R)} {tm : List (AV R)} {nx : Nat} {tm' : List (AV R)} {recs' : List (Rec R)} {nx' : Nat},
    (evDraw P call all h0 r ms i recs tm nx).run = some (tm', recs', nx') → nx ≤ nx' ∧ Agree (wrOps r) tm' tm
  | [], _, _, _, _, _, _, _, _, h => by simp only [evDraw] at h; cases h; exact ⟨Nat.le_refl _, Agree.refl _ _⟩
  | o :: r, [], _, _, _, _, _, _, _, h => by simp only [evDraw] at h; cases h
  | o :: r, m :: ms, i, recs, tm, nx, tm', recs', nx', h => by
    simp only [evDraw] at h
    obtain ⟨u, h1, h2⟩ := T.run_bind_some h
    obtain ⟨g1, g3⟩ := evDraw_pure h2
    exact ⟨Nat.le_trans (evOper_mono h1) g1, (g3.mono fun _ hi => wrOps_tail o r hi).trans (putT_agree o r tm u.v)⟩

theorem evRegion_pure {P : Program} {call : CallFn R} {ops : List Oper} {draw : Bool} {tm : List (AV R)} {h : Heap R} {nx : Nat} {tm' : List (AV R)} {h' : Heap R} {nx' : Nat}
    (hr : (evRegion P call ops draw tm h nx).run = some (tm', h', nx')) : nx ≤ nx' ∧ (∃ d, h' = d ++ h) ∧ Agree (wrOps ops) tm' tm := by
  unfold evRegion at hr
  split at hr
  · split at hr
    · cases hr
    · split at hr
      · obtain ⟨⟨tm1, recs, nx1⟩, h1, h2⟩ := T.run_bind_some hr
        simp only at h2
        split at h2
        · cases h2
          obtain ⟨g1, g2⟩ := evDraw_pure h1
          obtain ⟨d, e1, _⟩ := heapOf_all recs 0 h
          exact ⟨g1, ⟨d, e1⟩, g2⟩
        · cases h2
      · cases hr
  · exact evSegs_pure _ _ _ _ _ _ _ _ _ hr

def CodePure (ev : Code → St R → T Bool (Ex × St R)) : Prop := ∀ c st e st', (ev c st).run = some (e, st') → st.nx ≤ st'.nx ∧ (∃ d, st'.h = d ++ st.h) ∧ Agree (wrCode c) st'.tm st.tm

/-- What code is taken together, out of what it is. -/
theorem joined_inv {m : Nat} {st : St R} {t : T Bool (Ex × St R)} {e : Ex} {st' : St R} (h : (compact (D := R) m st.tm st.h st.nx t).run = some (e, st'))
    (hp : ∀ e s, t.run = some (e, s) → st.nx ≤ s.nx ∧ (∃ d, s.h = d ++ st.h) ∧ Agree m s.tm st.tm) :
    ∃ s : St R, ∃ d0, t.run = some (e, s) ∧ s.h = d0 ++ st.h ∧ StLe m st.tm st.h st.nx s d0 st' ∧ st.nx ≤ s.nx := by
  obtain ⟨s, g1, g2⟩ := compact_sound h
  obtain ⟨p1, ⟨d0, p2⟩, p3⟩ := hp e s g1
  exact ⟨s, d0, g1, p2, g2 d0 p2 p3, p1⟩

theorem joined_pure {m : Nat} {st : St R} {t : T Bool (Ex × St R)} {e : Ex} {st' : St R} (h : (compact (D := R) m st.tm st.h st.nx t).run = some (e, st'))
    (hp : ∀ e s, t.run = some (e, s) → st.nx ≤ s.nx ∧ (∃ d, s.h = d ++ st.h) ∧ Agree m s.tm st.tm) :
    st.nx ≤ st'.nx ∧ (∃ d, st'.h = d ++ st.h) ∧ Agree m st'.tm st.tm := by
  obtain ⟨s, d0, g1, g2, g3, g4⟩ := joined_inv h hp
  obtain ⟨d, e1, _⟩ := g3.lay
  exact ⟨Nat.le_trans g4 g3.nx, ⟨d, e1⟩, g3.ag⟩

theorem block_pure {P : Program} {tbl : Tbl R} {n id : Nat} {b : Code} {st : St R} (ih : CodePure (evCode P tbl n)) : ∀ e s, ((evCode P tbl n b st).bind fun (e, st') => match e with
      | .exit j => if j = id then (.ret (.normal, st') : T Bool (Ex × St R)) else .ret (.exit j, st')
      | e => .ret (e, st')).run = some (e, s) → st.nx ≤ s.nx ∧ (∃ d, s.h = d ++ st.h) ∧ Agree (wrCode b) s.tm st.tm := by
  intro e s h
  obtain ⟨⟨e1, st1⟩, h1, h2⟩ := T.run_bind_some h
  have m1 := ih _ _ _ _ h1
  simp only at h2
  split at h2
  · split at h2 <;> (cases h2; exact m1)
  · cases h2; exact m1

theorem cond_pure {P : Program} {tbl : Tbl R} {n : Nat} {s : Bool} {a b : Code} {st : St R} (ih : CodePure (evCode P tbl n)) : ∀ e s', (T.node s (evCode P tbl n a st) (evCode P tbl n b st)).run = some (e, s') →
    st.nx ≤ s'.nx ∧ (∃ d, s'.h = d ++ st.h) ∧ Agree (wrCode a ||| wrCode b) s'.tm st.tm := by
  intro e s' h
  rcases run_choose_some h with ⟨_, h⟩ | ⟨_, h⟩
  · obtain ⟨h1, h2, h3⟩ := ih _ _ _ _ h
    exact ⟨h1, h2, h3.left⟩
  · obtain ⟨h1, h2, h3⟩ := ih _ _ _ _ h
    exact ⟨h1, h2, h3.right⟩

theorem evCode_pure (P : Program) (tbl : Tbl R) : ∀ n, CodePure (evCode P tbl n)
  | 0 => fun c st e st' h => by simp only [evCode] at h; cases h
  | n + 1 => fun c st e st' h => by
    have ih := evCode_pure P tbl n
    simp only [evCode] at h
    split at h
    · cases h; exact ⟨Nat.le_refl _, ⟨[], rfl⟩, Agree.refl _ _⟩
    · obtain ⟨⟨tm, hh, nx⟩, h1, h2⟩ := T.run_bind_some h
      cases h2
      exact evRegion_pure h1
    · obtain ⟨⟨e1, st1⟩, h1, h2⟩ := T.run_bind_some h
      obtain ⟨p1, ⟨d1, p2⟩, p3⟩ := ih _ _ _ _ h1
      simp only at h2
      split at h2
      · obtain ⟨q1, ⟨d2, q2⟩, q3⟩ := ih _ _ _ _ h2
        exact ⟨Nat.le_trans p1 q1, ⟨d2 ++ d1, by rw [q2, p2, List.append_assoc]⟩, q3.right.trans p3.left⟩
      · cases h2; exact ⟨p1, ⟨d1, p2⟩, p3.left⟩
    · split at h
      · rename_i t _
        obtain ⟨p1, p2, p3⟩ := ih _ _ _ _ h
        refine ⟨p1, p2, ?_⟩
        cases t
        · exact p3.right
        · exact p3.left
      · exact joined_pure h (cond_pure ih)
      · cases h
    · exact joined_pure h (block_pure ih)
    · rename_i b
      obtain ⟨⟨e1, st1⟩, h1, h2⟩ := T.run_bind_some h
      obtain ⟨p1, ⟨d1, p2⟩, p3⟩ := ih _ _ _ _ h1
      simp only at h2
      split at h2
      · obtain ⟨q1, ⟨d2, q2⟩, q3⟩ := ih _ _ _ _ h2
        exact ⟨Nat.le_trans p1 q1, ⟨d2 ++ d1, by rw [q2, p2, List.append_assoc]⟩, Agree.trans q3 p3⟩
      · cases h2; exact ⟨p1, ⟨d1, p2⟩, p3⟩
    · obtain ⟨p1, p2, p3⟩ := ih _ _ _ _ h
      exact ⟨p1, p2, p3⟩
    · cases h; exact ⟨Nat.le_refl _, ⟨[], rfl⟩, Agree.refl _ _⟩
    · cases h; exact ⟨Nat.le_refl _, ⟨[], rfl⟩, Agree.refl _ _⟩
    · cases h; exact ⟨Nat.le_refl _, ⟨[], rfl⟩, Agree.refl _ _⟩
    · cases h

theorem evCode_mono (P : Program) (tbl : Tbl R) (n : Nat) : CodeMono (evCode P tbl n) := fun c st e st' h => (evCode_pure P tbl n c st e st' h).1

/-- What code comes to, out of what its ways taken together come to. -/
theorem joined_wp {P : Program} {m : Nat} {st : St R} {t : T Bool (Ex × St R)} {e : Ex} {st' : St R} (h : (compact (D := R) m st.tm st.h st.nx t).run = some (e, st'))
    (hp : ∀ e s, t.run = some (e, s) → st.nx ≤ s.nx ∧ (∃ d, s.h = d ++ st.h) ∧ Agree m s.tm st.tm) {c : Code} {ρ : Nm} {a : Act} {w : World} (hF : Fresh ρ st.nx st'.nx)
    (hw : ∀ s : St R, t.run = some (e, s) → Fresh ρ st.nx s.nx → c.wp P (fun x a' w' => x = exitOf e ∧ a'.defers = a.defers ∧ ∃ ρ', VRs ρ' s.tm a'.tmps.toList ∧ ∃ d, s.h = d ++ st.h ∧ Step ρ ρ' w w' st.nx s.nx d st.h) a w) :
    c.wp P (fun x a' w' => x = exitOf e ∧ a'.defers = a.defers ∧ ∃ ρ', VRs ρ' st'.tm a'.tmps.toList ∧ ∃ d, st'.h = d ++ st.h ∧ Step ρ ρ' w w' st.nx st'.nx d st.h) a w := by
  obtain ⟨s, d0, g1, g2, g3, g4⟩ := joined_inv h hp
  refine wp_mono (hw s g1 fun n a1 a2 => hF n a1 (Nat.lt_of_lt_of_le a2 g3.nx)) ?_
  rintro x a' w' ⟨hx, hd, ρ', ht, d, e1, e2⟩
  have : d0 = d := by rw [g2] at e1; exact List.append_cancel_right e1
  subst this
  obtain ⟨d2, q1, q2⟩ := g3.step g2 e2 hF
  exact ⟨hx, hd, ρ', g3.tm _ _ ht, d2, q1, q2⟩

theorem resV_sound {P : Program} {ρ : Nm} {tm : List (AV R)} {h : Heap R} {a : Act} {w : World} (ht : VRs ρ tm a.tmps.toList) (hH : HR ρ h w) {r : ResultVar} {v : AV R} (hr : resV P tm h r = some v) :
    ∃ u, (match r with | .tmp t => (pure (a.tmps.getD t undef) : Sem Value) | .cell x t => (do loadVar t (← asAddr (a.tmps.getD x undef)))).run P w = .ok u w ∧ VR ρ v u := by
  unfold resV at hr
  split at hr
  · rename_i t
    exact ⟨a.tmps.getD t undef, rfl, opd_sound (x := .tmp t) ht hr⟩
  · rename_i x t
    split at hr
    · rename_i n off hx
      split at hr
      · rename_i blk hg
        split at hr
        case isTrue => cases hr
        rename_i hsh
        obtain ⟨b, hb, he⟩ := opd_sound (x := .tmp x) ht hx
        have he' : a.tmps.getD x undef = .pointer (some ⟨b, off, none⟩) := he
        obtain ⟨b', cs, ty, k1, _, k2, k3⟩ := (hH n blk hg).open (by simpa using hsh)
        rw [k1] at hb; cases hb
        obtain ⟨u, g1, g2⟩ := load_sound k2 k3 hr
        refine ⟨u, ?_, g2⟩
        simp only [he', asAddr, pure_bind]
        exact g1
      · cases hr
    · rename_i n len hx
      split at hr
      · rename_i ro k l len' k' hg hbig
        split at hr
        · rename_i hc
          obtain ⟨rfl, rfl⟩ := hc
          cases hr
          obtain ⟨p, b, q1, q2, q3, q4, he⟩ := opd_sound (x := .tmp x) ht hx
          have he' : a.tmps.getD x undef = .pointer (some ⟨b, 0, none⟩) := he
          obtain ⟨p', k1, _, _, k2⟩ := (hH n _ (rowAt_some hg)).openRow
          rw [k1] at q1; cases q1
          obtain ⟨u, g1, g2⟩ := loadArr_sound (ρ := ρ) hbig k2 q2 q3 q4
          refine ⟨u, ?_, g2⟩
          simp only [he', asAddr, pure_bind]
          exact g1
        · cases hr
      · cases hr
    · cases hr

theorem resVs_sound {P : Program} {ρ : Nm} {tm : List (AV R)} {h : Heap R} {a : Act} {w : World} (ht : VRs ρ tm a.tmps.toList) (hH : HR ρ h w) : ∀ {rs : List ResultVar} {vs : List (AV R)}, resVs P tm h rs = some vs →
    ∃ us, (rs.mapM fun (r : ResultVar) => (match r with | .tmp t => (pure (a.tmps.getD t undef) : Sem Value) | .cell x t => (do loadVar t (← asAddr (a.tmps.getD x undef))))).run P w = .ok us w ∧ VRs ρ vs us
  | [], vs, hr => by simp only [resVs] at hr; cases hr; exact ⟨[], rfl, trivial⟩
  | r :: rs, vs, hr => by
    simp only [resVs] at hr
    split at hr
    · rename_i v l h1 h2
      cases hr
      obtain ⟨u, g1, g2⟩ := resV_sound ht hH h1
      obtain ⟨us, k1, k2⟩ := resVs_sound ht hH h2
      refine ⟨u :: us, ?_, ⟨g2, k2⟩⟩
      rw [List.mapM_cons]
      simp only [Sem.run_bind, g1, Result.andThen_ok, k1, Sem.run_pure]
    · cases hr

/-- What a frame's results come to. -/
theorem results_sound {P : Program} {ρ : Nm} {tm : List (AV R)} {h : Heap R} {a : Act} {w : World} {fn : Func} (ht : VRs ρ tm a.tmps.toList) (hH : HR ρ h w) {vs : List (AV R)} (hr : resVs P tm h fn.results.toList = some vs) :
    ∃ v, (results fn a.tmps).run P w = .ok v w ∧ VR ρ (oneOr vs) v := by
  obtain ⟨us, g1, g2⟩ := resVs_sound ht hH hr
  have hm : (results fn a.tmps).run P w = .ok (if h : us.toArray.size = 1 then us.toArray[0] else .tuple us.toArray) w := by
    unfold results
    rw [Sem.run_bind, Array.mapM_eq_mapM_toList, Sem.run_map]
    have : (fn.results.toList.mapM fun (x : ResultVar) => (match x with | .tmp t => (pure (a.tmps.getD t undef) : Sem Value) | .cell x t => (do loadVar t (← asAddr (a.tmps.getD x undef))))).run P w = .ok us w := g1
    erw [this]
    rfl
  refine ⟨_, hm, ?_⟩
  match vs, us, g2 with
  | [], [], _ => exact ⟨#[], rfl, trivial⟩
  | [x], [u], h => exact h.1
  | x :: y :: r, u :: u2 :: us, h => 
    have : ¬ (u :: u2 :: us).toArray.size = 1 := by simp
    rw [dif_neg this]
    exact ⟨_, rfl, by simpa using h⟩
  | [x], u :: u2 :: us, h => exact (h.2 : False).elim
  | x :: y :: r, [u], h => exact (h.2 : False).elim

/-- The table says what the machine does. -/
def TblOK (P : Program) (tbl : Tbl R) : Prop :=
  ∀ f sp, tbl f = some sp → ∀ args r, (sp args).run = some r → ∀ (w : World) (vals : Array Value), VRs Nm.nil args vals.toList →
    CF P f vals w fun v w' => VR Nm.nil r v ∧ w.heap.size ≤ w'.heap.size ∧ w'.os = w.os ∧ w'.tape = w.tape ∧ w'.output = w.output ∧ ∀ b, b < w.heap.size → w'.heap[b]? = w.heap[b]?

theorem CF.mono {P : Program} {f : FuncId} {args : Array Value} {w : World} {K K' : Value → World → Prop} (h : CF P f args w K) (hk : ∀ v w', K v w' → K' v w') : CF P f args w K' := by
  unfold CF at *
  split
  · rename_i v w' hr; rw [hr] at h; exact hk _ _ h
  · rename_i g as w' hr; rw [hr] at h
    exact Calls.mono h fun e w'' ⟨v, h1, h2⟩ => ⟨v, h1, hk _ _ h2⟩
  · rename_i h1 h2
    split at h
    · rename_i v w' hr; exact absurd hr (h1 v w')
    · rename_i g as w' hr; exact absurd hr (h2 g as w')
    · exact h

/-- Old memory stays, new memory may come. -/
structure Old (w w' : World) : Prop where
  size : w.heap.size ≤ w'.heap.size
  os : w'.os = w.os
  tape : w'.tape = w.tape
  output : w'.output = w.output
  same : ∀ b, b < w.heap.size → w'.heap[b]? = w.heap[b]?

theorem Old.step {ρ : Nm} {w w' : World} {nx : Nat} {h : Heap R} (o : Old w w') (hH : HR ρ h w) (hI : Inj ρ w) : Step ρ ρ w w' nx nx [] h where
  inj := ⟨fun n b hb => Nat.lt_of_lt_of_le (hI.lt n b hb) o.size, hI.inj⟩
  hr := fun n blk hg => (hH n blk hg).keep (.refl ρ) rfl fun b hb => o.same b (hI.lt n b hb)
  old _ _ := rfl
  st _ _ := .inl rfl
  new n b h1 h2 _ := by omega
  own n hn := by cases hn
  size := o.size
  os := o.os
  tape := o.tape
  output := o.output
  frame b hb _ := o.same b hb
  le := Nat.le_refl _

/-- No function bears the one name that the machine takes aside. -/
def plainNames (P : Program) : Bool := P.funcs.toList.all fun fn => !(fn.name == "runtime.NumGoroutine")

theorem callFunc_body {P : Program} (hn : plainNames P = true) {f : FuncId} {fn : Func} {c : Code} (hf : P.funcs[f]? = some fn) (hb : fn.body = some c) (args : Array Value) (w : World) : (callFunc f args).run P w = .ok (.enter f args) w := by
  have h1 : (fn.name == "runtime.NumGoroutine") = false := by
    unfold plainNames at hn
    rw [List.all_eq_true] at hn
    have := hn fn (Array.mem_toList_iff.2 (Array.mem_of_getElem? hf))
    simpa using this
  have h2 : fn.body.isNone = false := by rw [hb]; rfl
  unfold callFunc
  simp only [Sem.run_bind, run_program, Result.andThen_ok, hf, h1, h2, Bool.false_eq_true, if_false, Sem.run_pure]

/-- What the body of this function comes to. -/
def BodyOK (P : Program) (ev : Code → St R → T Bool (Ex × St R)) (f : FuncId) : Prop :=
  ∀ fn c, P.funcs[f]? = some fn → fn.body = some c → ∀ st e st', (ev c st).run = some (e, st') → ∀ (ρ : Nm) (a : Act) (w : World), VRs ρ st.tm a.tmps.toList → HR ρ st.h w → Inj ρ w → Fresh ρ st.nx st'.nx →
    c.wp P (fun x a' w' => x = exitOf e ∧ a'.defers = a.defers ∧ ∃ ρ', VRs ρ' st'.tm a'.tmps.toList ∧ ∃ d, st'.h = d ++ st.h ∧ Step ρ ρ' w w' st.nx st'.nx d st.h) a w

theorem CodeOK.body {P : Program} {ev : Code → St R → T Bool (Ex × St R)} (h : CodeOK P ev) (f : FuncId) : BodyOK P ev f := fun _ c _ _ => h c

theorem evFn_calls {P : Program} {ev : Code → St R → T Bool (Ex × St R)} {f : FuncId} (hc : BodyOK P ev f) {args : List (AV R)} {h : Heap R} {nx : Nat} {out : Out R} (hr : (evFnV P ev f args h nx).run = some out)
    {ρ : Nm} {w : World} {vals : Array Value} (ha : VRs ρ args vals.toList) (hH : HR ρ h w) (hI : Inj ρ w) (hF : Fresh ρ nx out.nx) :
    (∃ fn c, P.funcs[f]? = some fn ∧ fn.body = some c) ∧ Calls P f vals w fun e w' => ∃ v, e = .returned v ∧ ∃ ρ', VR ρ' out.v v ∧ Step ρ ρ' w w' nx out.nx out.d h := by
  unfold evFnV at hr
  split at hr
  · cases hr
  · rename_i fn hf
    split at hr
    · cases hr
    · rename_i c hb
      refine ⟨⟨fn, c, hf, hb⟩, ?_⟩
      obtain ⟨⟨e, st⟩, h1, h2⟩ := T.run_bind_some hr
      simp only at h2
      have hlen : args.length = vals.size := by simpa using ha.length
      have htm : VRs ρ (args ++ List.replicate (fn.ntmps - args.length) .undef) (vals ++ Array.replicate (fn.ntmps - vals.size) undef).toList := by
        simp only [Array.toList_append, Array.toList_replicate, hlen]
        exact VRs.append ha (VRs.replicate (a := .undef) (v := undef) rfl _)
      have key : (e = .normal ∨ e = .ret) → ∀ (vs : List (AV R)), resVs P st.tm st.h fn.results.toList = some vs → out.nx = st.nx → out.v = oneOr vs → out.d = keepD out.v nx st.nx (laidOn h st.h) →
          Calls P f vals w fun e w' => ∃ v, e = .returned v ∧ ∃ ρ', VR ρ' out.v v ∧ Step ρ ρ' w w' nx out.nx out.d h := by
        intro he vs hvs e1 e2 e3
        refine calls_of_wp hf hb (wp_mono (hc fn c hf hb _ e st h1 ρ _ w htm hH hI (by rw [← e1]; exact hF)) ?_)
        rintro x a' w' ⟨hx, hdef, ρ', ht', d, hd, st'⟩
        have hH' : HR ρ' st.h w' := by rw [hd]; exact st'.hr
        obtain ⟨v, g1, g2⟩ := results_sound ht' hH' hvs
        have post : ∃ v, (results fn a'.tmps).run P w' = .ok v w' ∧ ∃ v2, Ending.returned v = .returned v2 ∧ ∃ ρ', VR ρ' out.v v2 ∧ Step ρ ρ' w w' nx out.nx out.d h := by
          refine ⟨v, g1, v, rfl, ρ', by rw [e2]; exact g2, ?_⟩
          have hl : laidOn h st.h = d := by rw [hd]; exact laidOn_append d h
          rw [e3, hl, e1]
          unfold keepD
          split
          · exact st'.forget (by rw [← e1]; exact hF) hH
          · exact st'
        have hd0 : a'.defers = [] := hdef
        rcases he with rfl | rfl
        · subst hx; exact ⟨hd0, post⟩
        · subst hx; exact ⟨hd0, post⟩
      cases e with
      | exit id => cases h2
      | normal =>
        simp only at h2
        split at h2
        · rename_i vs hv
          have := (Option.some.inj h2).symm; subst this
          exact key (.inl rfl) vs hv rfl rfl rfl
        · cases h2
      | ret =>
        simp only at h2
        split at h2
        · rename_i vs hv
          have := (Option.some.inj h2).symm; subst this
          exact key (.inr rfl) vs hv rfl rfl rfl
        · cases h2

theorem evCall_sound {P : Program} (hn : plainNames P = true) {tbl : Tbl R} (ht : TblOK P tbl) {ev : Code → St R → T Bool (Ex × St R)} (hc : CodeOK P ev) : CallOK P (evCallV P tbl ev) := by
  intro f args h nx out hr ρ w vals ha hH hI hF
  unfold evCallV at hr
  split at hr
  · rename_i sp hsp
    split at hr
    · rename_i hnp
      obtain ⟨v, h1, h2⟩ := T.run_bind_some hr
      split at h2
      · rename_i hnv
        have := (Option.some.inj h2).symm; subst this
        refine CF.mono (ht f sp hsp args v h1 w vals (VRs.noPtr _ _ hnp ha)) ?_
        rintro u w' ⟨g1, g2, g3, g4, g5, g6⟩
        exact ⟨ρ, VR.noPtr _ _ hnv g1, (Old.mk g2 g3 g4 g5 g6).step hH hI⟩
      · cases h2
    · cases hr
  · obtain ⟨⟨fn, c, hf, hb⟩, hcalls⟩ := evFn_calls (hc.body f) hr ha hH hI hF
    unfold CF
    rw [callFunc_body hn hf hb vals w]
    exact hcalls

theorem rounds_mono {P : Program} {c : Code} {Q Q' : Exit → Act → World → Prop} (hq : ∀ e a w, Q e a w → Q' e a w) : ∀ (n : Nat) (a : Act) (w : World), Code.rounds P c Q n a w → Code.rounds P c Q' n a w
  | 0, _, _, h => h
  | n + 1, a, w, h => by
    refine wp_mono (h : c.wp P (Exit.then (Code.rounds P c Q n) Q) a w) fun e a' w' he => ?_
    cases e <;> first | exact rounds_mono hq n _ _ he | exact hq _ _ _ he

theorem loop_rounds {P : Program} {tbl : Tbl R} : ∀ n, (∀ m, m < n → CodeOK P (evCode P tbl m)) → ∀ (x : Code) (st : St R) (e : Ex) (st' : St R), (evCode P tbl n (.loop x) st).run = some (e, st') →
    ∀ (ρ : Nm) (a : Act) (w : World), VRs ρ st.tm a.tmps.toList → HR ρ st.h w → Inj ρ w → Fresh ρ st.nx st'.nx →
    Code.rounds P x (fun z a' w' => z = exitOf e ∧ a'.defers = a.defers ∧ ∃ ρ', VRs ρ' st'.tm a'.tmps.toList ∧ ∃ d, st'.h = d ++ st.h ∧ Step ρ ρ' w w' st.nx st'.nx d st.h) n a w
  | 0, _, x, st, e, st', h => by simp only [evCode] at h; cases h
  | n + 1, hall, x, st, e, st', h => by
    intro ρ a w htm hH hI hF
    have ih := hall n (by omega)
    have mono := evCode_mono P tbl n
    simp only [evCode] at h
    obtain ⟨⟨e1, st1⟩, h1, h2⟩ := T.run_bind_some h
    simp only at h2
    have m1 := mono _ _ _ _ h1
    rw [rounds_succ]
    cases e1 with
    | normal =>
      simp only at h2
      have m2 := mono _ _ _ _ h2
      refine wp_mono (ih x st .normal st1 h1 ρ a w htm hH hI (fun n c1 c2 => hF n c1 (by omega))) ?_
      rintro z a1 w1 ⟨hz, hdef, ρ1, ht1, d1, hd1, s1⟩
      subst hz
      have hH1 : HR ρ1 st1.h w1 := by rw [hd1]; exact s1.hr
      have hF1 : Fresh ρ1 st1.nx st'.nx := fun n c1 c2 => by rw [s1.old n (by omega)]; exact hF n (by omega) c2
      refine rounds_mono ?_ n a1 w1 (loop_rounds n (fun m hm => hall m (by omega)) x st1 e st' h2 ρ1 a1 w1 ht1 hH1 s1.inj hF1)
      rintro z2 a2 w2 ⟨hz2, hdef2, ρ2, ht2, d2, hd2, s2⟩
      rw [hd1] at s2 hd2
      exact ⟨hz2, hdef2.trans hdef, ρ2, ht2, d2 ++ d1, by rw [hd2, List.append_assoc], s1.trans s2⟩
    | exit id =>
      cases h2
      refine wp_mono (ih x st (.exit id) _ h1 ρ a w htm hH hI hF) ?_
      rintro z a1 w1 ⟨hz, rest⟩
      subst hz
      exact ⟨rfl, rest⟩
    | ret =>
      cases h2
      refine wp_mono (ih x st .ret _ h1 ρ a w htm hH hI hF) ?_
      rintro z a1 w1 ⟨hz, rest⟩
      subst hz
      exact ⟨rfl, rest⟩

theorem evCode_sound {P : Program} (hP : P.follows .mixedOrders = true) (hn : plainNames P = true) {tbl : Tbl R} (ht : TblOK P tbl) : ∀ n, CodeOK P (evCode P tbl n)
  | 0 => fun c st e st' h => by simp only [evCode] at h; cases h
  | n + 1 => fun c st e st' h ρ a w htm hH hI hF => by
    have ih := evCode_sound hP hn ht n
    have mono := evCode_mono P tbl n
    simp only [evCode] at h
    split at h
    · cases h
      exact wp_skip ⟨rfl, rfl, ρ, htm, [], rfl, Step.refl hH hI⟩
    · obtain ⟨⟨tm, hh, nx⟩, h1, h2⟩ := T.run_bind_some h
      cases h2
      exact region_sound hP (evCall_sound hn ht ih) h1 htm hH hI hF fun ρ' a' w' g1 g2 g3 => ⟨rfl, g1, ρ', g2, g3⟩
    · rename_i x y
      obtain ⟨⟨e1, st1⟩, h1, h2⟩ := T.run_bind_some h
      simp only at h2
      have m1 := mono _ _ _ _ h1
      cases e1 with
      | normal =>
        simp only at h2
        have m2 := mono _ _ _ _ h2
        refine wp_seq (wp_mono (ih x st .normal st1 h1 ρ a w htm hH hI (fun n c1 c2 => hF n c1 (by omega))) ?_)
        rintro z a1 w1 ⟨hz, hdef, ρ1, ht1, d1, hd1, s1⟩
        subst hz
        have hH1 : HR ρ1 st1.h w1 := by rw [hd1]; exact s1.hr
        have hF1 : Fresh ρ1 st1.nx st'.nx := fun n c1 c2 => by rw [s1.old n (by omega)]; exact hF n (by omega) c2
        refine wp_mono (ih y st1 e st' h2 ρ1 a1 w1 ht1 hH1 s1.inj hF1) ?_
        rintro z2 a2 w2 ⟨hz2, hdef2, ρ2, ht2, d2, hd2, s2⟩
        rw [hd1] at s2 hd2
        exact ⟨hz2, hdef2.trans hdef, ρ2, ht2, d2 ++ d1, by rw [hd2, List.append_assoc], s1.trans s2⟩
      | exit id =>
        cases h2
        refine wp_seq (wp_mono (ih x st (.exit id) _ h1 ρ a w htm hH hI hF) ?_)
        rintro z a1 w1 ⟨hz, rest⟩
        subst hz
        exact ⟨rfl, rest⟩
      | ret =>
        cases h2
        refine wp_seq (wp_mono (ih x st .ret _ h1 ρ a w htm hH hI hF) ?_)
        rintro z a1 w1 ⟨hz, rest⟩
        subst hz
        exact ⟨rfl, rest⟩
    · rename_i c x y
      split at h
      · rename_i t hc
        have hv : a.eval c = .bool t := opd_sound htm hc
        exact wp_cond hv (ih _ st e st' h ρ a w htm hH hI hF)
      · rename_i s hc
        have hv : a.eval c = .bool s := opd_sound htm hc
        refine joined_wp h (cond_pure (evCode_pure P tbl n)) hF fun s2 h hF => ?_
        rcases run_choose_some h with ⟨hs, h⟩ | ⟨hs, h⟩
        · exact wp_cond (t := true) (by rw [hv, hs]) (ih _ st e s2 h ρ a w htm hH hI hF)
        · exact wp_cond (t := false) (by rw [hv, hs]) (ih _ st e s2 h ρ a w htm hH hI hF)
      · cases h
    · rename_i id x
      refine joined_wp h (block_pure (evCode_pure P tbl n)) hF fun s2 h hF => ?_
      obtain ⟨⟨e1, st1⟩, h1, h2⟩ := T.run_bind_some h
      simp only at h2
      cases e1 with
      | normal =>
        cases h2
        refine wp_block (wp_mono (ih x st .normal _ h1 ρ a w htm hH hI hF) ?_)
        rintro z a1 w1 ⟨hz, rest⟩
        subst hz
        exact ⟨rfl, rest⟩
      | exit j =>
        simp only at h2
        split at h2
        · rename_i hj
          cases h2
          refine wp_block (wp_mono (ih x st (.exit j) _ h1 ρ a w htm hH hI hF) ?_)
          rintro z a1 w1 ⟨hz, rest⟩
          subst hz
          simp only [exitOf, Exit.inBlock, hj, if_true]
          exact ⟨trivial, rest⟩
        · rename_i hj
          cases h2
          refine wp_block (wp_mono (ih x st (.exit j) _ h1 ρ a w htm hH hI hF) ?_)
          rintro z a1 w1 ⟨hz, rest⟩
          subst hz
          simp only [exitOf, Exit.inBlock, hj, if_false]
          exact ⟨trivial, rest⟩
      | ret =>
        cases h2
        refine wp_block (wp_mono (ih x st .ret _ h1 ρ a w htm hH hI hF) ?_)
        rintro z a1 w1 ⟨hz, rest⟩
        subst hz
        exact ⟨rfl, rest⟩
    · rename_i x
      have h' : (evCode P tbl (n + 1) (.loop x) st).run = some (e, st') := by simpa only [evCode] using h
      exact wp_loop_rounds (n + 1) (loop_rounds (n + 1) (fun m hm => evCode_sound hP hn ht m) x st e st' h' ρ a w htm hH hI hF)
    · rename_i x
      refine wp_scope_straight (wp_mono (ih x st e st' h ρ a w htm hH hI hF) ?_)
      rintro z a1 w1 ⟨hz, rest⟩
      subst hz
      cases e <;> exact ⟨rfl, rest⟩
    · cases h
      exact wp_label ⟨rfl, rfl, ρ, htm, [], rfl, Step.refl hH hI⟩
    · cases h
      exact wp_exit ⟨rfl, rfl, ρ, htm, [], rfl, Step.refl hH hI⟩
    · cases h
      exact wp_ret ⟨rfl, rfl, ρ, htm, [], rfl, Step.refl hH hI⟩
    · cases h

end Go.Ev
/- Entries of the table, from what the evaluator says of a function. -/
namespace Go.Ev

theorem joinT_sound : ∀ (t : T Bool (AV R)) (ok : Option Bool) (v : AV R), joinT (D := R) t = .val ok v → (∀ o, ok = some o → o = true) → ∃ r, t.run = some r ∧ Le r v
  | .fail _, ok, v, h, _ => by simp only [joinT] at h; cases h
  | .ret a, ok, v, h, _ => by simp only [joinT] at h; cases h; exact ⟨a, rfl, Le.refl _⟩
  | .node c t e, ok, v, h, hok => by
    simp only [joinT] at h
    cases hc : c with
    | true =>
      subst hc
      simp only [T.run_node, if_true]
      split at h <;> first | (cases h; done) | skip
      · rename_i ok1 v1 h1 h2
        cases h
        refine joinT_sound t _ _ h1 fun o ho => ?_
        subst ho
        have := hok _ rfl
        simpa [R] using this
      · rename_i ok1 v1 h1 h2
        cases h
        have := hok _ rfl
        cases ok1 <;> exact nomatch (show false = true from this)
      · rename_i ok1 v1 ok2 v2 h1 h2
        split at h
        · rename_i u hu
          cases h
          obtain ⟨r, hr, hl⟩ := joinT_sound t _ _ h1 fun o ho => by
            subst ho
            cases ok2 with
            | none => have := hok _ rfl; simpa [R] using this
            | some o2 => have := hok _ rfl; simpa [R] using this
          exact ⟨r, hr, fun ρ w hw => join2_true _ _ _ hu ρ w (hl ρ w hw)⟩
        · cases h
    | false =>
      subst hc
      simp only [T.run_node, Bool.false_eq_true, if_false]
      split at h <;> first | (cases h; done) | skip
      · rename_i ok1 v1 h1 h2
        cases h
        have := hok _ rfl
        cases ok1 <;> exact nomatch (show false = true from this)
      · rename_i ok1 v1 h1 h2
        cases h
        refine joinT_sound e _ _ h2 fun o ho => ?_
        subst ho
        have := hok _ rfl
        simpa [R] using this
      · rename_i ok1 v1 ok2 v2 h1 h2
        split at h
        · rename_i u hu
          cases h
          obtain ⟨r, hr, hl⟩ := joinT_sound e _ _ h2 fun o ho => by
            subst ho
            cases ok1 with
            | none => have := hok _ rfl; simpa [R] using this
            | some o2 => have := hok _ rfl; simpa [R] using this
          exact ⟨r, hr, fun ρ w hw => join2_false _ _ _ hu ρ w (hl ρ w hw)⟩
        · cases h

/-- What the table asks of an entry, at one row of arguments. -/
def Entry (P : Program) (f : FuncId) (args : List (AV R)) (r : AV R) : Prop :=
  ∀ (w : World) (vals : Array Value), VRs Nm.nil args vals.toList →
    CF P f vals w fun v w' => VR Nm.nil r v ∧ w.heap.size ≤ w'.heap.size ∧ w'.os = w.os ∧ w'.tape = w.tape ∧ w'.output = w.output ∧ ∀ b, b < w.heap.size → w'.heap[b]? = w.heap[b]?

theorem Entry.le {P : Program} {f : FuncId} {as bs : List (AV R)} {r : AV R} (h : Entry P f bs r) (hl : Les as bs) : Entry P f as r := fun w vals hv => h w vals (hl _ _ hv)

theorem HR.nil {ρ : Nm} (w : World) : HR ρ [] w := fun n blk h => by cases h
theorem Inj.none (w : World) : Inj Nm.nil w := { lt := fun _ _ h => (nomatch h), inj := fun _ _ _ h _ _ _ => (nomatch h) }

structure Prog (P : Program) : Prop where
  mixed : P.follows .mixedOrders = true
  names : plainNames P = true

/-- A function's entry, from what the evaluator says of it. -/
theorem entry_of {P : Program} (hP : Prog P) {tbl : Tbl R} (ht : TblOK P tbl) {n : Nat} {f : FuncId} {args : List (AV R)} {ok : Option Bool} {v : AV R} (h : joinT (D := R) (evFn P tbl n f args) = .val ok v) (hok : ∀ o, ok = some o → o = true) (hnp : v.noPtr = true) :
    Entry P f args v := by
  intro w vals hv
  obtain ⟨r, hr, hle⟩ := joinT_sound _ _ _ h hok
  unfold evFn at hr
  obtain ⟨out, h1, h2⟩ := T.run_bind_some hr
  have := (Option.some.inj h2)
  subst this
  obtain ⟨⟨fn, c, hf, hb⟩, hcalls⟩ := evFn_calls (CodeOK.body (evCode_sound hP.mixed hP.names ht n) f) h1 hv (HR.nil w) (Inj.none w) (fun _ _ _ => rfl)
  unfold CF
  rw [callFunc_body hP.names hf hb vals w]
  refine Calls.mono hcalls ?_
  rintro e w' ⟨u, rfl, ρ', g1, g2⟩
  exact ⟨u, rfl, VR.noPtr _ _ hnp (hle _ _ g1), g2.size, g2.os, g2.tape, g2.output, fun b hb => g2.frame b hb fun _ _ _ hc => by cases hc⟩

/-- The same from what the evaluator's tree comes to, at given floats and numbers. -/
theorem entry_run {P : Program} (hP : Prog P) {tbl : Tbl R} (ht : TblOK P tbl) {n : Nat} {f : FuncId} {args : List (AV R)} {r v : AV R} (hr : (evFn P tbl n f args).run = some r) (hle : Le r v) (hnp : v.noPtr = true) :
    Entry P f args v := by
  intro w vals hv
  unfold evFn at hr
  obtain ⟨out, h1, h2⟩ := T.run_bind_some hr
  have := (Option.some.inj h2)
  subst this
  obtain ⟨⟨fn, c, hf, hb⟩, hcalls⟩ := evFn_calls (CodeOK.body (evCode_sound hP.mixed hP.names ht n) f) h1 hv (HR.nil w) (Inj.none w) (fun _ _ _ => rfl)
  unfold CF
  rw [callFunc_body hP.names hf hb vals w]
  refine Calls.mono hcalls ?_
  rintro e w' ⟨u, rfl, ρ', g1, g2⟩
  exact ⟨u, rfl, VR.noPtr _ _ hnp (hle _ _ g1), g2.size, g2.os, g2.tape, g2.output, fun b hb => g2.frame b hb fun _ _ _ hc => by cases hc⟩

/-- What the tree comes to is a test that holds. -/
def isTrueRun : Option (AV R) → Bool
  | some (.sb b) => b
  | some (.kb b) => b
  | _ => false

theorem entry_true {P : Program} (hP : Prog P) {tbl : Tbl R} (ht : TblOK P tbl) {n : Nat} {f : FuncId} {args : List (AV R)} (hr : isTrueRun (evFn P tbl n f args).run = true) : Entry P f args (.kb true) := by
  cases h : (evFn P tbl n f args).run with
  | none => rw [h] at hr; cases hr
  | some r =>
    rw [h] at hr
    cases r <;> first | (cases hr; done) | skip
    · rename_i b
      have : b = true := hr
      subst this
      exact entry_run hP ht h (Le.refl _) rfl
    · rename_i b
      have : b = true := hr
      subst this
      exact entry_run hP ht h (fun _ _ hv => hv) rfl

theorem TblOK.nil (P : Program) : TblOK P (tblOf [] R) := fun f sp h => by cases h

theorem TblOK.cons {P : Program} {l : List (Nat × Spec)} (ht : TblOK P (tblOf l R)) {k : Nat} {sp : Spec} (h : ∀ args r, (sp R args).run = some r → Entry P k args r) : TblOK P (tblOf ((k, sp) :: l) R) := by
  intro f s hf args r hr w vals hv
  simp only [tblOf] at hf
  split at hf
  · rename_i e
    have e' : k = f := by simpa using e
    subst e'
    cases hf
    exact h args r hr w vals hv
  · exact ht f s hf args r hr w vals hv

theorem argF_inv {l : List (AV R)} {k : Fl → List (AV R) → T Bool (AV R)} {r : AV R} (h : (argF (D := R) l k).run = some r) : ∃ x rest, (k x rest).run = some r ∧ ∀ bs, Les rest bs → Les l (.fl x :: bs) := by
  cases l with
  | nil => cases h
  | cons a l => cases a <;> first | (exact ⟨_, _, h, fun bs hb => Les.cons (Le.refl _) hb⟩) | cases h
theorem argB_inv {l : List (AV R)} {k : Bool → List (AV R) → T Bool (AV R)} {r : AV R} (h : (argB (D := R) l k).run = some r) : ∃ x rest, (k x rest).run = some r ∧ ∀ bs, Les rest bs → Les l (.sb x :: bs) := by
  cases l with
  | nil => cases h
  | cons a l => cases a <;> first | (exact ⟨_, _, h, fun bs hb => Les.cons (fun _ _ hv => hv) hb⟩) | cases h
theorem argZ_inv {i : IntKind} {l : List (AV R)} {k : Int → List (AV R) → T Bool (AV R)} {r : AV R} (h : (argZ (D := R) i l k).run = some r) : ∃ x rest, (k x rest).run = some r ∧ ∀ bs, Les rest bs → Les l (.si i x :: bs) := by
  cases l with
  | nil => cases h
  | cons a l =>
    cases a <;> first | (cases h; done) | skip
    · rename_i j n
      by_cases e : i = j
      · subst e
        have h' : (k n l).run = some r := by simpa [argZ, R] using h
        exact ⟨n, l, h', fun bs hb => Les.cons (fun _ _ hv => hv) hb⟩
      · have h' : (if i = j then k (R.zc n) l else T.fail "argZ" : T Bool (AV R)).run = some r := h
        rw [if_neg e] at h'; cases h'
    · rename_i j n
      by_cases e : i = j
      · subst e
        have h' : (k n l).run = some r := by simpa [argZ, R] using h
        exact ⟨n, l, h', fun bs hb => Les.cons (fun _ _ hv => hv) hb⟩
      · have h' : (if i = j then k n l else T.fail "argZ" : T Bool (AV R)).run = some r := h
        rw [if_neg e] at h'; cases h'
theorem argK_inv {i : IntKind} {l : List (AV R)} {k : Int → List (AV R) → T Bool (AV R)} {r : AV R} (h : (argK (D := R) i l k).run = some r) : ∃ x rest, (k x rest).run = some r ∧ ∀ bs, Les rest bs → Les l (.ki i x :: bs) := by
  cases l with
  | nil => cases h
  | cons a l =>
    cases a <;> first | (cases h; done) | skip
    · rename_i j n
      by_cases e : i = j
      · subst e
        have h' : (k n l).run = some r := by simpa [argK, R] using h
        exact ⟨n, l, h', fun bs hb => Les.cons (Le.refl _) hb⟩
      · have h' : (if i = j then k n l else T.fail "argK" : T Bool (AV R)).run = some r := h
        rw [if_neg e] at h'; cases h'
theorem argA_inv {l : List (AV R)} {k : List (AV R) → List (AV R) → T Bool (AV R)} {r : AV R} (h : (argA (D := R) l k).run = some r) : ∃ cs rest, (k cs rest).run = some r ∧ ∀ cs' bs, Les cs cs' → Les rest bs → Les l (.agg cs' :: bs) := by
  cases l with
  | nil => cases h
  | cons a l => cases a <;> first | (exact ⟨_, _, h, fun cs' bs h1 h2 => Les.cons (Le.agg h1) h2⟩) | cases h
theorem arg0_inv {l : List (AV R)} {t : T Bool (AV R)} {r : AV R} (h : (arg0 (D := R) l t).run = some r) : t.run = some r ∧ Les l [] := by
  cases l with
  | nil => exact ⟨h, Les.nil⟩
  | cons a l => cases h

theorem run_okay {ok : Bool} {v r : AV R} (h : (T.node ok (.ret v) (.fail "pre") : T Bool (AV R)).run = some r) : ok = true ∧ r = v := by
  cases ok
  · cases h
  · exact ⟨rfl, (Option.some.inj h).symm⟩

/-- The entry of a root that stands in Go's own library: the square root. -/
theorem entry_sqrt {P : Program} {f : FuncId} {fn : Func} (hf : P.funcs[f]? = some fn) (hb : fn.body = none) (hn : (fn.name == "runtime.NumGoroutine") = false) (h1 : Extern.findNext fn = none) (h2 : Extern.find fn = some Extern.MathSqrt.sqrt) (x : Fl) :
    Entry P f [.fl x] (.fl (R.fsqrt x)) := by
  intro w vals hv
  obtain ⟨v, ws, e, ⟨b, rfl, hb64, rfl⟩, h4⟩ := hv.cons_inv
  have := h4.nil_inv; subst this
  have hvals : vals = #[.float .f64 b] := by rw [← Array.toArray_toList (xs := vals), e]
  subst hvals
  obtain ⟨r, w', g1, g2, g3, g4⟩ := run_sqrt P w b
  have hrun : (callFunc f #[.float .f64 b]).run P w = .ok (.value (.float .f64 r)) w' := by
    unfold callFunc
    simp only [Sem.run_bind, run_program, Result.andThen_ok, hf, hn, hb, Bool.false_eq_true, if_false, Option.isNone_none, if_true, mark, Sem.run, h1, h2, g1, Sem.run_pure]
  unfold CF
  rw [hrun]
  exact ⟨⟨r, rfl, g2, g3⟩, by rw [g4.heap]; exact Nat.le_refl _, g4.os, g4.tape, g4.output, fun b _ => by rw [g4.heap]⟩

/-- The entry of a float by its bits. -/
theorem entry_frombits {P : Program} {f : FuncId} {fn : Func} (hf : P.funcs[f]? = some fn) (hb : fn.body = none) (hn : (fn.name == "runtime.NumGoroutine") = false) (h1 : Extern.findNext fn = none) (h2 : Extern.find fn = some Extern.MathFloatBits.float64frombits) (n : Int) :
    Entry P f [.ki .u64 n] (.fl (R.fc n.toNat)) := by
  intro w vals hv
  obtain ⟨v, ws, e, ⟨rfl, hok⟩, h4⟩ := hv.cons_inv
  have := h4.nil_inv; subst this
  have hvals : vals = #[.int .u64 n] := by rw [← Array.toArray_toList (xs := vals), e]
  subst hvals
  have hx : (Extern.MathFloatBits.float64frombits #[.int .u64 n]).run P w = .ok (.float .f64 n.toNat) w := rfl
  have hrun : (callFunc f #[.int .u64 n]).run P w = .ok (.value (.float .f64 n.toNat)) w := by
    unfold callFunc
    simp only [Sem.run_bind, run_program, Result.andThen_ok, hf, hn, hb, Bool.false_eq_true, if_false, Option.isNone_none, if_true, mark, Sem.run, h1, h2, hx, Sem.run_pure]
  unfold CF
  rw [hrun]
  refine ⟨⟨n.toNat, rfl, ?_, rfl⟩, Nat.le_refl _, rfl, rfl, rfl, fun b _ => rfl⟩
  have : n ≤ 18446744073709551615 := hok.2
  omega

end Go.Ev
/- Arguments that are plain data, opened; and a law's row, out of what the evaluator says. -/
namespace Go.Ev
open Go.ChangeShapes Go.WideShapes Go.ChangeAt Go.RowKit

def CK.fits : CK → AV R → Prop
  | .f, c => ∃ x : Fl, c = .fl x
  | .b, c => ∃ x : Bool, c = .sb x
  | .z k, c => ∃ n : Int, okInt k n ∧ c = .si k n

def fitsL : List CK → List (AV R) → Prop
  | [], l => l = []
  | k :: ks, l => ∃ a r, l = a :: r ∧ k.fits a ∧ fitsL ks r

theorem fitsL.append : ∀ {ks js : List CK} {a b : List (AV R)}, fitsL ks a → fitsL js b → fitsL (ks ++ js) (a ++ b)
  | [], _, _, _, h, h2 => by cases h; exact h2
  | _ :: _, _, _, _, ⟨x, r, e, h1, h2⟩, h3 => by subst e; exact ⟨x, _, rfl, h1, h2.append h3⟩

theorem fitsL.length : ∀ {ks : List CK} {a : List (AV R)}, fitsL ks a → a.length = ks.length
  | [], _, h => by cases h; rfl
  | _ :: _, _, ⟨x, r, e, _, h2⟩ => by subst e; simp [h2.length]

def cellFs (P : Program) (ck : TypeId → Option (List CK)) : List Field → List CK → Option (List CK)
  | [], acc => some acc
  | f :: r, acc => match ck f.type with
    | some s => if f.offset == acc.length && P.cellsOf f.type == s.length then cellFs P ck r (acc ++ s) else none
    | none => none

def repK : Nat → List CK → List CK
  | 0, _ => []
  | m + 1, ks => ks ++ repK m ks

/-- The cells of a type that is plain data. -/
def cellK (P : Program) : Nat → TypeId → Option (List CK)
  | 0, _ => none
  | n + 1, t =>
    match P.underlying t with
    | some (.float .f64) => some [.f]
    | some (.int k) => some [.z k]
    | some .bool => some [.b]
    | some (.struct fs) => match cellFs P (cellK P n) fs.toList [] with
      | some ks => if P.cellsOf t == ks.length then some ks else none
      | none => none
    | some (.array m e) => match cellK P n e with
      | some ks => if P.cellsOf e == ks.length && P.cellsOf t == m * ks.length then some (repK m ks) else none
      | none => none
    | _ => none

theorem repK_length (ks : List CK) : ∀ m, (repK m ks).length = m * ks.length
  | 0 => by simp [repK]
  | m + 1 => by simp [repK, repK_length ks m, Nat.succ_mul, Nat.add_comm]

section
variable {H : Type} {enc : TypeId × Value → H} {P : Program} {w : World} {base : Nat} {spare : Nat → Bool} {held : Bool} {ρ : Nm}

theorem cellFs_pre {ck : TypeId → Option (List CK)} : ∀ {fs : List Field} {acc q : List CK}, cellFs P ck fs acc = some q → ∃ q', q = acc ++ q'
  | [], acc, q, h => ⟨[], by simp only [cellFs] at h; cases h; simp⟩
  | f :: r, acc, q, h => by
    simp only [cellFs] at h
    split at h
    · split at h
      · obtain ⟨q', e⟩ := cellFs_pre h; exact ⟨_ ++ q', e.trans (List.append_assoc _ _ _)⟩
      · cases h
    · cases h

theorem mapM_some {α β : Type} {f : α → Option β} : ∀ {l : List α} {ys : List β}, l.mapM f = some ys → ∀ x ∈ l, ∃ y, f x = some y
  | [], _, _, _, hx => by cases hx
  | a :: l, ys, h, x, hx => by
    rw [List.mapM_cons] at h
    cases ha : f a with
    | none => rw [ha] at h; cases h
    | some y =>
      rw [ha] at h
      cases hl : l.mapM f with
      | none => simp [hl] at h
      | some zs =>
        rcases List.mem_cons.1 hx with rfl | hx
        · exact ⟨y, ha⟩
        · exact mapM_some hl x hx

theorem cells_fields {fuel : Nat} {ck : TypeId → Option (List CK)} (hone : ∀ t ks, ck t = some ks → ∀ cs x, DataW.trod enc P w base spare held fuel t cs = some x → cs.length = ks.length → ∃ as, fitsL ks as ∧ VRs ρ as cs) (cs : List Value) :
    ∀ (fs : List Field) (acc q : List CK), cellFs P ck fs acc = some (acc ++ q) → acc.length + q.length = cs.length →
      (∀ f ∈ fs, ∃ x, DataW.trod enc P w base spare held fuel f.type ((cs.drop f.offset).take (P.cellsOf f.type)) = some x) → ∃ as, fitsL q as ∧ VRs ρ as (cs.drop acc.length)
  | [], acc, q, h, hl, _ => by
    simp only [cellFs] at h
    have : q = [] := by have := Option.some.inj h; simpa using this
    subst this
    refine ⟨[], rfl, ?_⟩
    have : cs.drop acc.length = [] := List.drop_eq_nil_of_le (by simp at hl; omega)
    rw [this]; trivial
  | f :: fs, acc, q, h, hl, hall => by
    simp only [cellFs] at h
    split at h
    · rename_i s hs
      split at h
      · rename_i hc
        simp only [Bool.and_eq_true, beq_iff_eq] at hc
        obtain ⟨q', hq'⟩ := cellFs_pre h
        have hqq : q = s ++ q' := by rw [List.append_assoc] at hq'; exact List.append_cancel_left hq'
        subst hqq
        obtain ⟨x, hx⟩ := hall f List.mem_cons_self
        rw [hc.1, hc.2] at hx
        have hlen : (s ++ q').length = s.length + q'.length := List.length_append
        obtain ⟨a1, h1, h2⟩ := hone _ _ hs _ _ hx (by simp; omega)
        obtain ⟨a2, h3, h4⟩ := cells_fields hone cs fs (acc ++ s) q' (by rw [List.append_assoc]; exact h) (by simp; omega) (fun g hg => hall g (List.mem_cons_of_mem _ hg))
        refine ⟨a1 ++ a2, h1.append h3, ?_⟩
        have e : cs.drop acc.length = (cs.drop acc.length).take s.length ++ cs.drop (acc ++ s).length := by
          rw [List.length_append, ← List.drop_drop, List.take_append_drop]
        rw [e]
        exact VRs.append h2 h4
      · cases h
    · cases h

theorem cells_array {fuel : Nat} {t : TypeId} {ks : List CK} (hone : ∀ cs x, DataW.trod enc P w base spare held fuel t cs = some x → cs.length = ks.length → ∃ as, fitsL ks as ∧ VRs ρ as cs) (cs : List Value) :
    ∀ (m i : Nat), (i + m) * ks.length = cs.length → (∀ j, j < i + m → ∃ x, DataW.trod enc P w base spare held fuel t ((cs.drop (j * ks.length)).take ks.length) = some x) →
      ∃ as, fitsL (repK m ks) as ∧ VRs ρ as (cs.drop (i * ks.length))
  | 0, i, hl, _ => by
    refine ⟨[], rfl, ?_⟩
    rw [List.drop_eq_nil_of_le (by simp at hl; omega)]; trivial
  | m + 1, i, hl, hall => by
    obtain ⟨x, hx⟩ := hall i (by omega)
    have hmul : (i + (m + 1)) * ks.length = i * ks.length + (m * ks.length + ks.length) := by rw [Nat.add_mul, Nat.succ_mul]
    obtain ⟨a1, h1, h2⟩ := hone _ _ hx (by simp; omega)
    obtain ⟨a2, h3, h4⟩ := cells_array hone cs m (i + 1) (by rw [← hl]; congr 1; omega) (fun j hj => hall j (by omega))
    refine ⟨a1 ++ a2, h1.append h3, ?_⟩
    have e : cs.drop (i * ks.length) = (cs.drop (i * ks.length)).take ks.length ++ cs.drop ((i + 1) * ks.length) := by
      rw [Nat.succ_mul, ← List.drop_drop, List.take_append_drop]
    rw [e]
    exact VRs.append h2 h4

theorem okInt_wf {k : IntKind} {n : Int} (h : (Lit.int k n).wf = true) : okInt k n := by
  simp only [Lit.wf, Bool.and_eq_true, decide_eq_true_eq] at h
  exact h

theorem float_wf {b : Nat} (h : (Lit.float .f64 b).wf = true) : b < 2 ^ 64 := by
  simpa [Lit.wf] using h

theorem cells_sound : ∀ (n : Nat) (t : TypeId) (ks : List CK), cellK P n t = some ks → ∀ (fuel : Nat) (cs : List Value) (x : DataW H × List MemPlace), DataW.trod enc P w base spare held fuel t cs = some x → cs.length = ks.length → ∃ as, fitsL ks as ∧ VRs ρ as cs
  | 0, _, _, h, _, _, _, _, _ => by simp [cellK] at h
  | n + 1, t, ks, h, 0, cs, x, hx, _ => by simp [DataW.trod] at hx
  | n + 1, t, ks, h, fuel + 1, cs, x, hx, hl => by
    simp only [cellK] at h
    split at h
    · rename_i hu
      cases h
      obtain ⟨v, rfl⟩ := List.length_eq_one_iff.1 hl
      cases v <;> simp [DataW.trod, hu] at hx
      obtain ⟨⟨rfl, hw⟩, _⟩ := hx
      exact ⟨[.fl (cls _)], ⟨_, _, rfl, ⟨_, rfl⟩, rfl⟩, ⟨_, rfl, float_wf hw, rfl⟩, trivial⟩
    · rename_i k hu
      cases h
      obtain ⟨v, rfl⟩ := List.length_eq_one_iff.1 hl
      cases v <;> simp [DataW.trod, hu] at hx
      obtain ⟨⟨rfl, hw⟩, _⟩ := hx
      exact ⟨[.si _ _], ⟨_, _, rfl, ⟨_, okInt_wf hw, rfl⟩, rfl⟩, ⟨rfl, okInt_wf hw⟩, trivial⟩
    · rename_i hu
      cases h
      obtain ⟨v, rfl⟩ := List.length_eq_one_iff.1 hl
      cases v <;> simp [DataW.trod, hu] at hx
      exact ⟨[.sb _], ⟨_, _, rfl, ⟨_, rfl⟩, rfl⟩, rfl, trivial⟩
    · rename_i fs hu
      split at h
      · rename_i q hq
        split at h
        · cases h
          obtain ⟨xs, m, hm, rfl, hl2, hlen, hf⟩ := DataW.trod_struct hu hx
          cases hm
          have := cells_fields (ρ := ρ) (enc := enc) (w := w) (base := base) (spare := spare) (held := held) (fuel := fuel) (fun t' ks' h' cs' x' hx' hl' => cells_sound n t' ks' h' fuel cs' x' hx' hl') cs fs.toList [] ks (by simpa using hq) (by simpa using hl.symm) (fun f hf' => by
            obtain ⟨i, hi⟩ := List.getElem?_of_mem hf'
            have hi2 : i < xs.length := by
              have := (List.getElem?_eq_some_iff.1 hi).1
              rw [hlen]; simpa using this
            exact ⟨xs[i], (hf i f (by simpa using hi)).trans (List.getElem?_eq_getElem hi2)⟩)
          simpa using this
        · cases h
      · cases h
    · rename_i m e hu
      split at h
      · rename_i q hq
        split at h
        · rename_i hc
          simp only [Bool.and_eq_true, beq_iff_eq] at hc
          cases h
          simp only [DataW.trod, hu] at hx
          split at hx
          · rename_i hcl
            cases hmm : (List.range m).mapM (fun i => DataW.trod enc P w base spare held fuel e ((cs.drop (i * P.cellsOf e)).take (P.cellsOf e))) with
            | none => rw [hmm] at hx; cases hx
            | some ys =>
              have hall := mapM_some hmm
              have := cells_array (ρ := ρ) (enc := enc) (w := w) (base := base) (spare := spare) (held := held) (fuel := fuel) (t := e) (ks := q) (fun cs' x' hx' hl' => cells_sound n e q hq fuel cs' x' hx' hl') cs m 0 (by rw [Nat.zero_add, hcl, hc.2]) (fun j hj => by
                obtain ⟨y, hy⟩ := hall j (List.mem_range.2 (by omega))
                rw [hc.1] at hy
                exact ⟨y, hy⟩)
              simpa using this
          · cases hx
        · cases h
      · cases h
    · cases h

inductive AK where
  | one (k : CK)
  | agg (ks : List CK)

def AK.fits : AK → AV R → Prop
  | .one k, a => k.fits a
  | .agg ks, a => ∃ l, a = .agg l ∧ fitsL ks l

def argK1 (P : Program) (t : TypeId) : Option AK :=
  match P.underlying t with
  | some (.float .f64) => some (.one .f)
  | some (.int k) => some (.one (.z k))
  | some .bool => some (.one .b)
  | some (.struct _) | some (.array _ _) => match cellK P 6 t with
    | some ks => if P.cellsOf t == ks.length then some (.agg ks) else none
    | none => none
  | _ => none

def argKs (P : Program) : List TypeId → Option (List AK)
  | [] => some []
  | t :: r => match argK1 P t, argKs P r with
    | some k, some l => some (k :: l)
    | _, _ => none

def fitsA : List AK → List (AV R) → Prop
  | [], l => l = []
  | k :: ks, l => ∃ a r, l = a :: r ∧ k.fits a ∧ fitsA ks r

theorem open_arg {t : TypeId} {ak : AK} (h : argK1 P t = some ak) {r : Reach} {b0 : Nat} {v : Value} {d : DataW H} {ps : List MemPlace} (hval : Value.okWide P w r b0 t v) (hd : DataW.Trod enc P w base spare held t v d ps) : ∃ a, ak.fits a ∧ VR ρ a v := by
  have agg : ∀ (cs : Array Value), v = .agg cs → cs.size = P.cellsOf t → (match cellK P 6 t with | some ks => if P.cellsOf t == ks.length then some (AK.agg ks) else none | none => none) = some ak → ∃ a, ak.fits a ∧ VR ρ a v := by
    intro cs hv hsz hh
    subst hv
    split at hh
    · rename_i ks hk
      split at hh
      · rename_i hl
        cases hh
        obtain ⟨fuel, hf⟩ := hd
        obtain ⟨as, h1, h2⟩ := cells_sound (ρ := ρ) 6 t ks hk fuel cs.toList _ hf (by simpa [hsz] using hl)
        exact ⟨.agg as, ⟨as, rfl, h1⟩, ⟨cs, rfl, h2⟩⟩
      · cases hh
    · cases hh
  unfold argK1 at h
  split at h
  · rename_i hu
    cases h
    obtain ⟨b, rfl, _, _, hw⟩ := open_float hu hval hd
    exact ⟨.fl (cls b), ⟨_, rfl⟩, ⟨b, rfl, float_wf hw, rfl⟩⟩
  · rename_i k hu
    cases h
    obtain ⟨n, rfl, _, _, hw⟩ := open_int hu hval hd
    exact ⟨.si k n, ⟨n, okInt_wf hw, rfl⟩, ⟨rfl, okInt_wf hw⟩⟩
  · rename_i hu
    cases h
    obtain ⟨b, rfl, _⟩ := open_bool hu hval hd
    exact ⟨.sb b, ⟨b, rfl⟩, rfl⟩
  · rename_i fs hu
    simp only [Value.okWide, hu] at hval
    obtain ⟨cs, h1, h2, _⟩ := hval
    exact agg cs h1 h2 h
  · rename_i m e hu
    simp only [Value.okWide, hu] at hval
    obtain ⟨cs, h1, h2, _⟩ := hval
    exact agg cs h1 h2 h
  · cases h

theorem open_args : ∀ {ts : List TypeId} {aks : List AK}, argKs P ts = some aks → ∀ {vs : List Value} {ds : List (DataW H)} {ps : List MemPlace} {r : Reach} {b0 : Nat}, DataW.TrodAll enc P w base spare held ts vs ds ps →
    (∀ (j : Nat) t v, ts[j]? = some t → vs[j]? = some v → Value.okWide P w r b0 t v) → ∃ as, fitsA aks as ∧ VRs ρ as vs
  | [], aks, h, vs, ds, ps, r, b0, ht, _ => by
    simp only [argKs] at h; cases h
    cases vs with
    | nil => exact ⟨[], rfl, trivial⟩
    | cons v vs => exact (ht : False).elim
  | t :: ts, aks, h, vs, ds, ps, r, b0, ht, hv => by
    simp only [argKs] at h
    split at h
    · rename_i k l h1 h2
      cases h
      cases vs with
      | nil => exact (ht : False).elim
      | cons v vs =>
        cases ds with
        | nil => exact (ht : False).elim
        | cons d ds =>
          obtain ⟨p, q, g1, g2, _⟩ := ht
          obtain ⟨a, k1, k2⟩ := open_arg (ρ := ρ) h1 (hv 0 t v rfl rfl) g1
          obtain ⟨as, k3, k4⟩ := open_args h2 g2 (fun j t' v' e1 e2 => hv (j + 1) t' v' (by simpa using e1) (by simpa using e2))
          exact ⟨a :: as, ⟨a, as, rfl, k1, k3⟩, k2, k4⟩
    · cases h

theorem Old.below {W W' : World} (h : Old W W') : Below W.heap.size W W' := ⟨h.os, h.tape, h.output, h.size, h.same⟩

theorem trodAll_stays (hl : laidOutB P = true) {W W' : World} {sp' : Nat → Bool} : ∀ {ts : List TypeId} {vs : List Value} {ds : List (DataW H)} {ps : List MemPlace}, DataW.TrodAll enc P W base (fun _ => true) true ts vs ds ps →
    ts.all (fun t => P.readableRec t && decide (t < P.types.size)) = true → (∀ p ∈ ps, W.sameAt W' p) → (∀ p ∈ ps, sp' p.block = true) → DataW.TrodAll enc P W' base sp' true ts vs ds ps
  | [], [], [], ps, h, _, _, _ => h
  | t :: ts, v :: vs, d :: ds, ps, ⟨p, q, h1, h2, e⟩, hr, h3, h4 => by
    subst e
    simp only [List.all_cons, Bool.and_eq_true, decide_eq_true_eq] at hr
    exact ⟨p, q, WideElems.Trod_stays hl hr.1.1 hr.1.2 h1 (fun x hx => h3 x (List.mem_append_left _ hx)) (fun x hx => h4 x (List.mem_append_left _ hx)),
      trodAll_stays hl h2 hr.2 (fun x hx => h3 x (List.mem_append_right _ hx)) (fun x hx => h4 x (List.mem_append_right _ hx)), rfl⟩
  | [], [], _ :: _, _, h, _, _, _ => (h : False).elim
  | [], _ :: _, _, _, h, _, _, _ => (h : False).elim
  | _ :: _, [], _, _, h, _, _, _ => (h : False).elim
  | _ :: _, _ :: _, [], _, h, _, _, _ => (h : False).elim

/-- The post of a law: it returns true, and the arguments read as before. -/
theorem law_post {f : Func} {s : ChangeSpec} {apart fresh handsOn again : Bool} {W W' : World} {args : Array Value} {ds gs : List (DataW H)} {before : List MemPlace} {tb : TypeId}
    (hl : laidOutB P = true) (hr : f.params.toList.all (fun t => P.readableRec t && decide (t < P.types.size)) = true) (hres : f.resultTypes = #[tb]) (htb : P.underlying tb = some .bool) (hvars : s.vars = [])
    (hs : (s.fn H ds).results = [.lit (.bool true)] ∧ (s.fn H ds).args = ds ∧ (s.fn H ds).vars = [])
    (hW : DataW.Whole enc P f.params.toList s.vars apart W args.toList ds gs before) (ho : Old W W') : s.post enc P f apart fresh handsOn again W args (.bool true) W' := by
  have hlt := hW.lt
  obtain ⟨p, q, hA, hV, rfl, hz, hn⟩ := hW
  have hV' := hV
  rw [hvars] at hV'
  have hgs : gs = [] ∧ q = [] := by
    cases gs with
    | nil => exact ⟨rfl, hV'⟩
    | cons _ _ => exact (hV' : False).elim
  obtain ⟨rfl, rfl⟩ := hgs
  have same : ∀ x ∈ p, W.sameAt W' x := fun x hx => ho.below.same (by simpa using hlt x (List.mem_append_left _ hx))
  have hargs : ∀ sp : Nat → Bool, (∀ x ∈ p, sp x.block = true) → DataW.TrodAll enc P W' 0 sp true f.params.toList args.toList ds p := fun sp hsp => trodAll_stays hl hA hr same hsp
  have hbool : ∀ (b : Nat) (sp : Nat → Bool) (hd : Bool), DataW.TrodAll enc P W' b sp hd f.resultTypes.toList ((Value.bool true).resultList f.resultTypes.size) [.lit (.bool true)] [] := by
    intro b sp hd
    rw [hres]
    exact trodAll_mk1 (shut_bool htb true)
  have hvr : ∀ (w : World) (sp : Nat → Bool), DataW.TrodVars enc P w sp s.vars [] [] := by intro w sp; rw [hvars]; exact rfl
  have hsd : s.fn H (ds ++ []) = s.fn H ds := by rw [List.append_nil]
  have hfz : ∀ b off, MemPlace.cell b off ∈ p → W'.frozen? ⟨b, off, none⟩ = false := by
    intro b off hp
    have hb : b < W.heap.size := hlt (MemPlace.cell b off) (List.mem_append_left _ hp)
    have := ho.below.frozen (p := ⟨b, off, none⟩) hb
    rw [this]; exact hz b off (List.mem_append_left _ hp)
  refine ⟨ds, [], p ++ [], [], p, [], ⟨p, [], hA, hvr W _, rfl, hz, hn⟩, ?_, ?_, ?_, ?_, fun _ => ?_⟩
  · rw [hsd, hs.1]; exact hbool _ _ _
  · rw [hsd, hs.2.1]
    exact hargs _ fun x hx => by simpa using hlt x (List.mem_append_left _ hx)
  · rw [hsd, hs.2.2]; exact hvr _ _
  · exact World.keptBut_mono (fun _ h => False.elim h) (ho.below.frame (fun _ => False))
  · refine ⟨ok_one hres rfl (okWide_bool_mk htb true), .lit (.bool true) :: ds, [], p ++ [], ⟨[] ++ p, [], ?_, hvr _ _, rfl, ?_, ?_⟩, fun x hx _ => hx⟩
    · have h1 := hbool 0 (fun _ => true) true
      rw [hres] at h1 ⊢
      exact ⟨[], p, shut_bool htb true, hargs _ fun _ _ => rfl, rfl⟩
    · intro b off hp
      exact hfz b off (by simpa using hp)
    · intro ha
      simpa using hn ha

end

/-- A call, out of what the evaluator says of it. -/
theorem calls_of {P : Program} (hP : Prog P) {tbl : Tbl R} (ht : TblOK P tbl) {n : Nat} {f : FuncId} {args : List (AV R)} {ok : Option Bool} {v : AV R} (h : joinT (D := R) (evFn P tbl n f args) = .val ok v) (hok : ∀ o, ok = some o → o = true)
    {w : World} {vals : Array Value} (hv : VRs Nm.nil args vals.toList) : Calls P f vals w fun e w' => ∃ u, e = .returned u ∧ (∃ ρ', VR ρ' v u) ∧ Old w w' := by
  obtain ⟨r, hr, hle⟩ := joinT_sound _ _ _ h hok
  unfold evFn at hr
  obtain ⟨out, h1, h2⟩ := T.run_bind_some hr
  have := (Option.some.inj h2)
  subst this
  obtain ⟨_, hcalls⟩ := evFn_calls (CodeOK.body (evCode_sound hP.mixed hP.names ht n) f) h1 hv (HR.nil w) (Inj.none w) (fun _ _ _ => rfl)
  refine Calls.mono hcalls ?_
  rintro e w' ⟨u, rfl, ρ', g1, g2⟩
  exact ⟨u, rfl, ⟨ρ', hle _ _ g1⟩, ⟨g2.size, g2.os, g2.tape, g2.output, fun b hb => g2.frame b hb fun _ _ _ hc => by cases hc⟩⟩

/-- A law over plain data, lifted to its row's form. -/
theorem law_lifted {H : Type} {enc : TypeId × Value → H} {C : Checked} {os : Os} {f : FuncId} {fn : Func} {s : ChangeSpec} {conds : List PathCond} {apart fresh handsOn again : Bool} {aks : List AK} {tb : TypeId}
    (own : ownKnob C.prog.godebug = none) (started : os.Started) (noInit : C.prog.inits.idxOf? f = none) (hfn : C.prog.funcs[f]? = some fn)
    (witness : ∃ (w : World) (tape : Tape) (i : Input), w.os = os ∧ (w.forCall tape i).Shaped C.prog ∧ i.vars = [] ∧ Input.okWide C.prog (w.forCall tape i) .any w.heap.size f i ∧
      s.pre6 enc C.prog fn conds apart (w.forCall tape i).memory i.args ∧ ({} : Assume).holds C.prog (lone (Frame.enter C.prog f i.args .normal) [] (w.forCall tape i)))
    (hl : laidOutB C.prog = true) (hr : fn.params.toList.all (fun t => C.prog.readableRec t && decide (t < C.prog.types.size)) = true) (hres : fn.resultTypes = #[tb]) (htb : C.prog.underlying tb = some .bool) (hvars : s.vars = [])
    (hs : ∀ ds : List (DataW H), ds.length = fn.params.toList.length → (s.fn H ds).results = [.lit (.bool true)] ∧ (s.fn H ds).args = ds ∧ (s.fn H ds).vars = [])
    (hk : argKs C.prog fn.params.toList = some aks)
    (hlaw : ∀ as, fitsA aks as → ∀ (w : World) (vals : Array Value), VRs Nm.nil as vals.toList → Calls C.prog f vals w fun e w' => e = .returned (.bool true) ∧ Old w w') :
    ReturnsInHanded {} C os f .any (s.pre6 enc C.prog fn conds apart) (s.post enc C.prog fn apart fresh handsOn again) := by
  refine returnsInHanded_of_change own started noInit hfn witness ?_
  intro W base args ds gs before hval hW _ _
  have hW' := hW
  obtain ⟨p, q, hA, hV, e, hz, hn⟩ := hW
  obtain ⟨as, h1, h2⟩ := open_args (ρ := Nm.nil) hk hA (fun j t v e1 e2 => hval j t v (by simpa using e1) (by simpa using e2))
  have hlen : ds.length = fn.params.toList.length := by
    have key : ∀ (ts : List TypeId) (vs : List Value) (ds : List (DataW H)) (ps : List MemPlace), DataW.TrodAll enc C.prog W 0 (fun _ => true) true ts vs ds ps → ds.length = ts.length := by
      intro ts
      induction ts with
      | nil =>
        intro vs ds ps h
        cases vs with
        | nil => cases ds with
          | nil => rfl
          | cons _ _ => exact (h : False).elim
        | cons _ _ => exact (h : False).elim
      | cons t ts ih =>
        intro vs ds ps h
        cases vs with
        | nil => exact (h : False).elim
        | cons v vs => cases ds with
          | nil => exact (h : False).elim
          | cons d ds =>
            obtain ⟨_, _, _, h2, _⟩ := h
            simp [ih vs ds _ h2]
    exact key _ _ _ _ hA
  refine (hlaw as h1 W args h2).mono ?_
  rintro e W' ⟨rfl, ho⟩
  exact ⟨_, rfl, law_post hl hr hres htb hvars (hs ds hlen) hW' ho⟩

end Go.Ev
/- Facts on floats of 64 bits with one no-number, as the evaluator has them. -/
namespace Go.Ev

theorem R_bite (c x y : Bool) : R.bite c x y = (if c then x else y) := rfl
theorem R_fite (c : Bool) (x y : Fl) : R.fite c x y = (if c then x else y) := rfl
theorem R_zite (c : Bool) (x y : Int) : R.zite c x y = (if c then x else y) := rfl
theorem R_bc (b : Bool) : R.bc b = b := rfl
theorem R_bnot (b : Bool) : R.bnot b = !b := rfl
theorem R_band (a b : Bool) : R.band a b = (a && b) := rfl
theorem R_beq (a b : Bool) : R.beq a b = (a == b) := rfl
theorem R_zc (n : Int) : R.zc n = n := rfl
theorem R_zlt (a b : Int) : R.zlt a b = decide (a < b) := rfl
theorem R_zle (a b : Int) : R.zle a b = decide (a ≤ b) := rfl
theorem R_zeq (a b : Int) : R.zeq a b = (a == b) := rfl

/-- Comparison of what two data stand for. -/
theorem order_swap (x y : Ieee.Datum) : y.order x = (x.order y).map Ordering.swap := by
  cases x <;> cases y <;> simp only [Ieee.Datum.order, Option.map_none, Option.map_some]
  case number.number s m i t n j =>
    congr 1
    have e : min j i = min i j := by omega
    rw [e]
    generalize Ieee.signed s m _ = a
    generalize Ieee.signed t n _ = b
    simp only [compare, compareOfLessAndEq]
    split <;> split <;> (try split) <;> (try split) <;> first | rfl | omega
  case infinity.infinity s t => cases s <;> cases t <;> rfl
  case number.infinity s m i t => cases t <;> rfl
  case infinity.number s t n j => cases s <;> rfl

theorem order_self (x : Ieee.Datum) (h : x.isNaN = false) : x.order x = some .eq := by
  cases x <;> simp only [Ieee.Datum.order]
  case number s m i =>
    congr 1
    simp only [compare, compareOfLessAndEq]
    simp
  case infinity s => cases s <;> rfl
  case nan s f => cases h

theorem ford_swap (x y : Fl) : ford y x = (ford x y).map Ordering.swap := by
  cases x <;> cases y <;> first | rfl | exact order_swap _ _

/-- A float as the evaluator has them: a number's bits are no no-number's. -/
def Ok : Fl → Prop
  | some a => isNaN a = false ∧ a < 2 ^ 64
  | none => True

theorem fgt_flt (x y : Fl) : R.fgt x y = R.flt y x := by
  show (ford x y == some .gt) = (ford y x == some .lt)
  rw [ford_swap x y]
  cases ford x y with
  | none => rfl
  | some o => cases o <;> rfl

theorem fge_fle (x y : Fl) : R.fge x y = R.fle y x := by
  show (ford x y == some .gt || ford x y == some .eq) = (ford y x == some .lt || ford y x == some .eq)
  rw [ford_swap x y]
  cases ford x y with
  | none => rfl
  | some o => cases o <;> rfl

theorem feq_comm (x y : Fl) : R.feq x y = R.feq y x := by
  show (ford x y == some .eq) = (ford y x == some .eq)
  rw [ford_swap x y]
  cases ford x y with
  | none => rfl
  | some o => cases o <;> rfl

theorem ford_self (x : Fl) : ford x x = none ∨ ford x x = some .eq := by
  cases x with
  | none => exact .inl rfl
  | some a =>
    show (f64.read a).order (f64.read a) = none ∨ (f64.read a).order (f64.read a) = some .eq
    cases h : (f64.read a).isNaN with
    | false => exact .inr (order_self _ h)
    | true =>
      cases hr : f64.read a with
      | nan s f => exact .inl rfl
      | number s m p => rw [hr] at h; cases h
      | infinity s => rw [hr] at h; cases h

theorem order_none {x y : Ieee.Datum} (h : x.order y = none) : x.isNaN = true ∨ y.isNaN = true := by
  cases x <;> cases y <;> simp [Ieee.Datum.order, Ieee.Datum.isNaN] at h ⊢

theorem order_nan_self {x : Ieee.Datum} (h : x.isNaN = true) : x.order x = none := by
  cases x <;> first | rfl | cases h

theorem ford_none {x y : Fl} (h : ford x y = none) : ford x x = none ∨ ford y y = none := by
  cases x with
  | none => exact .inl rfl
  | some a =>
    cases y with
    | none => exact .inr rfl
    | some b =>
      rcases order_none (h : (f64.read a).order (f64.read b) = none) with h | h
      · exact .inl (order_nan_self h)
      · exact .inr (order_nan_self h)

theorem ford_some {x y : Fl} {o : Ordering} (h : ford x y = some o) : ford x x = some .eq ∧ ford y y = some .eq := by
  constructor
  · rcases ford_self x with e | e
    · exfalso
      cases x with
      | none => cases h
      | some a =>
        cases y with
        | none => cases h
        | some b =>
          have hn := order_none (e : (f64.read a).order (f64.read a) = none)
          have hn' : (f64.read a).isNaN = true := hn.elim id id
          have : f64.order a b = none := order_nan (.inl hn')
          rw [show ford (some a) (some b) = f64.order a b from rfl, this] at h
          cases h
    · exact e
  · rcases ford_self y with e | e
    · exfalso
      cases x with
      | none => cases h
      | some a =>
        cases y with
        | none => cases h
        | some b =>
          have hn := order_none (e : (f64.read b).order (f64.read b) = none)
          have hn' : (f64.read b).isNaN = true := hn.elim id id
          have : f64.order a b = none := order_nan (.inr hn')
          rw [show ford (some a) (some b) = f64.order a b from rfl, this] at h
          cases h
    · exact e

/-- The same numbers? (as the references ask it) -/
def same (x y : Fl) : Bool := if ford x y == some .eq then true else if !(ford x x == some .eq) then !(ford y y == some .eq) else false

theorem same_self (x : Fl) : same x x = true := by
  unfold same
  rcases ford_self x with h | h <;> rw [h] <;> rfl

theorem fle_or (x y : Fl) : R.fle x y = (R.flt x y || R.feq x y) := rfl

end Go.Ev
/- Facts on floats: products either way round, which numbers are finite, the order of numbers. -/
namespace Go.Ev
open Ieee

theorem product_comm (x y : Datum) : x.product y = y.product x := by
  cases x <;> cases y <;> simp only [Datum.product, Nat.mul_comm, Int.add_comm, Bool.xor_comm]

theorem fmul_comm (x y : Fl) : R.fmul x y = R.fmul y x := by
  cases x <;> cases y <;> first | rfl | skip
  rename_i a b
  show (match f64.mul a b with | some r => cls r | none => none) = (match f64.mul b a with | some r => cls r | none => none)
  have : f64.mul a b = f64.mul b a := by unfold Format.mul; rw [product_comm]
  rw [this]

theorem sum_comm (x y : Datum) : x.sum y = y.sum x := by
  cases x <;> cases y <;> simp only [Datum.sum]
  · rename_i s m i t n j
    rw [Int.min_comm j i, Int.add_comm (signed t n _), Bool.and_comm t s]
  · rename_i s t
    by_cases h : s = t
    · subst h; rfl
    · rw [if_neg h, if_neg (fun e => h e.symm)]

theorem fadd_comm (x y : Fl) : R.fadd x y = R.fadd y x := by
  cases x <;> cases y <;> first | rfl | skip
  rename_i a b
  show (match f64.add a b with | some r => cls r | none => none) = (match f64.add b a with | some r => cls r | none => none)
  have : f64.add a b = f64.add b a := by unfold Format.add; rw [sum_comm]
  rw [this]

/-- What a word that is a number reads as. -/
theorem read_number {b : Nat} {s : Bool} {m : Nat} {e : Int} (h : f64.read b = .number s m e) : m < 2 ^ 53 ∧ -1074 ≤ e ∧ e ≤ 971 := by
  have hb : f64.binade = 2 ^ 52 := rfl
  have hi : f64.infRung = 2047 * 2 ^ 52 := by decide +kernel
  have hl : f64.leastPlace = -1074 := by decide +kernel
  unfold Format.read at h
  simp only [hb, hi, hl] at h
  generalize b % f64.signWeight = r at h
  generalize (b / f64.signWeight % 2 == 1) = neg at h
  split at h
  · injection h with h1 h2 h3
    subst h2 h3
    omega
  · split at h
    · injection h with h1 h2 h3
      subst h2 h3
      have : r % 2 ^ 52 < 2 ^ 52 := Nat.mod_lt _ (by decide)
      omega
    · split at h <;> cases h

def topBits : Nat := 9218868437227405311
def lowBits : Nat := 18442240474082181119

theorem read_top : f64.read topBits = .number false (2 ^ 53 - 1) 971 := by decide +kernel
theorem read_low : f64.read lowBits = .number true (2 ^ 53 - 1) 971 := by decide +kernel
theorem cls_top : cls topBits = some topBits := by decide +kernel
theorem cls_low : cls lowBits = some lowBits := by decide +kernel
theorem cls_zero : cls 0 = some 0 := by decide +kernel
theorem read_zero : f64.read 0 = .number false 0 (-1074) := by decide +kernel

theorem signed_le {s : Bool} {m n : Nat} {k : Nat} (h : m ≤ n) : signed s m 0 ≤ signed false n k ∧ signed true n k ≤ signed s m 0 := by
  have hn : (m : Int) ≤ ((n <<< k : Nat) : Int) := by
    have : n ≤ n <<< k := by rw [Nat.shiftLeft_eq]; exact Nat.le_mul_of_pos_right _ (Nat.two_pow_pos _)
    omega
  cases s <;> simp only [signed, Nat.shiftLeft_zero, if_true, if_false, Bool.false_eq_true] <;> omega

theorem compare_def (a b : Int) : compare a b = if a < b then .lt else if a = b then .eq else .gt := rfl

theorem compare_le {a b : Int} (h : a ≤ b) : compare a b = .lt ∨ compare a b = .eq := by
  rw [compare_def]
  by_cases g : a < b
  · exact .inl (if_pos g)
  · rw [if_neg g, if_pos (by omega)]; exact .inr rfl

theorem compare_ge {a b : Int} (h : b ≤ a) : compare a b = .gt ∨ compare a b = .eq := by
  rw [compare_def, if_neg (by omega)]
  by_cases g : a = b
  · rw [if_pos g]; exact .inr rfl
  · rw [if_neg g]; exact .inl rfl

/-- A float between the ends of all floats is one whose difference with itself is nought. -/
theorem number_iff (x : Fl) : (if R.fge x (cls lowBits) then R.fle x (cls topBits) else false) = R.feq (R.fsub x x) (cls 0) := by
  rw [cls_top, cls_low, cls_zero]
  cases x with
  | none => rfl
  | some b =>
    show (if (f64.order b lowBits == some .gt || f64.order b lowBits == some .eq) then (f64.order b topBits == some .lt || f64.order b topBits == some .eq) else false)
      = (ford (match f64.sub b b with | some r => cls r | none => none) (some 0) == some .eq)
    unfold Format.order Format.sub
    rw [read_top, read_low]
    cases h : f64.read b with
    | nan s t => simp [Datum.order, Datum.sum, ford]
    | infinity s => cases s <;> simp [Datum.order, Datum.sum, Datum.opposite, ford]
    | number s m e =>
      obtain ⟨hm, he, hu⟩ := read_number h
      have h0 : f64.write (.number false 0 e) = 0 := rfl
      have hs : (Datum.number s m e).sum (Datum.number s m e).opposite = some (.number false 0 e) := by
        cases s <;> simp [Datum.opposite, Datum.sum, signed, Int.add_left_neg, Int.add_right_neg]
      rw [hs, Option.map_some, h0]
      have ho : (ford (match some 0 with | some r => cls r | none => none) (some 0) == some .eq) = true := by decide +kernel
      rw [ho]
      simp only [Datum.order]
      have hmin : min e 971 = e := by omega
      have h1 := compare_ge (signed_le (s := s) (m := m) (n := 2 ^ 53 - 1) (k := (971 - e).toNat) (by omega)).2
      have h2 := compare_le (signed_le (s := s) (m := m) (n := 2 ^ 53 - 1) (k := (971 - e).toNat) (by omega)).1
      simp only [hmin, Int.sub_self, Int.toNat_zero]
      rcases h1 with g | g <;> rcases h2 with l | l <;> simp only [g, l] <;> rfl

theorem zero_self : ford (cls 0) (cls 0) = some .eq := by kernel_rfl
theorem one_self : ford (cls 4607182418800017408) (cls 4607182418800017408) = some .eq := by kernel_rfl

/-- A draw within its bounds, asked either way. -/
theorem clean_eq (a : Fl) : (if (if R.fge a (cls 0) then R.flt a (cls 4607182418800017408) else false : Bool) then a else cls 0) =
    (if (if (if R.flt a (cls 0) then true else R.fge a (cls 4607182418800017408) : Bool) then true else R.bnot (R.feq a a) : Bool) then cls 0 else a) := by
  show (if (if (ford a (cls 0) == some .gt || ford a (cls 0) == some .eq) then (ford a (cls 4607182418800017408) == some .lt) else false : Bool) then a else cls 0) =
    (if (if (if (ford a (cls 0) == some .lt) then true else (ford a (cls 4607182418800017408) == some .gt || ford a (cls 4607182418800017408) == some .eq) : Bool) then true else !(ford a a == some .eq) : Bool) then cls 0 else a)
  cases h0 : ford a (cls 0) with
  | none =>
    have ha : ford a a = none := by
      rcases ford_none h0 with h | h
      · exact h
      · rw [zero_self] at h; cases h
    rw [ha]
    cases h1 : ford a (cls 4607182418800017408) with
    | none => rfl
    | some o => have := (ford_some h1).1; rw [ha] at this; cases this
  | some o =>
    have ha := (ford_some h0).1
    rw [ha]
    cases h1 : ford a (cls 4607182418800017408) with
    | none =>
      rcases ford_none h1 with h | h
      · rw [ha] at h; cases h
      · rw [one_self] at h; cases h
    | some o' => cases o <;> cases o' <;> rfl

end Go.Ev
/- Numbers in order: each float has a place among the whole numbers. -/
namespace Go.Ev
open Ieee

theorem exists_bound (K : Nat) : ∃ T : Nat, 0 < T ∧ ∀ m k : Nat, m < 2 ^ 53 → k ≤ K → m <<< k < T := by
  refine ⟨2 ^ (53 + K), Nat.two_pow_pos _, fun m k h1 hk => ?_⟩
  rw [Nat.shiftLeft_eq]
  refine Nat.lt_of_lt_of_le (Nat.mul_lt_mul_of_pos_right h1 (Nat.two_pow_pos k)) ?_
  rw [← Nat.pow_add]
  exact Nat.pow_le_pow_right (by decide) (by omega)

theorem exists_top : ∃ T : Nat, 0 < T ∧ ∀ m k : Nat, m < 2 ^ 53 → k ≤ 2045 → m <<< k < T := exists_bound 2045

/-- Above all numbers' places. -/
noncomputable def topNat : Nat := Classical.choose exists_top
theorem topNat_spec : 0 < topNat ∧ ∀ m k : Nat, m < 2 ^ 53 → k ≤ 2045 → m <<< k < topNat := Classical.choose_spec exists_top
noncomputable def topKey : Int := topNat

noncomputable def dkey : Datum → Option Int
  | .nan .. => none
  | .infinity s => some (if s then -topKey else topKey)
  | .number s m e => some (signed s m (e + 1074).toNat)

noncomputable def fkey : Fl → Option Int
  | some b => dkey (f64.read b)
  | none => none

theorem signed_shift (s : Bool) (m a b : Nat) : signed s m (a + b) = signed s m a * (2 ^ b : Nat) := by
  have h : m <<< (a + b) = (m <<< a) * 2 ^ b := by rw [Nat.shiftLeft_eq, Nat.shiftLeft_eq, Nat.pow_add, Nat.mul_assoc]
  unfold signed
  rw [h]
  cases s <;> simp [Int.neg_mul]

theorem compare_scale (a b : Int) (k : Nat) : compare (a * (2 ^ k : Nat)) (b * (2 ^ k : Nat)) = compare a b := by
  have hk : (0 : Int) < ((2 ^ k : Nat) : Int) := by have := Nat.two_pow_pos k; omega
  rw [compare_def, compare_def]
  by_cases h : a < b
  · rw [if_pos h, if_pos (Int.mul_lt_mul_of_pos_right h hk)]
  · rw [if_neg h, if_neg (fun g => h (Int.lt_of_mul_lt_mul_right g (Int.le_of_lt hk)))]
    by_cases e : a = b
    · rw [if_pos e, if_pos (by rw [e])]
    · rw [if_neg e, if_neg (fun g => e (Int.eq_of_mul_eq_mul_right (Int.ne_of_gt hk) g))]

theorem key_bound {b : Nat} {s : Bool} {m : Nat} {e : Int} (h : f64.read b = .number s m e) : signed s m (e + 1074).toNat < topKey ∧ -topKey < signed s m (e + 1074).toNat := by
  obtain ⟨h1, h2, h3⟩ := read_number h
  have hk : (e + 1074).toNat ≤ 2045 := by omega
  have hb := topNat_spec.2 m _ h1 hk
  unfold topKey signed
  generalize m <<< (e + 1074).toNat = M at hb ⊢
  cases s <;> simp only [if_true, if_false, Bool.false_eq_true] <;> omega

theorem topKey_pos : 0 < topKey := by
  have := topNat_spec.1
  unfold topKey
  omega

theorem ford_key (x y : Fl) : ford x y = match fkey x, fkey y with
    | some a, some b => some (compare a b)
    | _, _ => none := by
  cases x with
  | none => simp only [fkey]; rfl
  | some a =>
    cases y with
    | none => simp only [fkey]; cases dkey (f64.read a) <;> rfl
    | some b =>
      show (f64.read a).order (f64.read b) = _
      simp only [fkey]
      have tp := topKey_pos
      cases ha : f64.read a with
      | nan s t => simp only [dkey, Datum.order]
      | infinity s =>
        cases hb : f64.read b with
        | nan s t => simp only [dkey, Datum.order]
        | infinity t => cases s <;> cases t <;> simp only [dkey, Datum.order, compare_def, if_true, if_false, Bool.false_eq_true, Bool.toNat] <;> congr 1 <;> (repeat' split) <;> first | (exfalso; omega) | rfl
        | number t n j =>
          have := key_bound hb
          cases s <;> simp only [dkey, Datum.order, compare_def, if_true, if_false, Bool.false_eq_true] <;> congr 1 <;> (repeat' split) <;> first | (exfalso; omega) | rfl
      | number s m i =>
        cases hb : f64.read b with
        | nan s t => simp only [dkey, Datum.order]
        | infinity t =>
          have := key_bound ha
          cases t <;> simp only [dkey, Datum.order, compare_def, if_true, if_false, Bool.false_eq_true] <;> congr 1 <;> (repeat' split) <;> first | (exfalso; omega) | rfl
        | number t n j =>
          have h1 := (read_number ha).2.1
          have h2 := (read_number hb).2.1
          simp only [dkey, Datum.order]
          have e1 : (i + 1074).toNat = (i - min i j).toNat + (min i j + 1074).toNat := by omega
          have e2 : (j + 1074).toNat = (j - min i j).toNat + (min i j + 1074).toNat := by omega
          rw [e1, e2, signed_shift, signed_shift, compare_scale]

theorem flt_iff (x y : Fl) : (ford x y == some .lt) = true ↔ ∃ a b, fkey x = some a ∧ fkey y = some b ∧ a < b := by
  rw [ford_key]
  cases fkey x <;> cases fkey y <;> simp [compare_def]
  split <;> simp_all

theorem feq_iff (x y : Fl) : (ford x y == some .eq) = true ↔ ∃ a b, fkey x = some a ∧ fkey y = some b ∧ a = b := by
  rw [ford_key]
  cases fkey x <;> cases fkey y <;> simp [compare_def]
  split
  · simp; omega
  · split <;> simp_all

theorem fgt_iff (x y : Fl) : (ford x y == some .gt) = true ↔ ∃ a b, fkey x = some a ∧ fkey y = some b ∧ b < a := by
  rw [ford_key]
  cases fkey x <;> cases fkey y <;> simp [compare_def]
  split
  · simp; omega
  · split
    · simp; omega
    · simp; omega

theorem fle_iff (x y : Fl) : (ford x y == some .lt || ford x y == some .eq) = true ↔ ∃ a b, fkey x = some a ∧ fkey y = some b ∧ a ≤ b := by
  rw [Bool.or_eq_true, flt_iff, feq_iff]
  constructor
  · rintro (⟨a, b, h1, h2, h3⟩ | ⟨a, b, h1, h2, h3⟩) <;> exact ⟨a, b, h1, h2, by omega⟩
  · rintro ⟨a, b, h1, h2, h3⟩
    rcases Int.lt_or_eq_of_le h3 with h | h
    · exact .inl ⟨a, b, h1, h2, h⟩
    · exact .inr ⟨a, b, h1, h2, h⟩

theorem fge_iff (x y : Fl) : (ford x y == some .gt || ford x y == some .eq) = true ↔ ∃ a b, fkey x = some a ∧ fkey y = some b ∧ b ≤ a := by
  rw [Bool.or_eq_true, fgt_iff, feq_iff]
  constructor
  · rintro (⟨a, b, h1, h2, h3⟩ | ⟨a, b, h1, h2, h3⟩) <;> exact ⟨a, b, h1, h2, by omega⟩
  · rintro ⟨a, b, h1, h2, h3⟩
    rcases Int.lt_or_eq_of_le h3 with h | h
    · exact .inl ⟨a, b, h1, h2, h⟩
    · exact .inr ⟨a, b, h1, h2, h.symm⟩

end Go.Ev
/- Sizes of floats: what is taken from nought, and its sign. -/
namespace Go.Ev
open Ieee

theorem fkey_zero : fkey (cls 0) = some 0 := by
  rw [cls_zero]
  show dkey (f64.read 0) = some 0
  rw [read_zero]
  simp only [dkey, signed, Nat.zero_shiftLeft]
  rfl

theorem signed_nonneg {m k : Nat} : 0 ≤ signed false m k := by
  unfold signed
  generalize m <<< k = n
  simp only [Bool.false_eq_true, if_false]
  omega

/-- A word without a sign is not below nought. -/
theorem key_unsigned {r : Nat} (h : r < f64.signWeight) {k : Int} (hk : dkey (f64.read r) = some k) : 0 ≤ k := by
  have hn : (r / f64.signWeight % 2 == 1) = false := by rw [Nat.div_eq_of_lt h]; rfl
  have tp := topKey_pos
  unfold Format.read at hk
  simp only [hn] at hk
  split at hk
  · cases hk; exact signed_nonneg
  · split at hk
    · cases hk; exact signed_nonneg
    · split at hk
      · simp only [dkey, Bool.false_eq_true, if_false] at hk; cases hk; omega
      · simp only [dkey] at hk; cases hk

theorem infRung_lt' : f64.infRung < f64.signWeight := by decide +kernel

theorem nearest_unsigned (m : Nat) (e : Int) : f64.nearest false m e < f64.signWeight := by
  have := infRung_lt'
  unfold Format.nearest
  split
  · simp only [Format.word, Bool.false_eq_true, if_false]; omega
  · simp only [Format.word, Bool.false_eq_true, if_false]; omega

theorem cls_key {b : Nat} : fkey (cls b) = dkey (f64.read b) := by
  unfold cls isNaN
  cases h : f64.read b <;> simp only [Datum.isNaN, if_true, if_false, Bool.false_eq_true, fkey, dkey, h]

/-- Taken from nought, what is below nought is not below nought. -/
theorem key_from_zero {x : Fl} {k l : Int} (hx : fkey x = some k) (hk : k < 0) (hl : fkey (R.fsub (cls 0) x) = some l) : 0 ≤ l := by
  have tp := topKey_pos
  rw [cls_zero] at hl
  cases x with
  | none => cases hx
  | some b =>
    have hl' : fkey (match f64.sub 0 b with | some r => cls r | none => none) = some l := hl
    have hx' : dkey (f64.read b) = some k := hx
    unfold Format.sub at hl'
    rw [read_zero] at hl'
    cases h : f64.read b with
    | nan s t => rw [h] at hx'; simp [dkey] at hx'
    | infinity s =>
      rw [h] at hx' hl'
      cases s with
      | false => simp only [dkey, Bool.false_eq_true, if_false] at hx'; cases hx'; omega
      | true =>
        simp only [Datum.opposite, Datum.sum, Bool.not_true, Option.map_some, cls_key] at hl'
        exact key_unsigned (by decide +kernel) hl'
    | number s m e =>
      rw [h] at hx' hl'
      simp only [dkey, Option.some.injEq] at hx'
      cases s with
      | false => have : 0 ≤ signed false m (e + 1074).toNat := signed_nonneg; omega
      | true =>
        simp only [Datum.opposite, Datum.sum, Bool.not_true, Option.map_some, cls_key] at hl'
        have h0 : signed false 0 (-1074 - min (-1074) e).toNat = 0 := by simp [signed]
        have h1 : 0 ≤ signed false m (e - min (-1074) e).toNat := signed_nonneg
        rw [h0, Int.zero_add] at hl'
        have hneg : (if signed false m (e - min (-1074) e).toNat = 0 then (false && false) else decide (signed false m (e - min (-1074) e).toNat < 0)) = false := by
          split
          · rfl
          · simpa using h1
        rw [hneg] at hl'
        exact key_unsigned (nearest_unsigned _ _) hl'

/-- Not below nought, if it is a number at all. -/
def nn (x : Fl) : Prop := ∀ k, fkey x = some k → 0 ≤ k

theorem nn_none : nn none := fun k h => by cases h
theorem nn_zero : nn (cls 0) := fun k h => by rw [fkey_zero] at h; cases h; omega

theorem key_zero_word (neg : Bool) {k : Int} (h : dkey (f64.read (f64.word neg 0)) = some k) : k = 0 := by
  cases neg
  · have e : f64.read (f64.word false 0) = .number false 0 (-1074) := by decide +kernel
    rw [e] at h; simp [dkey, signed] at h; omega
  · have e : f64.read (f64.word true 0) = .number true 0 (-1074) := by decide +kernel
    rw [e] at h; simp [dkey, signed] at h; omega

theorem nearest_nn {neg : Bool} {m : Nat} {e : Int} (h : neg = true → m = 0) {k : Int} (hk : dkey (f64.read (f64.nearest neg m e)) = some k) : 0 ≤ k := by
  cases neg with
  | false => exact key_unsigned (nearest_unsigned _ _) hk
  | true =>
    have := h rfl
    subst this
    have e0 : f64.nearest true 0 e = f64.word true 0 := by unfold Format.nearest; rw [if_pos rfl]
    rw [e0] at hk
    rw [key_zero_word true hk]; omega

theorem write_inf : f64.write (.infinity false) < f64.signWeight := by
  have := infRung_lt'
  simpa [Format.write, Format.word] using this

theorem inf_nn {k : Int} (hk : dkey (f64.read (f64.write (.infinity false))) = some k) : 0 ≤ k := key_unsigned write_inf hk

theorem sign_of_nn {b : Nat} (h : nn (some b)) {s : Bool} {m : Nat} {e : Int} (hb : f64.read b = .number s m e) : s = true → m = 0 := by
  intro hs
  subst hs
  have := h (signed true m (e + 1074).toNat) (by show dkey (f64.read b) = _; rw [hb]; rfl)
  have h2 : 0 ≤ m <<< (e + 1074).toNat := Nat.zero_le _
  unfold signed at this
  simp only [if_true] at this
  have h3 : m <<< (e + 1074).toNat = 0 := by omega
  rw [Nat.shiftLeft_eq] at h3
  rcases Nat.mul_eq_zero.1 h3 with g | g
  · exact g
  · have := Nat.two_pow_pos (e + 1074).toNat; omega

theorem inf_of_nn {b : Nat} (h : nn (some b)) {s : Bool} (hb : f64.read b = .infinity s) : s = false := by
  cases s with
  | false => rfl
  | true =>
    have tp := topKey_pos
    have := h (-topKey) (by show dkey (f64.read b) = _; rw [hb]; rfl)
    omega

theorem nn_mul {x y : Fl} (hx : nn x) (hy : nn y) : nn (R.fmul x y) := by
  cases x with
  | none => exact fun k h => by cases h
  | some a =>
    cases y with
    | none => exact fun k h => by cases h
    | some b =>
      intro k hk
      have hk' : fkey (match f64.mul a b with | some r => cls r | none => none) = some k := hk
      unfold Format.mul at hk'
      cases ha : f64.read a with
      | nan s t => rw [ha] at hk'; cases h : f64.read b <;> rw [h] at hk' <;> simp [Datum.product, fkey] at hk'
      | infinity s =>
        have := inf_of_nn hx ha; subst this
        cases hb : f64.read b with
        | nan s t => rw [ha, hb] at hk'; simp [Datum.product, fkey] at hk'
        | infinity t =>
          have := inf_of_nn hy hb; subst this
          rw [ha, hb] at hk'
          simp only [Datum.product, Option.map_some, cls_key, Bool.xor_self] at hk'
          exact inf_nn hk'
        | number t n j =>
          have hs := sign_of_nn hy hb
          rw [ha, hb] at hk'
          simp only [Datum.product] at hk'
          by_cases hn : n = 0
          · rw [if_pos hn] at hk'; simp [fkey] at hk'
          · rw [if_neg hn] at hk'
            have : t = false := by cases t with
              | false => rfl
              | true => exact absurd (hs rfl) hn
            subst this
            simp only [Option.map_some, cls_key, Bool.xor_self] at hk'
            exact inf_nn hk'
      | number s m i =>
        have hs := sign_of_nn hx ha
        cases hb : f64.read b with
        | nan s t => rw [ha, hb] at hk'; simp [Datum.product, fkey] at hk'
        | infinity t =>
          have := inf_of_nn hy hb; subst this
          rw [ha, hb] at hk'
          simp only [Datum.product] at hk'
          by_cases hm : m = 0
          · rw [if_pos hm] at hk'; simp [fkey] at hk'
          · rw [if_neg hm] at hk'
            have : s = false := by cases s with
              | false => rfl
              | true => exact absurd (hs rfl) hm
            subst this
            simp only [Option.map_some, cls_key, Bool.xor_self] at hk'
            exact inf_nn hk'
        | number t n j =>
          have ht := sign_of_nn hy hb
          rw [ha, hb] at hk'
          simp only [Datum.product, Option.map_some, cls_key] at hk'
          refine nearest_nn (fun hxor => ?_) hk'
          cases s with
          | true => rw [hs rfl, Nat.zero_mul]
          | false =>
            cases t with
            | true => rw [ht rfl, Nat.mul_zero]
            | false => cases hxor

theorem signed_zero (s : Bool) (k : Nat) : signed s 0 k = 0 := by cases s <;> simp [signed]

theorem signed_nn {s : Bool} {m k : Nat} (h : s = true → m = 0) : 0 ≤ signed s m k := by
  cases s with
  | false => exact signed_nonneg
  | true => rw [h rfl, signed_zero]; omega

theorem nn_add {x y : Fl} (hx : nn x) (hy : nn y) : nn (R.fadd x y) := by
  cases x with
  | none => exact fun k h => by cases h
  | some a =>
    cases y with
    | none => exact fun k h => by cases h
    | some b =>
      intro k hk
      have hk' : fkey (match f64.add a b with | some r => cls r | none => none) = some k := hk
      unfold Format.add at hk'
      cases ha : f64.read a with
      | nan s t => rw [ha] at hk'; cases h : f64.read b <;> rw [h] at hk' <;> simp [Datum.sum, fkey] at hk'
      | infinity s =>
        have := inf_of_nn hx ha; subst this
        cases hb : f64.read b with
        | nan s t => rw [ha, hb] at hk'; simp [Datum.sum, fkey] at hk'
        | infinity t =>
          have := inf_of_nn hy hb; subst this
          rw [ha, hb] at hk'
          simp only [Datum.sum, if_true, Option.map_some, cls_key] at hk'
          exact inf_nn hk'
        | number t n j =>
          rw [ha, hb] at hk'
          simp only [Datum.sum, Option.map_some, cls_key] at hk'
          exact inf_nn hk'
      | number s m i =>
        have hs := sign_of_nn hx ha
        cases hb : f64.read b with
        | nan s t => rw [ha, hb] at hk'; simp [Datum.sum, fkey] at hk'
        | infinity t =>
          have := inf_of_nn hy hb; subst this
          rw [ha, hb] at hk'
          simp only [Datum.sum, Option.map_some, cls_key] at hk'
          exact inf_nn hk'
        | number t n j =>
          have ht := sign_of_nn hy hb
          rw [ha, hb] at hk'
          simp only [Datum.sum, Option.map_some, cls_key] at hk'
          have h1 : 0 ≤ signed s m (i - min i j).toNat := signed_nn hs
          have h2 : 0 ≤ signed t n (j - min i j).toNat := signed_nn ht
          have h3 : 0 ≤ signed s m (i - min i j).toNat + signed t n (j - min i j).toNat := by omega
          generalize signed s m (i - min i j).toNat + signed t n (j - min i j).toNat = T at hk' h3
          refine nearest_nn (fun hneg => ?_) hk'
          by_cases hT : T = 0
          · rw [hT]; rfl
          · rw [if_neg hT] at hneg
            have : T < 0 := by simpa using hneg
            omega

/-- A square is not below nought. -/
theorem nn_sq (x : Fl) : nn (R.fmul x x) := by
  cases x with
  | none => exact fun k h => by cases h
  | some a =>
    intro k hk
    have hk' : fkey (match f64.mul a a with | some r => cls r | none => none) = some k := hk
    unfold Format.mul at hk'
    cases ha : f64.read a with
    | nan s t => rw [ha] at hk'; simp [Datum.product, fkey] at hk'
    | infinity s =>
      rw [ha] at hk'
      simp only [Datum.product, Option.map_some, cls_key, Bool.xor_self] at hk'
      exact inf_nn hk'
    | number s m i =>
      rw [ha] at hk'
      simp only [Datum.product, Option.map_some, cls_key, Bool.xor_self] at hk'
      exact nearest_nn (fun h => by cases h) hk'

end Go.Ev
/- Loops: from the first head state to the last one at once; what must hold of that. -/
namespace Go.Ev

/-- What is told of a loop holds. -/
def LastOK (P : Program) (hk : Hk R) (b : Code) : Prop :=
  ∀ st e st', (evLast (hk st) st).run = some (e, st') → (st.nx ≤ st'.nx ∧ (∃ d, st'.h = d ++ st.h) ∧ Agree (wrCode b) st'.tm st.tm) ∧
    ∀ (ρ : Nm) (a : Act) (w : World), VRs ρ st.tm a.tmps.toList → HR ρ st.h w → Inj ρ w → Fresh ρ st.nx st'.nx →
      (Code.loop b).wp P (fun x a' w' => x = exitOf e ∧ a'.defers = a.defers ∧ ∃ ρ', VRs ρ' st'.tm a'.tmps.toList ∧ ∃ d, st'.h = d ++ st.h ∧ Step ρ ρ' w w' st.nx st'.nx d st.h) a w

def LoopsOK (P : Program) (lt : Nat → Option (Hk R)) (c : Code) : Prop := ∀ id b hk, (id, b) ∈ loopsOf c → lt id = some hk → LastOK P hk b

/-- All loops of all functions are told right. -/
def HooksOK (P : Program) (lt : LTb R) : Prop := ∀ f fn c, P.funcs[f]? = some fn → fn.body = some c → LoopsOK P (lt f) c

end Go.Ev
/- Code with loops of which it is told what they come to: sound. -/
namespace Go.Ev

/-- What this code that is reckoned comes to. -/
structure CodeAt (P : Program) (ev : Code → St R → T Bool (Ex × St R)) (c : Code) : Prop where
  pure : ∀ st e st', (ev c st).run = some (e, st') → st.nx ≤ st'.nx ∧ (∃ d, st'.h = d ++ st.h) ∧ Agree (wrCode c) st'.tm st.tm
  sound : ∀ st e st', (ev c st).run = some (e, st') → ∀ (ρ : Nm) (a : Act) (w : World), VRs ρ st.tm a.tmps.toList → HR ρ st.h w → Inj ρ w → Fresh ρ st.nx st'.nx →
    c.wp P (fun x a' w' => x = exitOf e ∧ a'.defers = a.defers ∧ ∃ ρ', VRs ρ' st'.tm a'.tmps.toList ∧ ∃ d, st'.h = d ++ st.h ∧ Step ρ ρ' w w' st.nx st'.nx d st.h) a w

theorem blk_pure {id : Nat} {b : Code} {st : St R} {ev : Code → St R → T Bool (Ex × St R)} (ih : ∀ e s, (ev b st).run = some (e, s) → st.nx ≤ s.nx ∧ (∃ d, s.h = d ++ st.h) ∧ Agree (wrCode b) s.tm st.tm) : ∀ e s, ((ev b st).bind fun (e, st') => match e with
      | .exit j => if j = id then (.ret (.normal, st') : T Bool (Ex × St R)) else .ret (.exit j, st')
      | e => .ret (e, st')).run = some (e, s) → st.nx ≤ s.nx ∧ (∃ d, s.h = d ++ st.h) ∧ Agree (wrCode b) s.tm st.tm := by
  intro e s h
  obtain ⟨⟨e1, st1⟩, h1, h2⟩ := T.run_bind_some h
  have m1 := ih _ _ h1
  simp only at h2
  split at h2
  · split at h2 <;> (cases h2; exact m1)
  · cases h2; exact m1


end Go.Ev
/- Code with loops of which it is told what they come to: sound, the whole. -/
namespace Go.Ev

section
variable {P : Program} {tbl : Tbl R} {lt : Nat → Option (Hk R)}

theorem LoopsOK.left {a b : Code} (h : LoopsOK P lt (.seq a b)) : LoopsOK P lt a := fun id x hk hm => h id x hk (List.mem_append_left _ hm)
theorem LoopsOK.right {a b : Code} (h : LoopsOK P lt (.seq a b)) : LoopsOK P lt b := fun id x hk hm => h id x hk (List.mem_append_right _ hm)
theorem LoopsOK.thn {c : Operand} {a b : Code} (h : LoopsOK P lt (.cond c a b)) : LoopsOK P lt a := fun id x hk hm => h id x hk (List.mem_append_left _ hm)
theorem LoopsOK.els {c : Operand} {a b : Code} (h : LoopsOK P lt (.cond c a b)) : LoopsOK P lt b := fun id x hk hm => h id x hk (List.mem_append_right _ hm)
theorem LoopsOK.body {id : Nat} {b : Code} (h : LoopsOK P lt (.block id (.loop b))) : LoopsOK P lt b := fun i x hk hm => h i x hk (List.mem_cons_of_mem _ hm)

theorem seq_at {ev ev' : Code → St R → T Bool (Ex × St R)} {x y : Code} (hx : CodeAt P ev x) (hy : CodeAt P ev y)
    (he : ∀ st, ev' (.seq x y) st = (ev x st).bind fun (e, st') => match e with | .normal => ev y st' | e => .ret (e, st')) : CodeAt P ev' (.seq x y) where
  pure st e st' h := by
    rw [he] at h
    obtain ⟨⟨e1, st1⟩, h1, h2⟩ := T.run_bind_some h
    obtain ⟨p1, ⟨d1, p2⟩, p3⟩ := hx.pure _ _ _ h1
    simp only at h2
    split at h2
    · obtain ⟨q1, ⟨d2, q2⟩, q3⟩ := hy.pure _ _ _ h2
      exact ⟨Nat.le_trans p1 q1, ⟨d2 ++ d1, by rw [q2, p2, List.append_assoc]⟩, q3.right.trans p3.left⟩
    · cases h2; exact ⟨p1, ⟨d1, p2⟩, p3.left⟩
  sound st e st' h ρ a w htm hH hI hF := by
    rw [he] at h
    obtain ⟨⟨e1, st1⟩, h1, h2⟩ := T.run_bind_some h
    simp only at h2
    have m1 := (hx.pure _ _ _ h1).1
    cases e1 with
    | normal =>
      simp only at h2
      have m2 := (hy.pure _ _ _ h2).1
      refine wp_seq (wp_mono (hx.sound st .normal st1 h1 ρ a w htm hH hI (fun n c1 c2 => hF n c1 (by omega))) ?_)
      rintro z a1 w1 ⟨hz, hdef, ρ1, ht1, d1, hd1, s1⟩
      subst hz
      have hH1 : HR ρ1 st1.h w1 := by rw [hd1]; exact s1.hr
      have hF1 : Fresh ρ1 st1.nx st'.nx := fun n c1 c2 => by rw [s1.old n (by omega)]; exact hF n (by omega) c2
      refine wp_mono (hy.sound st1 e st' h2 ρ1 a1 w1 ht1 hH1 s1.inj hF1) ?_
      rintro z2 a2 w2 ⟨hz2, hdef2, ρ2, ht2, d2, hd2, s2⟩
      rw [hd1] at s2 hd2
      exact ⟨hz2, hdef2.trans hdef, ρ2, ht2, d2 ++ d1, by rw [hd2, List.append_assoc], s1.trans s2⟩
    | exit id =>
      cases h2
      refine wp_seq (wp_mono (hx.sound st (.exit id) _ h1 ρ a w htm hH hI hF) ?_)
      rintro z a1 w1 ⟨hz, rest⟩
      subst hz
      exact ⟨rfl, rest⟩
    | ret =>
      cases h2
      refine wp_seq (wp_mono (hx.sound st .ret _ h1 ρ a w htm hH hI hF) ?_)
      rintro z a1 w1 ⟨hz, rest⟩
      subst hz
      exact ⟨rfl, rest⟩


theorem cond_at {ev ev' : Code → St R → T Bool (Ex × St R)} {c : Operand} {x y : Code} (hx : CodeAt P ev x) (hy : CodeAt P ev y)
    (he : ∀ st, ev' (.cond c x y) st = match opd st.tm c with
      | some (.kb t) => ev (if t then x else y) st
      | some (.sb s) => compact (D := R) (wrCode x ||| wrCode y) st.tm st.h st.nx (.node s (ev x st) (ev y st))
      | _ => .fail "cond") : CodeAt P ev' (.cond c x y) := by
  have cp : ∀ (st : St R) (s : Bool) e s', (T.node s (ev x st) (ev y st)).run = some (e, s') → st.nx ≤ s'.nx ∧ (∃ d, s'.h = d ++ st.h) ∧ Agree (wrCode x ||| wrCode y) s'.tm st.tm := by
    intro st s e s' h
    rcases run_choose_some h with ⟨_, h⟩ | ⟨_, h⟩
    · obtain ⟨h1, h2, h3⟩ := hx.pure _ _ _ h
      exact ⟨h1, h2, h3.left⟩
    · obtain ⟨h1, h2, h3⟩ := hy.pure _ _ _ h
      exact ⟨h1, h2, h3.right⟩
  constructor
  · intro st e st' h
    rw [he] at h
    split at h
    · rename_i t _
      cases t
      · obtain ⟨p1, p2, p3⟩ := hy.pure _ _ _ h
        exact ⟨p1, p2, p3.right⟩
      · obtain ⟨p1, p2, p3⟩ := hx.pure _ _ _ h
        exact ⟨p1, p2, p3.left⟩
    · exact joined_pure h (cp st _)
    · cases h
  · intro st e st' h ρ a w htm hH hI hF
    rw [he] at h
    split at h
    · rename_i t hc
      have hv : a.eval c = .bool t := opd_sound htm hc
      refine wp_cond hv ?_
      cases t
      · exact hy.sound st e st' h ρ a w htm hH hI hF
      · exact hx.sound st e st' h ρ a w htm hH hI hF
    · rename_i s hc
      have hv : a.eval c = .bool s := opd_sound htm hc
      refine joined_wp h (cp st s) hF fun s2 h hF => ?_
      rcases run_choose_some h with ⟨hs, h⟩ | ⟨hs, h⟩
      · exact wp_cond (t := true) (by rw [hv, hs]) (hx.sound st e s2 h ρ a w htm hH hI hF)
      · exact wp_cond (t := false) (by rw [hv, hs]) (hy.sound st e s2 h ρ a w htm hH hI hF)
    · cases h

/-- A block, by what its body comes to. -/
theorem block_at {ev ev' : Code → St R → T Bool (Ex × St R)} {id : Nat} {b : Code} (hb : CodeAt P ev b)
    (he : ∀ st, ev' (.block id b) st = compact (D := R) (wrCode b) st.tm st.h st.nx ((ev b st).bind fun (e, st') => match e with
      | .exit j => if j = id then .ret (.normal, st') else .ret (.exit j, st')
      | e => .ret (e, st'))) : CodeAt P ev' (.block id b) := by
  constructor
  · intro st e st' h
    rw [he] at h
    exact joined_pure h (blk_pure (hb.pure st))
  · intro st e st' h ρ a w htm hH hI hF
    rw [he] at h
    refine joined_wp h (blk_pure (hb.pure st)) hF fun s2 h hF => ?_
    obtain ⟨⟨e1, st1⟩, h1, h2⟩ := T.run_bind_some h
    simp only at h2
    cases e1 with
    | normal =>
      cases h2
      refine wp_block (wp_mono (hb.sound st .normal _ h1 ρ a w htm hH hI hF) ?_)
      rintro z a1 w1 ⟨hz, rest⟩
      subst hz
      exact ⟨rfl, rest⟩
    | exit j =>
      simp only at h2
      split at h2
      · rename_i hj
        cases h2
        refine wp_block (wp_mono (hb.sound st (.exit j) _ h1 ρ a w htm hH hI hF) ?_)
        rintro z a1 w1 ⟨hz, rest⟩
        subst hz
        simp only [exitOf, Exit.inBlock, hj, if_true]
        exact ⟨trivial, rest⟩
      · rename_i hj
        cases h2
        refine wp_block (wp_mono (hb.sound st (.exit j) _ h1 ρ a w htm hH hI hF) ?_)
        rintro z a1 w1 ⟨hz, rest⟩
        subst hz
        simp only [exitOf, Exit.inBlock, hj, if_false]
        exact ⟨trivial, rest⟩
    | ret =>
      cases h2
      refine wp_block (wp_mono (hb.sound st .ret _ h1 ρ a w htm hH hI hF) ?_)
      rintro z a1 w1 ⟨hz, rest⟩
      subst hz
      exact ⟨rfl, rest⟩

/-- A loop of which it is told what it comes to. -/
theorem told_at {b : Code} {hk : Hk R} (hl : LastOK P hk b) : CodeAt P (fun _ st => evLast (hk st) st) (.loop b) :=
  ⟨fun st e st' h => (hl st e st' h).1, fun st e st' h => (hl st e st' h).2⟩

theorem scope_at {ev ev' : Code → St R → T Bool (Ex × St R)} {b : Code} (hb : CodeAt P ev b) (he : ∀ st, ev' (.scope b) st = ev b st) : CodeAt P ev' (.scope b) := by
  constructor
  · intro st e st' h
    rw [he] at h
    exact hb.pure _ _ _ h
  · intro st e st' h ρ a w htm hH hI hF
    rw [he] at h
    refine wp_scope_straight (wp_mono (hb.sound st e st' h ρ a w htm hH hI hF) ?_)
    rintro z a1 w1 ⟨hz, rest⟩
    subst hz
    cases e <;> exact ⟨rfl, rest⟩

theorem CodeAt.congr {ev ev' : Code → St R → T Bool (Ex × St R)} {c : Code} (h : CodeAt P ev c) (he : ∀ st, ev' c st = ev c st) : CodeAt P ev' c :=
  ⟨fun st e st' hr => h.pure st e st' (by rw [← he]; exact hr), fun st e st' hr => h.sound st e st' (by rw [← he]; exact hr)⟩

/-- Code that comes to its state at once. -/
theorem here_at {ev : Code → St R → T Bool (Ex × St R)} {c : Code} (x : Ex) (he : ∀ st, ev c st = .ret (x, st)) (hw : ∀ (Q : Exit → Act → World → Prop) a w, Q (exitOf x) a w → c.wp P Q a w) : CodeAt P ev c where
  pure st e st' h := by
    rw [he] at h; cases h
    exact ⟨Nat.le_refl _, ⟨[], rfl⟩, Agree.refl _ _⟩
  sound st e st' h ρ a w htm hH hI hF := by
    rw [he] at h; cases h
    exact hw _ _ _ ⟨rfl, rfl, ρ, htm, [], rfl, Step.refl hH hI⟩

theorem fail_at {ev : Code → St R → T Bool (Ex × St R)} {c : Code} (he : ∀ st, ∃ w, ev c st = .fail w) : CodeAt P ev c where
  pure st e st' h := by obtain ⟨w, hw⟩ := he st; rw [hw] at h; cases h
  sound st e st' h := by obtain ⟨w, hw⟩ := he st; rw [hw] at h; cases h

theorem region_at (hP : P.follows .mixedOrders = true) {call : CallFn R} (hc : CallOK P call) {ev : Code → St R → T Bool (Ex × St R)} {id : Nat} {ops : Array Oper} {draw : Bool}
    (he : ∀ st, ev (.region id ops draw) st = (evRegion P call ops.toList draw st.tm st.h st.nx).bind fun (tm, h, nx) => .ret (.normal, ⟨tm, h, nx⟩)) : CodeAt P ev (.region id ops draw) where
  pure st e st' h := by
    rw [he] at h
    obtain ⟨⟨tm, hh, nx⟩, h1, h2⟩ := T.run_bind_some h
    cases h2
    exact evRegion_pure h1
  sound st e st' h ρ a w htm hH hI hF := by
    rw [he] at h
    obtain ⟨⟨tm, hh, nx⟩, h1, h2⟩ := T.run_bind_some h
    cases h2
    exact region_sound hP hc h1 htm hH hI hF fun ρ' a' w' g1 g2 g3 => ⟨rfl, g1, ρ', g2, g3⟩

/-- A loop, round by round. -/
theorem loop_at {evs : Nat → Code → St R → T Bool (Ex × St R)} {x : Code} (h0 : ∀ c st, ∃ w, evs 0 c st = .fail w)
    (he : ∀ n st, evs (n + 1) (.loop x) st = (evs n x st).bind fun (e, st') => match e with | .normal => evs n (.loop x) st' | e => .ret (e, st')) : ∀ n, (∀ m, m < n → CodeAt P (evs m) x) → CodeAt P (evs n) (.loop x) := by
  intro n hx
  have pure : ∀ n, (∀ m, m < n → CodeAt P (evs m) x) → ∀ st e st', (evs n (.loop x) st).run = some (e, st') → st.nx ≤ st'.nx ∧ (∃ d, st'.h = d ++ st.h) ∧ Agree (wrCode x) st'.tm st.tm := by
    intro n
    induction n with
    | zero => intro _ st e st' h; obtain ⟨w, hw⟩ := h0 (.loop x) st; rw [hw] at h; cases h
    | succ n ih =>
      intro hx st e st' h
      rw [he] at h
      obtain ⟨⟨e1, st1⟩, h1, h2⟩ := T.run_bind_some h
      obtain ⟨p1, ⟨d1, p2⟩, p3⟩ := (hx n (by omega)).pure _ _ _ h1
      simp only at h2
      split at h2
      · obtain ⟨q1, ⟨d2, q2⟩, q3⟩ := ih (fun m hm => hx m (by omega)) _ _ _ h2
        exact ⟨Nat.le_trans p1 q1, ⟨d2 ++ d1, by rw [q2, p2, List.append_assoc]⟩, Agree.trans q3 p3⟩
      · cases h2; exact ⟨p1, ⟨d1, p2⟩, p3⟩
  have rnds : ∀ n, (∀ m, m < n → CodeAt P (evs m) x) → ∀ st e st', (evs n (.loop x) st).run = some (e, st') → ∀ (ρ : Nm) (a : Act) (w : World), VRs ρ st.tm a.tmps.toList → HR ρ st.h w → Inj ρ w → Fresh ρ st.nx st'.nx →
      Code.rounds P x (fun z a' w' => z = exitOf e ∧ a'.defers = a.defers ∧ ∃ ρ', VRs ρ' st'.tm a'.tmps.toList ∧ ∃ d, st'.h = d ++ st.h ∧ Step ρ ρ' w w' st.nx st'.nx d st.h) n a w := by
    intro n
    induction n with
    | zero => intro _ st e st' h; obtain ⟨w, hw⟩ := h0 (.loop x) st; rw [hw] at h; cases h
    | succ n ih =>
      intro hx st e st' h ρ a w htm hH hI hF
      rw [he] at h
      obtain ⟨⟨e1, st1⟩, h1, h2⟩ := T.run_bind_some h
      simp only at h2
      have m1 := ((hx n (by omega)).pure _ _ _ h1).1
      rw [rounds_succ]
      cases e1 with
      | normal =>
        simp only at h2
        have m2 := (pure n (fun m hm => hx m (by omega)) _ _ _ h2).1
        refine wp_mono ((hx n (by omega)).sound st .normal st1 h1 ρ a w htm hH hI (fun n c1 c2 => hF n c1 (by omega))) ?_
        rintro z a1 w1 ⟨hz, hdef, ρ1, ht1, d1, hd1, s1⟩
        subst hz
        have hH1 : HR ρ1 st1.h w1 := by rw [hd1]; exact s1.hr
        have hF1 : Fresh ρ1 st1.nx st'.nx := fun n c1 c2 => by rw [s1.old n (by omega)]; exact hF n (by omega) c2
        refine rounds_mono ?_ n a1 w1 (ih (fun m hm => hx m (by omega)) st1 e st' h2 ρ1 a1 w1 ht1 hH1 s1.inj hF1)
        rintro z2 a2 w2 ⟨hz2, hdef2, ρ2, ht2, d2, hd2, s2⟩
        rw [hd1] at s2 hd2
        exact ⟨hz2, hdef2.trans hdef, ρ2, ht2, d2 ++ d1, by rw [hd2, List.append_assoc], s1.trans s2⟩
      | exit id =>
        cases h2
        refine wp_mono ((hx n (by omega)).sound st (.exit id) _ h1 ρ a w htm hH hI hF) ?_
        rintro z a1 w1 ⟨hz, rest⟩
        subst hz
        exact ⟨rfl, rest⟩
      | ret =>
        cases h2
        refine wp_mono ((hx n (by omega)).sound st .ret _ h1 ρ a w htm hH hI hF) ?_
        rintro z a1 w1 ⟨hz, rest⟩
        subst hz
        exact ⟨rfl, rest⟩
  exact ⟨pure n hx, fun st e st' h ρ a w htm hH hI hF => wp_loop_rounds n (rnds n hx st e st' h ρ a w htm hH hI hF)⟩

/-- A name for an empty row that is nil, beside others that are gone. -/
theorem Step.nilRow {ρ ρA : Nm} {w w' : World} {nx nx2 m : Nat} {d h : Heap R} (s : Step ρ ρA w w' nx nx [] h) (hH : HR ρ h w) (hF : Fresh ρ nx nx2) (h1 : nx ≤ m) (h2 : m < nx2) {ks : List CK}
    (hm : hget d m = some [.row false ks []]) (hd : ∀ n blk, hget d n = some blk → nx ≤ n ∧ n < nx2 ∧ (n = m ∨ blk = [])) : Step ρ (ρA.put m ⟨none, 0, 0, 0⟩ .own) w w' nx nx2 d h := by
  have old : ∀ n, ρA.pl n = ρ.pl n := fun n => s.old n (by omega)
  have hm0 : ρA.pl m = none := by rw [old]; exact hF m h1 h2
  have kn := Nm.put_knows ρA (n := m) ⟨none, 0, 0, 0⟩ .own hm0
  have bl : ∀ {n b : Nat}, (ρA.put m ⟨none, 0, 0, 0⟩ .own) n = some b → n ≠ m ∧ ρA n = some b := fun {n b} hb => by
    obtain ⟨p, hp, hpb⟩ := Nm.pl_of hb
    by_cases e : n = m
    · subst e; rw [Nm.put_pl] at hp; cases hp; cases hpb
    · rw [Nm.put_pl_ne _ _ _ e] at hp; exact ⟨e, Nm.bl_of hp hpb⟩
  refine {
    inj := ⟨fun n b hb => s.inj.lt n b (bl hb).2, fun n k b hn hk s1 s2 => ?_⟩
    hr := ?_
    old := fun n hn => by rw [Nm.put_pl_ne _ _ _ (by omega)]; exact old n
    st := fun n hn => ?_
    new := fun n b g1 g2 hb => ?_
    own := fun n hn => ?_
    size := s.size
    os := s.os
    tape := s.tape
    output := s.output
    frame := fun b hb _ => s.frame b hb fun n blk hg => by cases hg
    le := by omega }
  · obtain ⟨e1, f1⟩ := bl hn
    obtain ⟨e2, f2⟩ := bl hk
    rw [Nm.put_st_ne _ _ _ e1] at s1
    rw [Nm.put_st_ne _ _ _ e2] at s2
    exact s.inj.inj n k b f1 f2 s1 s2
  · intro n blk hg
    rw [hget_append] at hg
    cases hdn : hget d n with
    | some b2 =>
      rw [hdn] at hg
      cases hg
      obtain ⟨_, _, rfl | rfl⟩ := hd n _ hdn
      · rw [hm] at hdn; cases hdn
        exact .row (Nm.put_pl ..) (by rw [Nm.put_st]; simp) (fun _ => ⟨rfl, Nm.put_st ..⟩) ⟨rfl, (fun _ h => nomatch h), Nat.le_refl _, .inl ⟨rfl, rfl⟩⟩ (fun _ => Clear.none rfl)
      · exact .nothing
    | none =>
      rw [hdn] at hg
      have hg' : hget h n = some blk := by simpa using hg
      by_cases e : n = m
      · subst e
        exact (hH n blk hg').fresh (hF n h1 h2) _ _
      · exact (s.hr n blk (by rw [List.nil_append]; exact hg')).keep kn (Nm.put_st_ne _ _ _ e) fun b _ => rfl
  · rw [Nm.put_st_ne _ _ _ (by omega)]
    rcases s.st n (by omega) with g | ⟨_, _, g⟩
    · exact .inl g
    · cases g
  · obtain ⟨e, f⟩ := bl hb
    obtain ⟨p, hp, _⟩ := Nm.pl_of f
    rw [old, hF n g1 g2] at hp; cases hp
  · cases hdn : hget d n with
    | none => rw [hdn] at hn; cases hn
    | some blk => obtain ⟨a, b, _⟩ := hd n blk hdn; exact .inl ⟨a, b⟩

theorem oneNew_spec {nx nx' m : Nat} {d : Heap R} (h : oneNew nx nx' m d = true) : ∀ n blk, hget d n = some blk → nx ≤ n ∧ n < nx' ∧ (n = m ∨ blk = []) := by
  intro n blk hg
  have mem : ∀ (d : Heap R), hget d n = some blk → (n, blk) ∈ d := fun d => by
    induction d with
    | nil => intro h; cases h
    | cons p r ih =>
      intro hh
      obtain ⟨k, b⟩ := p
      simp only [hget] at hh
      by_cases e : (k == n) = true
      · have : k = n := by simpa using e
        subst this
        simp at hh
        subst hh
        exact List.mem_cons_self
      · simp only [e] at hh
        exact List.mem_cons_of_mem _ (ih hh)
  have hp := List.all_eq_true.1 h (n, blk) (mem d hg)
  simp only [Bool.and_eq_true, decide_eq_true_eq, Bool.or_eq_true, beq_iff_eq] at hp
  refine ⟨hp.1.1, hp.1.2, ?_⟩
  rcases hp.2 with e | e
  · exact .inl e
  · rw [hg] at e
    cases blk with
    | nil => exact .inr rfl
    | cons _ _ => cases e

theorem evNil_calls {f : FuncId} {ev : Code → St R → T Bool (Ex × St R)} (hc : BodyOK P ev f) {h : Heap R} {nx n : Nat} {k : SK} {off : Option Int} {len : Int} {sz : Nat} {out : Out R}
    (hr : (evNil (D := R) (fun as => evFnV P ev f as h nx) nx n off len sz).run = some out) {ρ : Nm} {w : World} {vals : Array Value} (ha : VRs ρ [.sslice n k off len sz] vals.toList) (hH : HR ρ h w) (hI : Inj ρ w) (hF : Fresh ρ nx out.nx) :
    (∃ fn c, P.funcs[f]? = some fn ∧ fn.body = some c) ∧ Calls P f vals w fun e w' => ∃ v, e = .returned v ∧ ∃ ρ', VR ρ' out.v v ∧ Step ρ ρ' w w' nx out.nx out.d h := by
  obtain ⟨v, l, hl, hv, hnil⟩ := VRs.cons_inv ha
  have hl0 := VRs.nil_inv hnil
  subst hl0
  unfold evNil at hr
  split at hr
  case h_2 => cases hr
  rename_i q hq
  split at hr
  case isFalse => cases hr
  rename_i hqn
  subst hqn
  obtain ⟨o, h1, h2⟩ := T.run_bind_some hr
  split at h2
  case h_2 => cases h2
  rename_i m z q2 hov
  split at h2
  case h_2 => cases h2
  rename_i ks l hrow
  split at h2
  case isFalse => cases h2
  rename_i hnm
  rcases run_choose_some h2 with ⟨hb, h2⟩ | ⟨_, h2⟩
  case inr => cases h2
  cases h2
  simp only [Bool.and_eq_true, decide_eq_true_eq] at hnm
  obtain ⟨hn1, hn2, hn3⟩ := hnm
  obtain ⟨p, base, cap, hp, rfl, hs⟩ := hv
  cases base with
  | some a =>
    have hs' : SR p .live off len sz (some a) cap := { hs with
      whole := fun e => by cases e
      base := fun e => hs.base (.inr (by rcases e with e | e; cases e; exact e))
      live := fun _ => by simp }
    exact evFn_calls hc h1 (by rw [hl]; exact ⟨⟨p, some a, cap, hp, rfl, hs'⟩, trivial⟩) hH hI hF
  | none =>
    have c0 := hs.nil rfl
    have c1 := hs.cap1
    have c2 := hs.len0
    have len0 : len = 0 := by omega
    subst len0
    subst c0
    have hb' : z = 0 ∧ l = [] := by
      have e : R.zeq (0 : Int) (R.zc 0) = true := rfl
      rw [e] at hb
      have hb1 : (R.zeq z (R.zc 0) && R.zeq (R.llen l) (R.zc 0)) = true := hb
      simp only [Bool.and_eq_true] at hb1
      refine ⟨by simpa using hb1.1, ?_⟩
      have hb2 : ((l.length : Int) == 0) = true := hb1.2
      exact List.eq_nil_of_length_eq_zero (by simpa using hb2)
    obtain ⟨rfl, rfl⟩ := hb'
    have hq' : evFnV P ev f [.nils] h q = .ret ⟨.nils, [], q⟩ := hq
    have hr0 : (evFnV P ev f [.nils] h q).run = some ⟨.nils, [], q⟩ := by rw [hq']; rfl
    obtain ⟨hx, hcalls⟩ := evFn_calls hc hr0 (vals := vals) (by rw [hl]; exact ⟨rfl, trivial⟩) hH hI (fun n a1 a2 => absurd a2 (by simp only; omega))
    refine ⟨hx, hcalls.mono ?_⟩
    rintro e w' ⟨v', rfl, ρA, hv', sA⟩
    have hm : hget out.d m = some [.row false ks []] := by
      unfold rowAt at hrow
      split at hrow
      · rename_i he; cases hrow; exact he
      · cases hrow
    refine ⟨v', rfl, _, ?_, Step.nilRow sA hH hF hn2 hn3 hm (oneNew_spec hn1)⟩
    rw [hov]
    have e : v' = .slice none 0 0 := hv'
    exact ⟨⟨none, 0, 0, 0⟩, none, 0, Nm.put_pl .., e, ⟨by decide, by decide, by decide, by decide, by decide, by decide, fun _ => rfl, fun _ => ⟨rfl, rfl, Nat.le_refl _⟩, fun h => (by cases h), fun _ => rfl⟩⟩

end
end Go.Ev
/- States at a loop's head: known numbers as symbols; values below a name. -/
namespace Go.Ev

mutual
theorem symV_le : ∀ (v : AV R), Le v (symV v)
  | .undef => Le.refl _
  | .any => Le.refl _
  | .fl _ => Le.refl _
  | .kb _ => fun _ _ h => h
  | .sb _ => Le.refl _
  | .ki _ _ => fun _ _ h => h
  | .si _ _ => Le.refl _
  | .ptr _ _ => Le.refl _
  | .nilp => Le.refl _
  | .slice _ _ _ _ => Le.refl _
  | .nils => Le.refl _
  | .clo _ _ _ => Le.refl _
  | .nilf => Le.refl _
  | .agg cs => Le.agg (symVs_le cs)
  | .tup _ => Le.refl _
  | .row _ _ _ => Le.refl _
  | .sptr _ _ _ _ => Le.refl _
  | .sslice _ _ _ _ _ => Le.refl _
  | .arr _ _ _ => Le.refl _
  | .aptr _ _ => Le.refl _
  | .optr _ _ _ => Le.refl _
  | .gh _ _ => Le.refl _
theorem symVs_le : ∀ (vs : List (AV R)), Les vs (symVs vs)
  | [] => Les.nil
  | v :: r => Les.cons (symV_le v) (symVs_le r)
end

/-- Two namings that are the same below a name. -/
def Same (K : Nat) (ρ ρ' : Nm) : Prop := ∀ n, n < K → ρ'.pl n = ρ.pl n

theorem Same.bl {K : Nat} {ρ ρ' : Nm} (h : Same K ρ ρ') {n : Nat} (hn : n < K) : ρ' n = ρ n := Nm.bl_congr (h n hn)

mutual
theorem VR.below {K : Nat} {ρ ρ' : Nm} (h : Same K ρ ρ') : ∀ (a : AV R) (v : Value), a.lt K = true → VR ρ a v → VR ρ' a v
  | .undef, _, _, x => x
  | .any, _, _, _ => trivial
  | .fl _, _, _, x => x
  | .kb _, _, _, x => x
  | .sb _, _, _, x => x
  | .ki _ _, _, _, x => x
  | .si _ _, _, _, x => x
  | .ptr n _, _, hl, ⟨b, hb, hv⟩ => ⟨b, by rw [h.bl (by simpa [AV.lt] using hl)]; exact hb, hv⟩
  | .nilp, _, _, x => x
  | .slice n _ _ _, _, hl, ⟨b, hb, hv⟩ => ⟨b, by rw [h.bl (by simpa [AV.lt] using hl)]; exact hb, hv⟩
  | .nils, _, _, x => x
  | .clo _ first cap, _, hl, ⟨xs, ys, hv, h1, h2⟩ => by
    have hl' : ltAll K first = true ∧ ltAll K cap = true := by simpa [AV.lt] using hl
    exact ⟨xs, ys, hv, VRs.below h first _ hl'.1 h1, VRs.below h cap _ hl'.2 h2⟩
  | .nilf, _, _, x => x
  | .agg cs, _, hl, ⟨xs, hv, h1⟩ => ⟨xs, hv, VRs.below h cs _ (by simpa [AV.lt] using hl) h1⟩
  | .tup cs, _, hl, ⟨xs, hv, h1⟩ => ⟨xs, hv, VRs.below h cs _ (by simpa [AV.lt] using hl) h1⟩
  | .row _ _ _, _, _, x => x
  | .sptr n _ _ _, _, hl, ⟨p, b, hp, hr⟩ => ⟨p, b, by rw [h n (by simpa [AV.lt] using hl)]; exact hp, hr⟩
  | .sslice n _ _ _ _, _, hl, ⟨p, base, cap, hp, hr⟩ => ⟨p, base, cap, by rw [h n (by simpa [AV.lt] using hl)]; exact hp, hr⟩
  | .arr _ _ _, _, _, x => x
  | .aptr n _, _, hl, ⟨p, b, hp, hr⟩ => ⟨p, b, by rw [h n (by simpa [AV.lt] using hl)]; exact hp, hr⟩
  | .optr _ n _, _, hl, .inl ⟨hc, b, hb, hv⟩ => .inl ⟨hc, b, by rw [h.bl (by simpa [AV.lt] using hl)]; exact hb, hv⟩
  | .optr _ _ _, _, _, .inr x => .inr x
  | .gh _ _, _, _, x => x
theorem VRs.below {K : Nat} {ρ ρ' : Nm} (h : Same K ρ ρ') : ∀ (as : List (AV R)) (vs : List Value), ltAll K as = true → VRs ρ as vs → VRs ρ' as vs
  | [], [], _, _ => trivial
  | a :: as, v :: vs, hl, ⟨h1, h2⟩ => by
    have hl' : a.lt K = true ∧ ltAll K as = true := by simpa [ltAll] using hl
    exact ⟨VR.below h a v hl'.1 h1, VRs.below h as vs hl'.2 h2⟩
end

section
variable {D : Dom}

mutual
/-- What is laid out of a skeleton and the symbols that were read by it is what was read. -/
theorem matchX_lay : ∀ (s : AV KD) (v : AV D) (p : List (PD D)), matchX s v = some p → p.length = holes s ∧ ∀ pre post, layV (pre ++ (p ++ post)) s pre.length = v := by
  intro s v p h
  cases s with
  | undef => cases v <;> simp only [matchX] at h <;> cases h; exact ⟨rfl, fun _ _ => rfl⟩
  | any => cases v <;> simp only [matchX] at h <;> cases h; exact ⟨rfl, fun _ _ => rfl⟩
  | fl _ => cases v <;> simp only [matchX] at h <;> cases h; exact ⟨rfl, fun pre post => by simp [layV, nthF]⟩
  | kb a =>
    cases v <;> simp only [matchX] at h <;> first | (cases h; done) | skip
    split at h
    · rename_i e; subst e; cases h; exact ⟨rfl, fun _ _ => rfl⟩
    · cases h
  | sb _ => cases v <;> simp only [matchX] at h <;> cases h; exact ⟨rfl, fun pre post => by simp [layV, nthB]⟩
  | ki k n =>
    cases v <;> simp only [matchX] at h <;> first | (cases h; done) | skip
    split at h
    · rename_i e; obtain ⟨rfl, rfl⟩ := e; cases h; exact ⟨rfl, fun _ _ => rfl⟩
    · cases h
  | si k _ =>
    cases v <;> simp only [matchX] at h <;> first | (cases h; done) | skip
    split at h
    · rename_i e; subst e; cases h; exact ⟨rfl, fun pre post => by simp [layV, nthZ]⟩
    · cases h
  | ptr n o =>
    cases v <;> simp only [matchX] at h <;> first | (cases h; done) | skip
    split at h
    · rename_i e; obtain ⟨rfl, rfl⟩ := e; cases h; exact ⟨rfl, fun _ _ => rfl⟩
    · cases h
  | nilp => cases v <;> simp only [matchX] at h <;> cases h; exact ⟨rfl, fun _ _ => rfl⟩
  | slice n o l c =>
    cases v <;> simp only [matchX] at h <;> first | (cases h; done) | skip
    split at h
    · rename_i e; obtain ⟨rfl, rfl, rfl, rfl⟩ := e; cases h; exact ⟨rfl, fun _ _ => rfl⟩
    · cases h
  | nils => cases v <;> simp only [matchX] at h <;> cases h; exact ⟨rfl, fun _ _ => rfl⟩
  | nilf => cases v <;> simp only [matchX] at h <;> cases h; exact ⟨rfl, fun _ _ => rfl⟩
  | clo f xs ys =>
    cases v <;> simp only [matchX] at h <;> first | (cases h; done) | skip
    split at h
    · rename_i e; subst e
      split at h
      · rename_i a b h1 h2
        cases h
        obtain ⟨a1, a2⟩ := matchXs_lay xs _ _ h1
        obtain ⟨b1, b2⟩ := matchXs_lay ys _ _ h2
        refine ⟨by simp [holes, a1, b1], fun pre post => ?_⟩
        have e1 := a2 pre (b ++ post)
        have e2 := b2 (pre ++ a) post
        simp only [List.append_assoc, List.length_append, a1] at e1 e2
        simp only [layV, List.append_assoc, e1, e2]
      · cases h
    · cases h
  | agg xs =>
    cases v <;> simp only [matchX] at h <;> first | (cases h; done) | skip
    obtain ⟨a1, a2⟩ := matchXs_lay xs _ _ h
    exact ⟨by simp [holes, a1], fun pre post => by simp only [layV, a2]⟩
  | tup xs =>
    cases v <;> simp only [matchX] at h <;> first | (cases h; done) | skip
    obtain ⟨a1, a2⟩ := matchXs_lay xs _ _ h
    exact ⟨by simp [holes, a1], fun pre post => by simp only [layV, a2]⟩
  | row ro ks _ =>
    cases v <;> simp only [matchX] at h <;> first | (cases h; done) | skip
    split at h
    · rename_i e; obtain ⟨rfl, rfl⟩ := e; cases h; exact ⟨rfl, fun pre post => by simp [layV, nthL]⟩
    · cases h
  | sptr n _ s o =>
    cases v <;> simp only [matchX] at h <;> first | (cases h; done) | skip
    split at h
    · rename_i e; obtain ⟨rfl, rfl, rfl⟩ := e; cases h; exact ⟨rfl, fun pre post => by simp [layV, nthZ]⟩
    · cases h
  | arr n k _ =>
    cases v <;> simp only [matchX] at h <;> first | (cases h; done) | skip
    split at h
    · rename_i e; obtain ⟨rfl, rfl⟩ := e; cases h; exact ⟨rfl, fun pre post => by simp [layV, nthL]⟩
    · cases h
  | aptr n a =>
    cases v <;> simp only [matchX] at h <;> first | (cases h; done) | skip
    split at h
    · rename_i e; obtain ⟨rfl, rfl⟩ := e; cases h; exact ⟨rfl, fun pre post => rfl⟩
    · cases h
  | optr _ n o =>
    cases v <;> simp only [matchX] at h <;> first | (cases h; done) | skip
    split at h
    · rename_i e; obtain ⟨rfl, rfl⟩ := e; cases h; exact ⟨rfl, fun pre post => by simp [layV, nthB]⟩
    · cases h
  | gh _ xs =>
    cases v <;> simp only [matchX] at h <;> first | (cases h; done) | skip
    rename_i c ys
    split at h
    · rename_i a h1
      cases h
      obtain ⟨a1, a2⟩ := matchXs_lay xs _ _ h1
      refine ⟨by simp [holes, a1]; omega, fun pre post => ?_⟩
      have e1 := a2 (pre ++ [.b c]) post
      have e2 : nthB (pre ++ (PV.b c :: (a ++ post))) pre.length = c := by simp [nthB]
      simp only [List.append_assoc, List.length_append, List.length_cons, List.length_nil, List.cons_append, List.nil_append] at e1
      simp only [layV, List.cons_append, e2, e1]
    · cases h
  | sslice n k off _ s =>
    cases v <;> simp only [matchX] at h <;> first | (cases h; done) | skip
    rename_i m j off' z q
    split at h
    · rename_i e
      obtain ⟨rfl, rfl, rfl⟩ := e
      cases ho : off.isSome
      · rw [ho] at h
        cases off' with
        | none => simp only [matchO] at h; cases h; exact ⟨by simp [holes, ho], fun pre post => by simp [layV, nthZ, ho]⟩
        | some o => simp only [matchO] at h; cases h
      · rw [ho] at h
        cases off' with
        | none => simp only [matchO] at h; cases h
        | some o =>
          simp only [matchO] at h
          cases h
          refine ⟨by simp [holes, ho], fun pre post => ?_⟩
          have e1 : (pre ++ ([PV.z o, PV.z z] ++ post))[pre.length]? = some (.z o) := by simp
          have e2 : (pre ++ ([PV.z o, PV.z z] ++ post))[pre.length + 1]? = some (.z z) := by
            rw [List.getElem?_append_right (by omega)]; simp
          simp only [layV, nthZ, e1, e2, ho]
    · cases h
theorem matchXs_lay : ∀ (s : List (AV KD)) (v : List (AV D)) (p : List (PD D)), matchXs s v = some p → p.length = holess s ∧ ∀ pre post, layVs (pre ++ (p ++ post)) s pre.length = v := by
  intro s v p h
  cases s with
  | nil => cases v <;> simp only [matchXs] at h <;> cases h; exact ⟨rfl, fun _ _ => rfl⟩
  | cons x xs =>
    cases v with
    | nil => simp only [matchXs] at h; cases h
    | cons y ys =>
      simp only [matchXs] at h
      split at h
      · rename_i a b h1 h2
        cases h
        obtain ⟨a1, a2⟩ := matchX_lay x _ _ h1
        obtain ⟨b1, b2⟩ := matchXs_lay xs _ _ h2
        refine ⟨by simp [holess, a1, b1], fun pre post => ?_⟩
        have e1 := a2 pre (b ++ post)
        have e2 := b2 (pre ++ a) post
        simp only [List.append_assoc, List.length_append, a1] at e1 e2
        simp only [layVs, List.append_assoc, e1, e2]
      · cases h
end

mutual
theorem layV_lt (l : List (PD D)) (K : Nat) : ∀ (s : AV KD) (i : Nat), (layV l s i).lt K = s.lt K
  | .undef, _ => rfl
  | .any, _ => rfl
  | .fl _, _ => rfl
  | .kb _, _ => rfl
  | .sb _, _ => rfl
  | .ki _ _, _ => rfl
  | .si _ _, _ => rfl
  | .ptr _ _, _ => rfl
  | .nilp, _ => rfl
  | .slice _ _ _ _, _ => rfl
  | .nils, _ => rfl
  | .nilf, _ => rfl
  | .clo _ xs ys, i => by simp only [layV, AV.lt, layVs_lt l K xs, layVs_lt l K ys]
  | .agg xs, i => by simp only [layV, AV.lt, layVs_lt l K xs]
  | .tup xs, i => by simp only [layV, AV.lt, layVs_lt l K xs]
  | .row _ _ _, _ => rfl
  | .sptr _ _ _ _, _ => rfl
  | .sslice _ _ o _ _, _ => by cases h : o.isSome <;> simp only [layV, h, AV.lt]
  | .arr _ _ _, _ => rfl
  | .aptr _ _, _ => rfl
  | .optr _ _ _, _ => rfl
  | .gh _ xs, i => by simp only [layV, AV.lt, layVs_lt l K xs]
theorem layVs_lt (l : List (PD D)) (K : Nat) : ∀ (s : List (AV KD)) (i : Nat), ltAll K (layVs l s i) = ltAll K s
  | [], _ => rfl
  | x :: xs, i => by simp only [layVs, ltAll, layV_lt l K x, layVs_lt l K xs]
end

end
end Go.Ev
/- Names given anew behind a step: slots from K on, the rest forgotten. -/
namespace Go.Ev

theorem Nm.bl_congr' {ρ ρ' : Nm} {n m : Nat} (h : ρ'.pl m = ρ.pl n) : ρ' m = ρ n := by
  show (ρ'.pl m).bind Plc.b = (ρ.pl n).bind Plc.b
  rw [h]

/-- Where a row lies that is nil. -/
def nilP : Plc := ⟨none, 0, 0, 0⟩

def slotP (ρ1 : Nm) : Option Nat → Option Plc
  | some m => ρ1.pl m
  | none => some nilP

theorem noDups_inj : ∀ {sl : List (Option Nat)}, noDups sl = true → ∀ {i j m : Nat}, sl[i]? = some (some m) → sl[j]? = some (some m) → i = j
  | [], _, i, j, m, h, _ => by simp at h
  | none :: r, h, i, j, m, hi, hj => by
    cases i with
    | zero => simp at hi
    | succ i =>
      cases j with
      | zero => simp at hj
      | succ j => exact congrArg Nat.succ (noDups_inj (sl := r) (by simpa [noDups] using h) (by simpa using hi) (by simpa using hj))
  | some n :: r, h, i, j, m, hi, hj => by
    have h' : r.contains (some n) = false ∧ noDups r = true := by simpa [noDups] using h
    have no : ∀ k : Nat, ¬ r[k]? = some (some n) := fun k hk => by
      have := h'.1
      have hm := List.mem_of_getElem? hk
      simp at this
      exact this hm
    cases i with
    | zero =>
      cases j with
      | zero => rfl
      | succ j => simp at hi; subst hi; exact absurd (by simpa using hj) (no j)
    | succ i =>
      cases j with
      | zero => simp at hj; subst hj; exact absurd (by simpa using hi) (no i)
      | succ j => exact congrArg Nat.succ (noDups_inj (sl := r) h'.2 (by simpa using hi) (by simpa using hj))

/-- Old names as they are (those that move to a slot die), slots from K on, and nothing else that is new. -/
def Nm.again (ρ ρ1 : Nm) (K N : Nat) (sl : List (Option Nat)) : Nm :=
  ⟨fun n => if n < K then ρ1.pl n else if n < K + sl.length then (sl[n - K]?).bind (slotP ρ1) else ρ.pl n,
   fun n => if n < K then (if sl.contains (some n) then .dead else ρ1.st n) else if n < K + sl.length then .own else if n < N then ρ.st n else ρ1.st n⟩

section
variable {ρ ρ1 : Nm} {K N : Nat} {sl : List (Option Nat)}

theorem Nm.again_old {n : Nat} (h : n < K) : (ρ.again ρ1 K N sl).pl n = ρ1.pl n := if_pos h
theorem Nm.again_slot {i : Nat} {o : Option Nat} (h : sl[i]? = some o) : (ρ.again ρ1 K N sl).pl (K + i) = slotP ρ1 o := by
  have hi : i < sl.length := (List.getElem?_eq_some_iff.1 h).1
  show (if K + i < K then _ else if K + i < K + sl.length then (sl[K + i - K]?).bind (slotP ρ1) else _) = _
  rw [if_neg (by omega), if_pos (by omega), Nat.add_sub_cancel_left, h]
  rfl
theorem Nm.again_out {n : Nat} (h : ¬ n < K + sl.length) : (ρ.again ρ1 K N sl).pl n = ρ.pl n := by
  show (if n < K then _ else if n < K + sl.length then _ else _) = _
  rw [if_neg (by omega), if_neg h]
theorem Nm.again_st_old {n : Nat} (h : n < K) : (ρ.again ρ1 K N sl).st n = if sl.contains (some n) then .dead else ρ1.st n := if_pos h
theorem Nm.again_st_slot {i : Nat} (h : i < sl.length) : (ρ.again ρ1 K N sl).st (K + i) = .own := by
  show (if K + i < K then _ else if K + i < K + sl.length then _ else _) = _
  rw [if_neg (by omega), if_pos (by omega)]
theorem Nm.again_st_out {n : Nat} (h : ¬ n < K + sl.length) : (ρ.again ρ1 K N sl).st n = if n < N then ρ.st n else ρ1.st n := by
  show (if n < K then _ else if n < K + sl.length then _ else _) = _
  rw [if_neg (by omega), if_neg h]


/-- Which name of before stands behind a name given anew. -/
theorem Nm.again_inv {n b nx1 : Nat} (hF : ∀ n, K ≤ n → n < max nx1 (K + sl.length) → ρ.pl n = none) (ho : ∀ n, ¬ (K ≤ n ∧ n < nx1) → ρ1.pl n = ρ.pl n) (h : (ρ.again ρ1 K N sl) n = some b) :
    (∃ i m, n = K + i ∧ sl[i]? = some (some m) ∧ ρ1 m = some b) ∨ ((n < K ∨ (K + sl.length ≤ n ∧ nx1 ≤ n)) ∧ ρ1 n = some b) := by
  by_cases h1 : n < K
  · refine .inr ⟨.inl h1, ?_⟩
    rw [Nm.bl_congr (ρ' := ρ.again ρ1 K N sl) (ρ := ρ1) (Nm.again_old h1)] at h
    exact h
  · by_cases h2 : n < K + sl.length
    · have hi : n - K < sl.length := by omega
      have e : n = K + (n - K) := by omega
      have := Nm.again_slot (ρ := ρ) (ρ1 := ρ1) (K := K) (N := N) (List.getElem?_eq_getElem hi)
      rw [← e] at this
      obtain ⟨p, q1, q2⟩ := Nm.pl_of h
      rw [this] at q1
      cases ho : sl[n - K] with
      | none => rw [ho] at q1; cases q1; cases q2
      | some m => rw [ho] at q1; exact .inl ⟨n - K, m, by omega, by rw [← ho]; exact List.getElem?_eq_getElem hi, Nm.bl_of q1 q2⟩
    · have hb : ρ n = some b := by rw [← Nm.bl_congr (ρ' := ρ.again ρ1 K N sl) (Nm.again_out h2)]; exact h
      have h3 : nx1 ≤ n := by
        by_cases hn : nx1 ≤ n
        · exact hn
        · rw [Nm.bl_none (hF n (by omega) (by omega))] at hb; cases hb
      exact .inr ⟨.inr ⟨by omega, h3⟩, by rw [Nm.bl_congr (ho n (by omega))]; exact hb⟩

end
end Go.Ev
/- A step with its names given anew. -/
namespace Go.Ev

section
variable {ρ ρ1 : Nm} {K : Nat} {sl : List (Option Nat)}

theorem Step.again {w w1 : World} {nx1 : Nat} {d1 d2 h0 : Heap R} (s : Step ρ ρ1 w w1 K nx1 d1 h0) (hF : ∀ n, K ≤ n → n < max nx1 (K + sl.length) → ρ.pl n = none) (hnd : noDups sl = true)
    (hown : ∀ m, some m ∈ sl → ρ1.st m = .own) (hlt : ∀ m, some m ∈ sl → m < nx1) (hold : ∀ m, some m ∈ sl → m < K → (hget d2 m).isSome = true ∧ ρ.st m = .own)
    (hlaid : ∀ n, ¬ (K ≤ n ∧ n < nx1) → (hget d1 n).isSome = true → (hget d2 n).isSome = true) (hmine : ∀ n, (hget d2 n).isSome = true → (K ≤ n ∧ n < K + sl.length) ∨ ρ.st n = .own)
    (hr : HR (ρ.again ρ1 K nx1 sl) (d2 ++ h0) w1) : Step ρ (ρ.again ρ1 K nx1 sl) w w1 K (K + sl.length) d2 h0 where
  inj := by
    constructor
    · intro n b hb
      rcases Nm.again_inv hF s.old hb with ⟨i, m, _, _, h⟩ | ⟨_, h⟩ <;> exact s.inj.lt _ b h
    · intro n m b hn hm s1 s2
      rcases Nm.again_inv hF s.old hn with ⟨i, n', rfl, hi, h1⟩ | ⟨c1, h1⟩
      · rcases Nm.again_inv hF s.old hm with ⟨j, m', rfl, hj, h2⟩ | ⟨c2, h2⟩
        · have e := s.inj.inj n' m' b h1 h2 (hown n' (List.mem_of_getElem? hi)) (by rw [hown m' (List.mem_of_getElem? hj)]; simp)
          subst e
          rw [noDups_inj hnd hi hj]
        · exfalso
          have hmem := List.mem_of_getElem? hi
          rcases c2 with c2 | ⟨c2, c3⟩
          · rw [Nm.again_st_old c2] at s2
            by_cases hc : sl.contains (some m) = true
            · rw [if_pos hc] at s2; exact s2 rfl
            · rw [if_neg hc] at s2
              have := s.inj.inj n' m b h1 h2 (hown n' hmem) s2
              subst this
              exact hc (by simpa using hmem)
          · rw [Nm.again_st_out (by omega), if_neg (by omega)] at s2
            have := s.inj.inj n' m b h1 h2 (hown n' hmem) s2
            have := hlt n' hmem
            omega
      · have own1 : ρ1.st n = .own ∧ some n ∉ sl := by
          rcases c1 with c1 | ⟨c1, c3⟩
          · rw [Nm.again_st_old c1] at s1
            by_cases hc : sl.contains (some n) = true
            · rw [if_pos hc] at s1; cases s1
            · rw [if_neg hc] at s1; exact ⟨s1, by simpa using hc⟩
          · rw [Nm.again_st_out (by omega), if_neg (by omega)] at s1
            exact ⟨s1, fun hh => by have := hlt n hh; omega⟩
        rcases Nm.again_inv hF s.old hm with ⟨j, m', rfl, hj, h2⟩ | ⟨c2, h2⟩
        · exfalso
          have hmem := List.mem_of_getElem? hj
          have := s.inj.inj n m' b h1 h2 own1.1 (by rw [hown m' hmem]; simp)
          subst this
          exact own1.2 hmem
        · refine s.inj.inj n m b h1 h2 own1.1 ?_
          rcases c2 with c2 | ⟨c2, c3⟩
          · rw [Nm.again_st_old c2] at s2
            by_cases hc : sl.contains (some m) = true
            · rw [if_pos hc] at s2; exact absurd rfl s2
            · rw [if_neg hc] at s2; exact s2
          · rw [Nm.again_st_out (by omega), if_neg (by omega)] at s2
            exact s2
  hr := hr
  old n hn := by
    by_cases h : n < K
    · rw [Nm.again_old h, s.old n (by omega)]
    · exact Nm.again_out (by omega)
  st n hn := by
    by_cases h : n < K
    · rw [Nm.again_st_old h]
      by_cases hc : sl.contains (some n) = true
      · rw [if_pos hc]
        obtain ⟨g1, g2⟩ := hold n (by simpa using hc) h
        exact .inr ⟨rfl, g2, g1⟩
      · rw [if_neg hc]
        rcases s.st n (by omega) with g | ⟨g1, g2, g3⟩
        · exact .inl g
        · exact .inr ⟨g1, g2, hlaid n (by omega) g3⟩
    · rw [Nm.again_st_out (by omega)]
      by_cases h2 : n < nx1
      · rw [if_pos h2]; exact .inl rfl
      · rw [if_neg h2]
        rcases s.st n (by omega) with g | ⟨g1, g2, g3⟩
        · exact .inl g
        · exact .inr ⟨g1, g2, hlaid n (by omega) g3⟩
  new n b h1 h2 hb := by
    have old : ∀ m, ρ m = some b → (hget d1 m).isSome = true → (hget d2 m).isSome = true := fun m hm hd => hlaid m (fun c => by rw [Nm.bl_none (hF m c.1 (by omega))] at hm; cases hm) hd
    rcases Nm.again_inv hF s.old hb with ⟨i, m, _, hi, h⟩ | ⟨c, h⟩
    · have hmem := List.mem_of_getElem? hi
      by_cases hm : m < K
      · obtain ⟨g1, g2⟩ := hold m hmem hm
        exact .inr ⟨m, by rw [← Nm.bl_congr (s.old m (by omega))]; exact h, g2, g1⟩
      · rcases s.new m b (by omega) (hlt m hmem) h with g | ⟨m', g1, g2, g3⟩
        · exact .inl g
        · exact .inr ⟨m', g1, g2, old m' g1 g3⟩
    · omega
  own := hmine
  size := s.size
  os := s.os
  tape := s.tape
  output := s.output
  frame b hb hno := s.frame b hb fun n blk hg hn => by
    have hd : (hget d2 n).isSome = true := hlaid n (fun c => by rw [Nm.bl_none (hF n c.1 (by omega))] at hn; cases hn) (by rw [hg]; rfl)
    cases h2 : hget d2 n with
    | none => rw [h2] at hd; cases hd
    | some blk2 => exact hno n blk2 h2 hn
  le := Nat.le_add_right _ _

end
end Go.Ev
/- A state with its names given anew: its temporaries and blocks. -/
namespace Go.Ev

/-- The places that do not change hold what they held. -/
def ecOk (env : List (PD R)) (ctx : List (AV R)) : List TS → List (AV R) → Ct → Prop
  | [], [], _ => True
  | t :: r, v :: s, c => (match t with
    | .env k => v = layV env k c.e
    | .ctx => v = ctx.getD c.c .undef
    | _ => True) ∧ ecOk env ctx r s (t.next c)
  | _, _, _ => False

theorem ltAll_get {K : Nat} : ∀ {l : List (AV R)} {i : Nat}, ltAll K l = true → (l.getD i .undef).lt K = true
  | [], _, _ => rfl
  | v :: r, i, h => by
    have h' : v.lt K = true ∧ ltAll K r = true := by simpa [ltAll] using h
    cases i with
    | zero => exact h'.1
    | succ i => simpa using ltAll_get (l := r) (i := i) h'.2

theorem ecOk_init {env0 : List (PD R)} {ctx0 : List (AV R)} : ∀ {tm : List TS} {vs : List (AV R)} {e : List (PD R)} {x : List (AV R)}, rdEs tm vs = some (e, x) → vs.length = tm.length →
    ∀ preE postE preC postC (c : Ct), env0 = preE ++ (e ++ postE) → ctx0 = preC ++ (x ++ postC) → c.e = preE.length → c.c = preC.length → ecOk env0 ctx0 tm vs c ∧ (nexts tm c).e = preE.length + e.length
  | [], [], e, x, h, _, preE, postE, preC, postC, c, h1, h2, h3, h4 => by simp only [rdEs] at h; cases h; exact ⟨trivial, by simp [nexts, h3]⟩
  | [], _ :: _, _, _, _, hl, _, _, _, _, _, _, _, _, _ => by simp at hl
  | _ :: _, [], _, _, _, hl, _, _, _, _, _, _, _, _, _ => by simp at hl
  | t :: r, v :: s, e, x, h, hl, preE, postE, preC, postC, c, h1, h2, h3, h4 => by
    simp only [rdEs] at h
    split at h
    · rename_i a p b q ha hb
      cases h
      have hl' : s.length = r.length := by simpa using hl
      have next : ∀ c' : Ct, c'.e = preE.length + a.length → c'.c = preC.length + p.length → ecOk env0 ctx0 r s c' ∧ (nexts r c').e = preE.length + (a ++ b).length := by
        intro c' g1 g2
        have := ecOk_init (env0 := env0) (ctx0 := ctx0) hb hl' (preE ++ a) postE (preC ++ p) postC c' (by rw [h1]; simp) (by rw [h2]; simp) (by simp [g1]) (by simp [g2])
        exact ⟨this.1, by rw [this.2]; simp; omega⟩
      cases t with
      | env k =>
        simp only [rdE] at ha
        split at ha
        · rename_i a' hm
          cases ha
          obtain ⟨m1, m2⟩ := matchX_lay k v _ hm
          have n := next (TS.next (.env k) c) (by simp [TS.next, h3, m1]) (by simp [TS.next, h4])
          refine ⟨⟨?_, n.1⟩, n.2⟩
          show v = layV env0 k c.e
          rw [h1, h3, List.append_assoc, m2]
        · cases ha
      | ctx =>
        simp only [rdE] at ha
        cases ha
        have n := next (TS.next .ctx c) (by simp [TS.next, h3]) (by simp [TS.next, h4])
        refine ⟨⟨?_, n.1⟩, n.2⟩
        show v = ctx0.getD c.c .undef
        rw [h2, h4]
        simp
      | var k =>
        simp only [rdE] at ha
        cases ha
        have n := next (TS.next (.var k) c) (by simp [TS.next, h3]) (by simp [TS.next, h4])
        exact ⟨⟨trivial, n.1⟩, n.2⟩
      | slot k z =>
        simp only [rdE] at ha
        cases ha
        have n := next (TS.next (.slot k z) c) (by simp [TS.next, h3]) (by simp [TS.next, h4])
        exact ⟨⟨trivial, n.1⟩, n.2⟩
      | drop =>
        simp only [rdE] at ha
        cases ha
        have n := next (TS.next .drop c) (by simp [TS.next, h3]) (by simp [TS.next, h4])
        exact ⟨⟨trivial, n.1⟩, n.2⟩
    · cases h

theorem rdEs_length : ∀ {tm : List TS} {vs : List (AV R)} {e : List (PD R)} {x : List (AV R)}, rdEs tm vs = some (e, x) → vs.length = tm.length
  | [], [], _, _, _ => rfl
  | [], _ :: _, _, _, h => by simp only [rdEs] at h; cases h
  | _ :: _, [], _, _, h => by simp only [rdEs] at h; cases h
  | t :: r, v :: s, e, x, h => by
    simp only [rdEs] at h
    split at h
    · rename_i ha hb; simp [rdEs_length hb]
    · cases h

theorem ecOk_fill {K : Nat} {env vars : List (PD R)} {ctx : List (AV R)} : ∀ (tm : List TS) (c : Ct), ecOk env ctx tm (fillSs K env vars ctx tm c) c
  | [], _ => trivial
  | t :: r, c => ⟨by cases t <;> first | trivial | rfl, ecOk_fill r _⟩

theorem ecOk_congr {mask : Nat} {env : List (PD R)} {ctx : List (AV R)} : ∀ {tm : List TS} {i : Nat} {xs ys : List (AV R)} {c : Ct}, tsAt mask tm i = true → xs.length = ys.length → (∀ j, mask.testBit (i + j) = false → ys[j]? = xs[j]?) → ecOk env ctx tm xs c → ecOk env ctx tm ys c
  | [], _, [], [], _, _, _, _, _ => trivial
  | [], _, [], _ :: _, _, _, hl, _, _ => by simp at hl
  | [], _, _ :: _, _, _, _, _, _, h => by cases h
  | _ :: _, _, [], _, _, _, _, _, h => by cases h
  | _ :: _, _, _ :: _, [], _, _, hl, _, _ => by simp at hl
  | t :: r, i, x :: xs, y :: ys, c, ha, hl, hj, ⟨h1, h2⟩ => by
    have ha' : t.at mask i = true ∧ tsAt mask r (i + 1) = true := by simpa [tsAt] using ha
    refine ⟨?_, ecOk_congr ha'.2 (by simpa using hl) (fun j hjj => by have := hj (j + 1) (by rw [← hjj]; congr 1; omega); simpa using this) h2⟩
    have hb : mask.testBit i = false → y = x := fun hb => by have := hj 0 (by simpa using hb); simpa using this
    cases t with
    | env k => rw [hb (by simpa [TS.at] using ha'.1)]; exact h1
    | ctx => rw [hb (by simpa [TS.at] using ha'.1)]; exact h1
    | var k => trivial
    | slot k z => trivial
    | drop => trivial

theorem ecOk_agree {mask K : Nat} {env vars : List (PD R)} {ctx : List (AV R)} : ∀ {tm : List TS} {i : Nat} {xs : List (AV R)} {c c' : Ct}, tsAt mask tm i = true → ecOk env ctx tm xs c → c'.e = c.e → c'.c = c.c →
    (fillSs K env vars ctx tm c').length = xs.length ∧ ∀ j, mask.testBit (i + j) = false → (fillSs K env vars ctx tm c')[j]? = xs[j]?
  | [], _, [], _, _, _, _, _, _ => ⟨rfl, fun _ _ => rfl⟩
  | [], _, _ :: _, _, _, _, h, _, _ => by cases h
  | _ :: _, _, [], _, _, _, h, _, _ => by cases h
  | t :: r, i, x :: xs, c, c', ha, ⟨h1, h2⟩, e1, e2 => by
    have ha' : t.at mask i = true ∧ tsAt mask r (i + 1) = true := by simpa [tsAt] using ha
    obtain ⟨g1, g2⟩ := ecOk_agree (K := K) (vars := vars) (c' := t.next c') ha'.2 h2 (by cases t <;> simp [TS.next, e1]) (by cases t <;> simp [TS.next, e2])
    refine ⟨by simp [fillSs, g1], fun j hj => ?_⟩
    cases j with
    | zero =>
      have hb : mask.testBit i = false := by simpa using hj
      simp only [fillSs, List.getElem?_cons_zero, Option.some.injEq]
      cases t with
      | env k => simp only [fillS, e1]; exact h1.symm
      | ctx => simp only [fillS, e2]; exact h1.symm
      | var k => simp [TS.at, hb] at ha'
      | slot k z => simp [TS.at, hb] at ha'
      | drop => simp [TS.at, hb] at ha'
    | succ j =>
      simp only [fillSs, List.getElem?_cons_succ]
      exact g2 j (by rw [← hj]; congr 1; omega)

theorem ecOk_length {env : List (PD R)} {ctx : List (AV R)} : ∀ {tm : List TS} {xs : List (AV R)} {c : Ct}, ecOk env ctx tm xs c → xs.length = tm.length
  | [], [], _, _ => rfl
  | [], _ :: _, _, h => by cases h
  | _ :: _, [], _, h => by cases h
  | t :: r, x :: xs, c, ⟨_, h⟩ => by simp [ecOk_length h]

theorem ecOk_mut : ∀ {tm : List TS} {xs : List (AV R)} {c : Ct}, tsMut tm = true → xs.length = tm.length → ecOk [] [] tm xs c
  | [], [], _, _, _ => trivial
  | [], _ :: _, _, _, h => by simp at h
  | _ :: _, [], _, _, h => by simp at h
  | t :: r, x :: xs, c, hm, hl => by
    have hm' : t.mut = true ∧ tsMut r = true := by simpa [tsMut] using hm
    refine ⟨?_, ecOk_mut hm'.2 (by simpa using hl)⟩
    cases t <;> first | trivial | (simp [TS.mut] at hm')

theorem rdSs_length {D : Dom} : ∀ {tm : List TS} {vs : List (AV D)} {s : List (Option Nat)} {p : List (PD D)}, rdSs tm vs = some (s, p) → vs.length = tm.length
  | [], [], _, _, _ => rfl
  | [], _ :: _, _, _, h => by simp only [rdSs] at h; cases h
  | _ :: _, [], _, _, h => by simp only [rdSs] at h; cases h
  | t :: r, v :: s, e, x, h => by
    simp only [rdSs] at h
    split at h
    · rename_i ha hb; simp [rdSs_length hb]
    · cases h

/-- What stands behind the slots. -/
structure Rows (K : Nat) (ρ1 ρ' : Nm) (vars : List (PD R)) (sl : List (Option Nat)) : Prop where
  same : Same K ρ1 ρ'
  pl : ∀ i o, sl[i]? = some o → ρ'.pl (K + i) = slotP ρ1 o
  len : ∀ i m, sl[i]? = some (some m) → ∃ p, ρ1.pl m = some p ∧ (nthL (D := R) vars i).length = p.len
  nil : ∀ i, sl[i]? = some none → nthL (D := R) vars i = []

section
variable {K : Nat} {ρ1 ρ' : Nm} {vars : List (PD R)} {sl : List (Option Nat)}

theorem rdS_sound (hr : Rows K ρ1 ρ' vars sl) {env : List (PD R)} {ctx : List (AV R)} {t : TS} {v : AV R} {s : List (Option Nat)} {p : List (PD R)} (h : rdS t v = some (s, p)) (hlt : t.lt K = true) (hm : t.mut = true) {u : Value} (hv : VR ρ1 v u)
    {preS postS : List (Option Nat)} {preV postV : List (PD R)} {c : Ct} (h1 : sl = preS ++ (s ++ postS)) (h2 : vars = preV ++ (p ++ postV)) (h3 : c.s = preS.length) (h4 : c.v = preV.length) :
    VR ρ' (fillS K env vars ctx t c) u := by
  cases t with
  | env k => cases hm
  | ctx => cases hm
  | drop => trivial
  | var k =>
    simp only [rdS] at h
    split at h
    · rename_i p' hp
      cases h
      obtain ⟨m1, m2⟩ := matchX_lay k _ _ hp
      have e : fillS K env vars ctx (.var k) c = symV v := by
        show layV vars k c.v = _
        rw [h2, h4, m2]
      rw [e]
      refine VR.below hr.same _ _ ?_ (symV_le v _ _ hv)
      rw [← e]
      show (layV vars k c.v).lt K = true
      rw [layV_lt]
      exact hlt
    · cases h
  | slot ks sz =>
    unfold rdS at h
    split at h
    · rename_i heq; cases heq
    · rename_i n z q heq
      cases heq
      split at h
      · rename_i hq
        cases h
        have hi : sl[c.s]? = some (some n) := by rw [h1, h3]; simp
        obtain ⟨p, base, cap, hp, hu, hs⟩ := hv
        obtain ⟨p', hp', hlen⟩ := hr.len _ _ hi
        rw [hp] at hp'
        cases hp'
        have hz : (R.llen (nthL (D := R) vars c.s) : Int) = z := by
          show ((nthL (D := R) vars c.s).length : Int) = z
          rw [hlen]
          have hw := (hs.whole rfl).2.1
          have hl0 : (0 : Int) ≤ z := hs.len0
          have e : (z : Int).toNat = p.len := hw
          rw [← e]
          exact Int.toNat_of_nonneg hl0
        show ∃ p base cap, ρ'.pl (K + c.s) = some p ∧ u = .slice base (R.llen (nthL (D := R) vars c.s)).toNat cap ∧ SR p .whole none (R.llen (nthL (D := R) vars c.s)) sz base cap
        rw [hz]
        subst hq
        exact ⟨p, base, cap, by rw [hr.pl _ _ hi]; exact hp, hu, hs⟩
      · cases h
    · rename_i heq
      cases heq
      cases h
      have hi : sl[c.s]? = some none := by rw [h1, h3]; simp
      have hu : u = .slice none 0 0 := hv
      show ∃ p base cap, ρ'.pl (K + c.s) = some p ∧ u = .slice base (R.llen (nthL (D := R) vars c.s)).toNat cap ∧ SR p .whole none (R.llen (nthL (D := R) vars c.s)) sz base cap
      rw [hr.nil _ hi]
      exact ⟨nilP, none, 0, hr.pl _ _ hi, hu, ⟨by decide, by decide, by decide, by decide, by decide, by decide, fun _ => rfl, fun _ => ⟨rfl, rfl, Nat.le_refl _⟩, fun h => (by cases h), fun _ => rfl⟩⟩
    · cases h
    · rename_i heq; cases heq
    · rename_i heq; cases heq
    · rename_i heq; cases heq

theorem rdS_next {t : TS} {v : AV R} {s : List (Option Nat)} {p : List (PD R)} (h : rdS t v = some (s, p)) (c : Ct) : (t.next c).s = c.s + s.length ∧ (t.next c).v = c.v + p.length := by
  cases t with
  | env k => simp only [rdS] at h; cases h; exact ⟨rfl, rfl⟩
  | ctx => simp only [rdS] at h; cases h; exact ⟨rfl, rfl⟩
  | drop => simp only [rdS] at h; cases h; exact ⟨rfl, rfl⟩
  | var k =>
    simp only [rdS] at h
    split at h
    · rename_i p' hp; cases h; exact ⟨rfl, by rw [(matchX_lay k _ _ hp).1]; rfl⟩
    · cases h
  | slot ks sz =>
    unfold rdS at h
    split at h
    · rename_i heq; cases heq
    · split at h
      · cases h; exact ⟨rfl, rfl⟩
      · cases h
    · cases h; exact ⟨rfl, rfl⟩
    · cases h
    · rename_i heq; cases heq
    · rename_i heq; cases heq
    · rename_i heq; cases heq

theorem rdSs_next : ∀ {tm : List TS} {vs : List (AV R)} {s : List (Option Nat)} {p : List (PD R)} (_ : rdSs tm vs = some (s, p)) (c : Ct), (nexts tm c).s = c.s + s.length ∧ (nexts tm c).v = c.v + p.length
  | [], [], _, _, h, c => by simp only [rdSs] at h; cases h; exact ⟨rfl, rfl⟩
  | [], _ :: _, _, _, h, _ => by simp only [rdSs] at h; cases h
  | _ :: _, [], _, _, h, _ => by simp only [rdSs] at h; cases h
  | t :: r, v :: vs, s, p, h, c => by
    simp only [rdSs] at h
    split at h
    · rename_i a p b q ha hb
      cases h
      obtain ⟨g1, g2⟩ := rdS_next ha c
      obtain ⟨k1, k2⟩ := rdSs_next hb (t.next c)
      simp only [nexts, k1, k2, g1, g2, List.length_append]
      omega
    · cases h

/-- Temporaries, or the cells of a block. -/
theorem rdSs_sound (hr : Rows K ρ1 ρ' vars sl) {env : List (PD R)} {ctx : List (AV R)} (hctx : ltAll K ctx = true) : ∀ {tm : List TS} {vs : List (AV R)} {s : List (Option Nat)} {p : List (PD R)} (_ : rdSs tm vs = some (s, p)) (_ : tsLt K tm = true) {us : List Value} (_ : VRs ρ1 vs us)
    {preS postS : List (Option Nat)} {preV postV : List (PD R)} {c : Ct} (_ : ecOk env ctx tm vs c) (_ : sl = preS ++ (s ++ postS)) (_ : vars = preV ++ (p ++ postV)) (_ : c.s = preS.length) (_ : c.v = preV.length),
    VRs ρ' (fillSs K env vars ctx tm c) us
  | [], [], _, _, _, _, us, hv, _, _, _, _, _, _, _, _, _, _ => by have := hv.nil_inv; subst this; trivial
  | [], _ :: _, _, _, h, _, _, _, _, _, _, _, _, _, _, _, _, _ => by simp only [rdSs] at h; cases h
  | _ :: _, [], _, _, h, _, _, _, _, _, _, _, _, _, _, _, _, _ => by simp only [rdSs] at h; cases h
  | t :: r, v :: vs, s, p, h, hlt, us, hv, preS, postS, preV, postV, c, ⟨e1, e2⟩, h1, h2, h3, h4 => by
    simp only [rdSs] at h
    split at h
    · rename_i a p b q ha hb
      cases h
      have hlt' : t.lt K = true ∧ tsLt K r = true := by simpa [tsLt] using hlt
      obtain ⟨u, ws, rfl, hu, hws⟩ := hv.cons_inv
      obtain ⟨g1, g2⟩ := rdS_next ha c
      refine ⟨?_, rdSs_sound hr hctx hb hlt'.2 hws (preS := preS ++ a) (postS := postS) (preV := preV ++ p) (postV := postV) e2 (by rw [h1]; simp) (by rw [h2]; simp) (by rw [g1, h3]; simp) (by rw [g2, h4]; simp)⟩
      cases t with
      | env k =>
        have e1' : v = layV env k c.e := e1
        show VR ρ' (layV env k c.e) u
        rw [← e1']
        exact VR.below hr.same _ _ (by rw [e1', layV_lt]; exact hlt'.1) hu
      | ctx =>
        have e1' : v = ctx.getD c.c .undef := e1
        show VR ρ' (ctx.getD c.c .undef) u
        rw [← e1']
        exact VR.below hr.same _ _ (by rw [e1']; exact ltAll_get hctx) hu
      | var k => exact rdS_sound hr ha hlt'.1 rfl hu (postS := b ++ postS) (postV := q ++ postV) (by rw [h1]; simp) (by rw [h2]; simp) h3 h4
      | slot k z => exact rdS_sound hr ha hlt'.1 rfl hu (postS := b ++ postS) (postV := q ++ postV) (by rw [h1]; simp) (by rw [h2]; simp) h3 h4
      | drop => trivial
    · cases h

end
end Go.Ev
/- A state with its names given anew: its memory, and the whole. -/
namespace Go.Ev

theorem BlkR.under {K n : Nat} {ρ ρ' : Nm} {w : World} {blk : List (AV R)} (h : BlkR ρ n w blk) (hs : Same K ρ ρ') (hn : n < K) (hst : ρ'.st n = ρ.st n) (hl : ltAll K blk = true) : BlkR ρ' n w blk := by
  induction h with
  | gh h1 h2 ih => exact .gh h1 fun hc => ih hc (by simpa [ltAll, AV.lt] using hl)
  | nothing => exact .nothing
  | plain h1 h2 h3 h4 => exact .plain (by rw [hs.bl hn]; exact h1) (hst.trans h2) h3 (VRs.below hs _ _ hl h4)
  | row h1 h2 h3 h4 h5 => exact .row (by rw [hs n hn]; exact h1) (by rw [hst]; exact h2) (by rw [hst]; exact h3) h4 h5

theorem rowAt_get {D : Dom} {h : Heap D} {n : Nat} {ro : Bool} {ks : List CK} {l : D.L} (hr : rowAt h n = some (ro, ks, l)) : hget h n = some [.row ro ks l] := by
  unfold rowAt at hr
  split at hr
  · rename_i heq; cases hr; exact heq
  · cases hr

/-- The names that are laid. -/
def vhNames (vh : List (Nat × BS)) : List Nat := vh.map (·.1)

section
variable {K : Nat} {ρ1 ρ' : Nm} {vars : List (PD R)} {sl : List (Option Nat)} {w1 : World} {h1 : Heap R}

theorem rdB_next : ∀ {vh : List (Nat × BS)} {s : List (Option Nat)} {p : List (PD R)}, rdB h1 vh = some (s, p) → s.length = (slotsB vh).length
  | [], _, _, h => by simp only [rdB] at h; cases h; rfl
  | (n, .cells l) :: r, s, p, h => by
    simp only [rdB] at h
    split at h
    · split at h
      · cases h
      · split at h
        · rename_i a p b q ha hb
          cases h
          have hl : ∀ {tm : List TS} {vs : List (AV R)} {s : List (Option Nat)} {p : List (PD R)}, rdSs tm vs = some (s, p) → s.length = (slotsT tm).length := by
            intro tm
            induction tm with
            | nil => intro vs s p h; cases vs <;> simp only [rdSs] at h <;> cases h; rfl
            | cons t tm ih =>
              intro vs s p h
              cases vs with
              | nil => simp only [rdSs] at h; cases h
              | cons v vs =>
                simp only [rdSs] at h
                split at h
                · rename_i a p b q ha hb
                  cases h
                  have := ih hb
                  have g := (rdS_next ha ⟨0, 0, 0, 0⟩).1
                  cases t with
                  | slot ks z => simp only [TS.next] at g; simp [slotsT, this]; omega
                  | env k => simp only [TS.next] at g; simp [slotsT, this]; exact List.eq_nil_of_length_eq_zero (by omega)
                  | var k => simp only [TS.next] at g; simp [slotsT, this]; exact List.eq_nil_of_length_eq_zero (by omega)
                  | drop => simp only [TS.next] at g; simp [slotsT, this]; exact List.eq_nil_of_length_eq_zero (by omega)
                  | ctx => simp only [TS.next] at g; simp [slotsT, this]; exact List.eq_nil_of_length_eq_zero (by omega)
                · cases h
          simp only [slotsB, List.length_append, hl ha, rdB_next hb]
        · cases h
    · cases h
  | (n, .row ks) :: r, s, p, h => by
    simp only [rdB] at h
    split at h
    · rename_i js l b q ha hb
      split at h
      · cases h; exact (rdB_next hb : _ = (slotsB r).length)
      · cases h
    · cases h

theorem rdRows_spec : ∀ {ks : List (List CK)} {s : List (Option Nat)} {q : List (PD R)}, rdRows h1 ks s = some q → s.length = ks.length ∧ q.length = ks.length ∧
    ∀ (i : Nat) o, s[i]? = some o → match o with
      | some m => ∃ k l, ks[i]? = some k ∧ q[i]? = some (.l l) ∧ hget h1 m = some [.row false k l]
      | none => ∃ k, ks[i]? = some k ∧ q[i]? = some (.l [])
  | [], [], q, h => by simp only [rdRows] at h; cases h; exact ⟨rfl, rfl, fun i o ho => by simp at ho⟩
  | [], _ :: _, _, h => by simp only [rdRows] at h; cases h
  | _ :: _, [], _, h => by simp only [rdRows] at h; cases h
  | k :: ks, some n :: s, q, h => by
    simp only [rdRows] at h
    split at h
    · rename_i js l q' ha hb
      split at h
      · rename_i e
        cases h
        obtain ⟨g1, g2, g3⟩ := rdRows_spec hb
        refine ⟨by simp [g1], by simp [g2], fun i o ho => ?_⟩
        cases i with
        | zero => simp at ho; subst ho; exact ⟨_, _, rfl, rfl, by rw [← e]; exact rowAt_get ha⟩
        | succ i => have := g3 i o (by simpa using ho); simpa using this
      · cases h
    · cases h
  | k :: ks, none :: s, q, h => by
    simp only [rdRows] at h
    split at h
    · rename_i q' hb
      cases h
      obtain ⟨g1, g2, g3⟩ := rdRows_spec hb
      refine ⟨by simp [g1], by simp [g2], fun i o ho => ?_⟩
      cases i with
      | zero => simp at ho; subst ho; exact ⟨_, rfl, rfl⟩
      | succ i => have := g3 i o (by simpa using ho); simpa using this
    · cases h

theorem RowAt.nil (ks : List CK) (w : World) : RowAt ks [] nilP w := ⟨rfl, (fun _ h => nomatch h), Nat.le_refl _, .inl ⟨rfl, rfl⟩⟩

/-- The blocks that are laid. -/
theorem rdB_sound (hr : Rows K ρ1 ρ' vars sl) (hH : HR ρ1 h1 w1) (hst : ∀ n, n < K → some n ∉ sl → ρ'.st n = ρ1.st n) {dead : List Nat} (hdead : ∀ n, n < K → some n ∈ sl → dead.contains n = true) :
    ∀ {vh : List (Nat × BS)} {s : List (Option Nat)} {p : List (PD R)} (_ : rdB h1 vh = some (s, p)) (_ : vhOk K dead vh = true) {preS postS : List (Option Nat)} {preV postV : List (PD R)} {c : Ct}
      (_ : sl = preS ++ (s ++ postS)) (_ : vars = preV ++ (p ++ postV)) (_ : c.s = preS.length) (_ : c.v = preV.length),
      ∀ n blk, hget (fillB K vars vh c) n = some blk → BlkR ρ' n w1 blk
  | [], _, _, _, _, _, _, _, _, _, _, _, _, _, n, blk, hb => by simp [fillB, hget] at hb
  | (m, .cells l) :: r, s, p, h, hok, preS, postS, preV, postV, c, e1, e2, e3, e4, n, blk, hb => by
    simp only [rdB] at h
    split at h
    · rename_i b0 hg
      split at h
      · cases h
      · rename_i hsh
        split at h
        · rename_i a p sb q ha hb'
          cases h
          have hok' : (((m < K ∧ m ∉ dead) ∧ tsLt K l = true) ∧ tsMut l = true) ∧ vhOk K dead r = true := by simpa [vhOk] using hok
          obtain ⟨⟨⟨⟨hmK, hmd⟩, hlt⟩, hmut⟩, hrest⟩ := hok'
          have hnd : some m ∉ sl := fun hm => by have := hdead m hmK hm; simp at this; exact hmd this
          simp only [fillB, hget] at hb
          by_cases e : (m == n) = true
          · have : m = n := by simpa using e
            subst this
            rw [if_pos e] at hb
            cases hb
            obtain ⟨b, cs, ty, k1, k2, k3, k4⟩ := (hH m b0 hg).open (by simpa using hsh)
            refine .plain (b := b) (cs := cs) (ty := ty) (by rw [hr.same.bl hmK]; exact k1) (by rw [hst m hmK hnd]; exact k2) k3 ?_
            have hec : ecOk [] [] l b0 c := ecOk_mut hmut (rdSs_length ha)
            exact rdSs_sound hr (env := []) (ctx := []) rfl ha hlt k4 (preS := preS) (postS := sb ++ postS) (preV := preV) (postV := q ++ postV) hec (by rw [e1]; simp) (by rw [e2]; simp) e3 e4
          · rw [if_neg e] at hb
            obtain ⟨g1, g2⟩ := rdSs_next ha c
            exact rdB_sound hr hH hst hdead hb' hrest (preS := preS ++ a) (postS := postS) (preV := preV ++ p) (postV := postV) (c := nexts l c) (by rw [e1]; simp) (by rw [e2]; simp) (by rw [g1, e3]; simp) (by rw [g2, e4]; simp) n blk hb
        · cases h
    · cases h
  | (m, .row ks) :: r, s, p, h, hok, preS, postS, preV, postV, c, e1, e2, e3, e4, n, blk, hb => by
    simp only [rdB] at h
    split at h
    · rename_i js l b q ha hb'
      split at h
      · rename_i ej
        subst ej
        cases h
        have hok' : (m < K ∧ m ∉ dead) ∧ vhOk K dead r = true := by simpa [vhOk] using hok
        obtain ⟨⟨hmK, hmd⟩, hrest⟩ := hok'
        have hnd : some m ∉ sl := fun hm => by have := hdead m hmK hm; simp at this; exact hmd this
        simp only [fillB, hget] at hb
        by_cases e : (m == n) = true
        · have : m = n := by simpa using e
          subst this
          rw [if_pos e] at hb
          cases hb
          obtain ⟨p, k1, k2, k3, k4⟩ := (hH m _ (rowAt_get ha)).openRow
          have hv : nthL (D := R) vars c.v = l := by
            unfold nthL
            rw [e2, e4]; simp
          rw [hv]
          exact .row (by rw [hr.same m hmK]; exact k1) (by rw [hst m hmK hnd]; exact k2) (by rw [hst m hmK hnd]; exact k3) k4 fun _ => (hH m _ (rowAt_get ha)).clear k1
        · rw [if_neg e] at hb
          exact rdB_sound hr hH hst hdead hb' hrest (preS := preS) (postS := postS) (preV := preV ++ [.l l]) (postV := postV) (c := ⟨c.e, c.v + 1, c.c, c.s⟩) e1 (by rw [e2]; simp) e3 (by simp [e4]) n blk hb
      · cases h
    · cases h

end

theorem rowsS_get {D : Dom} (K : Nat) (vars : List (PD D)) : ∀ (ks : List (List CK)) (i n : Nat), hget (rowsS K vars ks i) n = (if K + i ≤ n ∧ n < K + i + ks.length then (ks[n - (K + i)]?).map fun k => [.row false k (nthL vars (n - K))] else none)
  | [], i, n => by simp only [rowsS, hget]; split <;> simp
  | k :: ks, i, n => by
    simp only [rowsS, hget]
    by_cases e : (K + i == n) = true
    · have : K + i = n := by simpa using e
      subst this
      rw [if_pos e, if_pos (by simp)]
      simp
    · have hne : K + i ≠ n := by simpa using e
      rw [if_neg e, rowsS_get K vars ks (i + 1) n]
      by_cases hn : K + i ≤ n ∧ n < K + i + (k :: ks).length
      · rw [if_pos hn, if_pos (by simp at hn; omega)]
        have : n - (K + i) = (n - (K + (i + 1))) + 1 := by omega
        rw [this, List.getElem?_cons_succ]
      · rw [if_neg hn, if_neg (by simp at hn; omega)]

theorem fillB_some {D : Dom} (K : Nat) (vars : List (PD D)) : ∀ (vh : List (Nat × BS)) (c : Ct) (n : Nat), (hget (fillB K vars vh c) n).isSome = vh.any fun p => p.1 == n
  | [], _, _ => rfl
  | (m, .cells l) :: r, c, n => by
    simp only [fillB, hget, List.any_cons]
    cases e : (m == n)
    · simp [fillB_some K vars r]
    · simp
  | (m, .row ks) :: r, c, n => by
    simp only [fillB, hget, List.any_cons]
    cases e : (m == n)
    · simp [fillB_some K vars r]
    · simp

theorem deads_some {D : Dom} (l : List Nat) (n : Nat) : hget (D := D) (l.map fun n => (n, [])) n = if l.contains n then some [] else none := by
  induction l with
  | nil => simp [hget]
  | cons m r ih =>
    simp only [List.map_cons, hget, List.contains_cons]
    cases e : (m == n)
    · have : (n == m) = false := by simp at e ⊢; exact fun h => e h.symm
      simp only [this, Bool.false_or, Bool.false_eq_true, if_false, ih]
    · have : (n == m) = true := by simp at e ⊢; exact e.symm
      simp [this]

theorem HSh.d_some (sh : HSh) {D : Dom} (vars : List (PD D)) (n : Nat) : (hget (sh.d vars) n).isSome = true ↔ sh.listed n = true ∨ (sh.K ≤ n ∧ n < sh.K + sh.slots.length) := by
  unfold HSh.d HSh.listed
  have happ : ∀ (a b : Heap D), (hget (a ++ b) n).isSome = ((hget a n).isSome || (hget b n).isSome) := by
    intro a b
    induction a with
    | nil => simp [hget]
    | cons p r ih =>
      obtain ⟨m, bl⟩ := p
      simp only [List.cons_append, hget]
      by_cases e : (m == n) = true
      · simp [e]
      · simp [e, ih]
  rw [happ, happ, fillB_some, rowsS_get, deads_some]
  simp only [Nat.add_zero, Bool.or_eq_true]
  constructor
  · rintro (h | h | h)
    · exact .inl (.inl h)
    · split at h
      · rename_i e; exact .inr e
      · cases h
    · split at h
      · rename_i e; exact .inl (.inr e)
      · cases h
  · rintro ((h | h) | h)
    · exact .inl h
    · exact .inr (.inr (by rw [if_pos h]; rfl))
    · refine .inr (.inl ?_)
      rw [if_pos h]
      have : n - sh.K < sh.slots.length := by omega
      rw [List.getElem?_eq_getElem this]
      rfl

theorem ehOk_mem {K : Nat} : ∀ {eh : List (Nat × List (AV KD))}, ehOk K eh = true → ∀ (env : List (PD R)) (i n : Nat) blk, hget (fillE env eh i) n = some blk → n < K ∧ ltAll K blk = true
  | [], _, _, _, _, _, h => by simp [fillE, hget] at h
  | (m, l) :: r, hok, env, i, n, blk, h => by
    have hok' : (m < K ∧ ltAll K l = true) ∧ ehOk K r = true := by simpa [ehOk] using hok
    simp only [fillE, hget] at h
    by_cases e : (m == n) = true
    · have : m = n := by simpa using e
      subst this
      rw [if_pos e] at h
      cases h
      exact ⟨hok'.1.1, by rw [layVs_lt]; exact hok'.1.2⟩
    · rw [if_neg e] at h
      exact ehOk_mem hok'.2 env _ n blk h

/-- A state at the head of a loop, its names given anew. -/
theorem canon_step {sh : HSh} {mask : Nat} (hok : sh.ok mask = true) {ρ ρ1 : Nm} {w w1 : World} {nx1 : Nat} {d1 h1 : Heap R} {env vars : List (PD R)} {ctx tm1 : List (AV R)} {sl : List (Option Nat)} {us : List Value}
    (s : Step ρ ρ1 w w1 sh.K nx1 d1 (sh.he env)) (hF : Fresh ρ sh.K sh.N) (hnx : nx1 ≤ sh.N) (hc : sh.canon tm1 h1 = some (sl, vars)) (hec : ecOk env ctx sh.tm tm1 sh.ct) (hctx : ltAll sh.K ctx = true)
    (hH : HR ρ1 h1 w1) (htm : VRs ρ1 tm1 us) (hnd : noDups sl = true) (hlt : ∀ m, some m ∈ sl → m < nx1) (hold : ∀ m, some m ∈ sl → m < sh.K → sh.dead.contains m = true ∧ ρ.st m = .own)
    (hlaid : ∀ n, ¬ (sh.K ≤ n ∧ n < nx1) → (hget d1 n).isSome = true → sh.listed n = true) (hmine : ∀ n, sh.listed n = true → ρ.st n = .own) :
    ∃ ρ', VRs ρ' (sh.tmF env vars ctx) us ∧ Step ρ ρ' w w1 sh.K (sh.K + sh.slots.length) (sh.d vars) (sh.he env) := by
  unfold HSh.ok at hok
  simp only [Bool.and_eq_true, decide_eq_true_eq] at hok
  obtain ⟨⟨⟨⟨⟨o1, o2⟩, o3⟩, o4⟩, o5⟩, o6⟩ := hok
  unfold HSh.canon at hc
  split at hc
  case h_2 => cases hc
  rename_i a p b q ha hb
  split at hc
  case h_2 => cases hc
  rename_i r hrr
  have hc' := Option.some.inj hc
  simp only [Prod.mk.injEq] at hc'
  obtain ⟨esl, evars⟩ := hc'
  obtain ⟨r1, r2, r3⟩ := rdRows_spec hrr
  rw [esl] at r1 r3
  have hslen : sl.length = sh.slots.length := r1
  have pl0 : ∀ i o, sl[i]? = some o → (ρ.again ρ1 sh.K nx1 sl).pl (sh.K + i) = slotP ρ1 o := fun i o h => Nm.again_slot h
  have same : Same sh.K ρ1 (ρ.again ρ1 sh.K nx1 sl) := fun n hn => Nm.again_old hn
  have vget : ∀ i, i < r.length → vars[i]? = r[i]? := fun i hi => by rw [← evars, List.getElem?_append_left hi]
  have hidx : ∀ {i : Nat} {o : Option Nat}, sl[i]? = some o → i < r.length := fun {i o} h => by
    have := (List.getElem?_eq_some_iff.1 h).1
    omega
  have rows : Rows sh.K ρ1 (ρ.again ρ1 sh.K nx1 sl) vars sl := by
    refine ⟨same, pl0, fun i m h => ?_, fun i h => ?_⟩
    · obtain ⟨k, l, g1, g2, g3⟩ := r3 i _ h
      obtain ⟨p, k1, k2, k3, k4⟩ := (hH m _ g3).openRow
      refine ⟨p, k1, ?_⟩
      have : nthL (D := R) vars i = l := by unfold nthL; rw [vget i (hidx h), g2]
      rw [this]; exact k4.len
    · obtain ⟨k, g1, g2⟩ := r3 i _ h
      unfold nthL; rw [vget i (hidx h), g2]
  have rown : ∀ m, some m ∈ sl → ∃ k l p, hget h1 m = some [.row false k l] ∧ ρ1.pl m = some p ∧ p.off = 0 ∧ ρ1.st m = .own ∧ RowAt k l p w1 := fun m hm => by
    obtain ⟨i, hi⟩ := List.getElem?_of_mem hm
    obtain ⟨k, l, g1, g2, g3⟩ := r3 i _ hi
    obtain ⟨p, k1, k2, k3, k4⟩ := (hH m _ g3).openRow
    exact ⟨k, l, p, g3, k1, (k3 rfl).1, (k3 rfl).2, k4⟩
  have hst : ∀ n, n < sh.K → some n ∉ sl → (ρ.again ρ1 sh.K nx1 sl).st n = ρ1.st n := fun n hn hno => by
    rw [Nm.again_st_old hn, if_neg (by simpa using hno)]
  have hdead : ∀ n, n < sh.K → some n ∈ sl → sh.dead.contains n = true := fun n hn hm => (hold n hm hn).1
  have hct : sh.ct.s = ([] : List (Option Nat)).length ∧ sh.ct.v = r.length := ⟨rfl, r2.symm⟩
  obtain ⟨n1, n2⟩ := rdSs_next ha sh.ct
  refine ⟨ρ.again ρ1 sh.K nx1 sl, ?_, ?_⟩
  · exact rdSs_sound rows hctx ha o1 htm (preS := []) (postS := b) (preV := r) (postV := q) hec (by rw [← esl]; rfl) (by rw [← evars]) hct.1 hct.2
  · have := Step.again (sl := sl) (d2 := sh.d vars) s (fun n c1 c2 => hF n c1 (by rw [hslen] at c2; omega)) hnd (fun m hm => by obtain ⟨_, _, _, _, _, _, h, _⟩ := rown m hm; exact h) hlt
      (fun m hm hK => ⟨(sh.d_some vars m).2 (.inl (by unfold HSh.listed; rw [hdead m hK hm, Bool.or_true])), (hold m hm hK).2⟩)
      (fun n hn hs => (sh.d_some vars n).2 (.inl (hlaid n hn hs)))
      (fun n hs => by
        rcases (sh.d_some vars n).1 hs with g | g
        · exact .inr (hmine n g)
        · exact .inl (by rw [hslen]; exact g))
      ?_
    · rw [hslen] at this; exact this
    · intro n blk hg
      rw [hget_append] at hg
      cases hd : hget (sh.d vars) n with
      | some bl =>
        rw [hd] at hg
        cases hg
        unfold HSh.d at hd
        rw [hget_append] at hd
        cases hb1 : hget (fillB sh.K vars sh.vh (nexts sh.tm sh.ct)) n with
        | some bl1 =>
          rw [hb1] at hd
          cases hd
          exact rdB_sound rows hH hst hdead hb o3 (preS := a) (postS := []) (preV := r ++ p) (postV := []) (by rw [← esl]; simp) (by rw [← evars]; simp) (by rw [n1, hct.1]; simp) (by rw [n2, hct.2]; simp) n _ hb1
        | none =>
          rw [hb1, Option.none_or, hget_append] at hd
          cases hb2 : hget (rowsS sh.K vars sh.slots 0) n with
          | some bl2 =>
            rw [hb2] at hd
            cases hd
            rw [rowsS_get] at hb2
            split at hb2
            · rename_i hn
              have hi : n - sh.K < sl.length := by omega
              have hn' : sh.K + (n - sh.K) = n := by omega
              have hs := List.getElem?_eq_getElem hi
              have hpl := pl0 _ _ hs
              have hsti := Nm.again_st_slot (ρ := ρ) (ρ1 := ρ1) (K := sh.K) (N := nx1) (sl := sl) hi
              rw [hn'] at hpl hsti
              cases ho : sl[n - sh.K] with
              | some m =>
                rw [ho] at hs hpl
                obtain ⟨k, l, g1, g2, g3⟩ := r3 _ _ hs
                obtain ⟨p, k1, k2, k3, k4⟩ := (hH m _ g3).openRow
                have hv : nthL (D := R) vars (n - sh.K) = l := by unfold nthL; rw [vget _ (hidx hs), g2]
                simp only [Nat.add_zero, g1, Option.map_some, hv] at hb2
                cases hb2
                exact .row (hpl.trans k1) (by rw [hsti]; simp) (fun _ => ⟨(k3 rfl).1, hsti⟩) k4 fun _ => (hH m _ g3).clear k1
              | none =>
                rw [ho] at hs hpl
                obtain ⟨k, g1, g2⟩ := r3 _ _ hs
                have hv : nthL (D := R) vars (n - sh.K) = [] := by unfold nthL; rw [vget _ (hidx hs), g2]
                simp only [Nat.add_zero, g1, Option.map_some, hv] at hb2
                cases hb2
                exact .row hpl (by rw [hsti]; simp) (fun _ => ⟨rfl, hsti⟩) (RowAt.nil k w1) fun _ => Clear.none rfl
            · cases hb2
          | none =>
            rw [hb2, Option.none_or, deads_some] at hd
            split at hd
            · cases hd; exact .nothing
            · cases hd
      | none =>
        rw [hd, Option.none_or] at hg
        obtain ⟨hnK, hbl⟩ := ehOk_mem o4 env _ n blk hg
        have hnl : ¬ (sh.listed n = true) := fun hl => by
          have := (sh.d_some vars n).2 (.inl hl)
          rw [hd] at this; cases this
        have hd1 : hget d1 n = none := by
          cases hx : hget d1 n with
          | none => rfl
          | some x => exact absurd (hlaid n (by omega) (by rw [hx]; rfl)) hnl
        have hB : BlkR ρ1 n w1 blk := s.hr n blk (by rw [hget_append, hd1]; exact hg)
        refine hB.under same hnK (hst n hnK fun hm => ?_) hbl
        exact hnl (by unfold HSh.listed; rw [hdead n hnK hm, Bool.or_true])

end Go.Ev
/- Loops: what their shapes and rounds tell is right. -/
namespace Go.Ev

/-- A step, seen in more memory. -/
theorem Step.widen {ρ ρ' : Nm} {w w' : World} {nx nx1 nx2 : Nat} {d h0 h : Heap R} (s : Step ρ ρ' w w' nx nx1 d h0) (hle : nx1 ≤ nx2) (hF : Fresh ρ nx nx2) (hH : HR ρ h w) (hI : Inj ρ w) (hlow : ∀ n blk, hget h n = some blk → n < nx) :
    Step ρ ρ' w w' nx nx2 d h where
  inj := s.inj
  hr := by
    have hF1 : Fresh ρ nx nx1 := fun n c1 c2 => hF n c1 (by omega)
    intro n blk hg
    rw [hget_append] at hg
    cases hd : hget d n with
    | some bl =>
      rw [hd] at hg
      cases hg
      exact s.hr n _ (by rw [hget_append, hd]; rfl)
    | none =>
      rw [hd, Option.none_or] at hg
      have hn := hlow n blk hg
      have hB := hH n blk hg
      rcases hB.deadOr with hnd | hv
      case inr => exact hv _ _
      · refine hB.keep (s.knows hF1) ?_ ?_
        · rcases s.st n (by omega) with g | ⟨_, _, g⟩
          · exact g
          · rw [hd] at g; cases g
        · intro b hb
          refine s.frame b (hI.lt n b hb) fun m blk' hm hρ => ?_
          rcases s.own m (by rw [hm]; rfl) with g | g
          · rw [Nm.bl_none (hF1 m g.1 g.2)] at hρ; cases hρ
          · have := hI.inj m n b hρ hb g hnd
            subst this
            rw [hd] at hm; cases hm
  old n hn := s.old n (by omega)
  st n hn := s.st n (by omega)
  new n b h1 h2 hb := by
    by_cases hn : n < nx1
    · exact s.new n b h1 hn hb
    · rw [Nm.bl_congr (s.old n (by omega)), Nm.bl_none (hF n h1 h2)] at hb; cases hb
  own n hn := (s.own n hn).imp (fun g => ⟨g.1, by omega⟩) id
  size := s.size
  os := s.os
  tape := s.tape
  output := s.output
  frame := s.frame
  le := Nat.le_trans s.le hle

theorem cdIte_val (b : Bool) (x y : Cd Bool) : (cdIte (D := R) b x y).val (D := R) = if b then x.val (D := R) else y.val (D := R) := by
  cases b <;> cases x <;> cases y <;> simp [cdIte, Cd.val]

theorem joinPs_true : ∀ {p q r : List (PD R)}, joinPs (D := R) true p q = some r → r = p
  | [], [], r, h => by simp only [joinPs] at h; cases h; rfl
  | [], _ :: _, _, h => by simp only [joinPs] at h; cases h
  | _ :: _, [], _, h => by simp only [joinPs] at h; cases h
  | x :: p, y :: q, r, h => by
    simp only [joinPs] at h
    split at h
    · rename_i a l h1 h2
      cases h
      rw [joinPs_true h2]
      cases x <;> cases y <;> simp only [joinPD] at h1 <;> cases h1 <;> rfl
    · cases h

theorem joinPs_false : ∀ {p q r : List (PD R)}, joinPs (D := R) false p q = some r → r = q
  | [], [], r, h => by simp only [joinPs] at h; cases h; rfl
  | [], _ :: _, _, h => by simp only [joinPs] at h; cases h
  | _ :: _, [], _, h => by simp only [joinPs] at h; cases h
  | x :: p, y :: q, r, h => by
    simp only [joinPs] at h
    split at h
    · rename_i a l h1 h2
      cases h
      rw [joinPs_false h2]
      cases x <;> cases y <;> simp only [joinPD] at h1 <;> cases h1 <;> rfl
    · cases h

theorem round_sound {sh : HSh} {base : Nat} : ∀ {t : T Bool (Ex × St R)} {x : Nr R}, sh.round (D := R) base t = some x → x.c.val (D := R) = true → x.o.val (D := R) = true →
    ∃ st' q, t.run = some (.normal, st') ∧ sh.again base st' = some q ∧ x.ps = some q
  | .fail w, x, h, hc, ho => by simp only [HSh.round] at h; cases h; cases ho
  | .ret (e, st), x, h, hc, ho => by
    cases e with
    | normal =>
      simp only [HSh.round] at h
      split at h
      · rename_i p hp; cases h; exact ⟨st, p, rfl, hp, rfl⟩
      · cases h
    | exit id => simp only [HSh.round] at h; cases h; cases hc
    | ret => simp only [HSh.round] at h; cases h; cases hc
  | .node b t e, x, h, hc, ho => by
    simp only [HSh.round] at h
    split at h
    · rename_i y z hy hz
      have key : x.c = cdIte (D := R) b y.c z.c ∧ x.o = cdIte (D := R) b y.o z.o ∧ ((y.ps = none ∧ x.ps = z.ps) ∨ (z.ps = none ∧ x.ps = y.ps) ∨ ∃ p q r, y.ps = some p ∧ z.ps = some q ∧ joinPs (D := R) b p q = some r ∧ x.ps = some r) := by
        unfold nrJoin at h
        split at h
        · rename_i h1; cases h; exact ⟨rfl, rfl, .inl ⟨h1, rfl⟩⟩
        · rename_i h1 _; cases h; exact ⟨rfl, rfl, .inr (.inl ⟨by assumption, rfl⟩)⟩
        · rename_i p q h1 h2
          split at h
          · rename_i r hr; cases h; exact ⟨rfl, rfl, .inr (.inr ⟨p, q, r, h1, h2, hr, rfl⟩)⟩
          · cases h
      obtain ⟨k1, k2, k3⟩ := key
      rw [k1, cdIte_val] at hc
      rw [k2, cdIte_val] at ho
      cases hb : b with
      | true =>
        subst hb
        obtain ⟨st', q, g1, g2, g3⟩ := round_sound hy (by simpa using hc) (by simpa using ho)
        refine ⟨st', q, by simpa using g1, g2, ?_⟩
        rcases k3 with ⟨e1, e2⟩ | ⟨e1, e2⟩ | ⟨p, q', r, e1, e2, e3, e4⟩
        · rw [e1] at g3; cases g3
        · rw [e2]; exact g3
        · rw [e4, joinPs_true e3, ← e1]; exact g3
      | false =>
        subst hb
        obtain ⟨st', q, g1, g2, g3⟩ := round_sound hz (by simpa using hc) (by simpa using ho)
        refine ⟨st', q, by simpa using g1, g2, ?_⟩
        rcases k3 with ⟨e1, e2⟩ | ⟨e1, e2⟩ | ⟨p, q', r, e1, e2, e3, e4⟩
        · rw [e2]; exact g3
        · rw [e1] at g3; cases g3
        · rw [e4, joinPs_false e3, ← e2]; exact g3
    · cases h

theorem itP_succ {α : Type} (step : α → Bool × Bool × α) : ∀ (n : Nat) (p : α), itP step (n + 1) p = (step (itP step n p)).2.2
  | 0, _ => rfl
  | n + 1, p => by
    show itP step (n + 1) (step p).2.2 = _
    rw [itP_succ step n]; rfl

theorem rdEh_get {h0 : Heap R} {env0 : List (PD R)} : ∀ {eh : List (Nat × List (AV KD))} {e : List (PD R)}, rdEh h0 eh = some e → ∀ pre post (i : Nat), env0 = pre ++ (e ++ post) → i = pre.length → ∀ n blk, hget (fillE env0 eh i) n = some blk → hget h0 n = some blk
  | [], _, _, _, _, _, _, _, n, blk, hg => by simp [fillE, hget] at hg
  | (m, l) :: r, e, h, pre, post, i, h1, h2, n, blk, hg => by
    simp only [rdEh] at h
    split at h
    · rename_i b q hb hq
      split at h
      · rename_i p hp
        cases h
        obtain ⟨m1, m2⟩ := matchXs_lay l _ _ hp
        simp only [fillE, hget] at hg
        by_cases e : (m == n) = true
        · have : m = n := by simpa using e
          subst this
          rw [if_pos e, h1, h2, List.append_assoc, m2] at hg
          cases hg; exact hb
        · rw [if_neg e] at hg
          exact rdEh_get hq (pre ++ p) post _ (by rw [h1]; simp) (by rw [h2, List.length_append, m1]) n blk hg
      · cases h
    · cases h

theorem rdB_own {ρ : Nm} {h0 : Heap R} {w : World} (hH : HR ρ h0 w) : ∀ {vh : List (Nat × BS)} {s : List (Option Nat)} {p : List (PD R)}, rdB h0 vh = some (s, p) → ∀ n, (vh.any fun p => p.1 == n) = true → ρ.st n = .own
  | [], _, _, _, n, hn => by simp at hn
  | (m, .cells l) :: r, s, p, h, n, hn => by
    simp only [rdB] at h
    split at h
    · rename_i b0 hg
      split at h
      · cases h
      · rename_i hsh
        split at h
        · rename_i a p sb q ha hb'
          simp only [List.any_cons, Bool.or_eq_true, beq_iff_eq] at hn
          rcases hn with rfl | hn
          · obtain ⟨b, cs, ty, k1, k2, k3, k4⟩ := (hH m b0 hg).open (by simpa using hsh)
            exact k2
          · exact rdB_own hH hb' n hn
        · cases h
    · cases h
  | (m, .row ks) :: r, s, p, h, n, hn => by
    simp only [rdB] at h
    split at h
    · rename_i js l b q ha hb'
      simp only [List.any_cons, Bool.or_eq_true, beq_iff_eq] at hn
      rcases hn with rfl | hn
      · obtain ⟨p, k1, k2, k3, k4⟩ := (hH m _ (rowAt_get ha)).openRow
        exact (k3 rfl).2
      · exact rdB_own hH hb' n hn
    · cases h

theorem canon_sl {D : Dom} {sh : HSh} {tm : List (AV D)} {h : Heap D} {sl : List (Option Nat)} {vars : List (PD D)} (hc : sh.canon tm h = some (sl, vars)) : ∃ s p, rdB h sh.vh = some (s, p) := by
  unfold HSh.canon at hc
  split at hc
  · rename_i a p b q ha hb; exact ⟨b, q, hb⟩
  · cases hc

/-- A round that is the last one. -/
theorem round_last {sh : HSh} {base : Nat} : ∀ {t : T Bool (Ex × St R)} {x : Nr R}, sh.round (D := R) base t = some x → x.c.val (D := R) = false → ∃ e s, t.run = some (e, s) ∧ e ≠ .normal
  | .fail w, x, h, hc => by simp only [HSh.round] at h; cases h; cases hc
  | .ret (e, st), x, h, hc => by
    cases e with
    | normal =>
      simp only [HSh.round] at h
      split at h
      · cases h; cases hc
      · cases h
    | exit id => exact ⟨_, _, rfl, by simp⟩
    | ret => exact ⟨_, _, rfl, by simp⟩
  | .node b t e, x, h, hc => by
    simp only [HSh.round] at h
    split at h
    · rename_i y z hy hz
      have key : x.c = cdIte (D := R) b y.c z.c := by
        unfold nrJoin at h
        split at h
        · cases h; rfl
        · cases h; rfl
        · split at h
          · cases h; rfl
          · cases h
      rw [key, cdIte_val] at hc
      cases hb : b with
      | true => subst hb; simpa using round_last hy (by simpa using hc)
      | false => subst hb; simpa using round_last hz (by simpa using hc)
    · cases h

theorem prune_run : ∀ {t : T Bool (Ex × St R)} {e : Ex} {s : St R}, t.run = some (e, s) → e ≠ .normal → ∃ t', prune (D := R) t = some t' ∧ t'.run = some (e, s)
  | .fail w, e, s, h, _ => by cases h
  | .ret (e', st), e, s, h, he => by
    cases h
    cases e' with
    | normal => exact absurd rfl he
    | exit id => exact ⟨_, rfl, rfl⟩
    | ret => exact ⟨_, rfl, rfl⟩
  | .node b t u, e, s, h, he => by
    cases b with
    | true =>
      obtain ⟨t', h1, h2⟩ := prune_run (t := t) (by simpa using h) he
      simp only [prune, h1]
      cases prune (D := R) u with
      | none => exact ⟨_, rfl, h2⟩
      | some y => exact ⟨_, rfl, by simpa using h2⟩
    | false =>
      obtain ⟨t', h1, h2⟩ := prune_run (t := u) (by simpa using h) he
      simp only [prune, h1]
      cases prune (D := R) t with
      | none => exact ⟨_, rfl, h2⟩
      | some y => exact ⟨_, rfl, by simpa using h2⟩

/-- What is told of a loop by its shape and its rounds is right. -/
theorem lastOK_of {P : Program} {ev : Code → St R → T Bool (Ex × St R)} {b : Code} (hb : CodeAt P ev b) {sh : HSh} {step : Step1 R} (hok : sh.ok (wrCode b) = true)
    (hround : ∀ env vars ctx, (sh.round (D := R) (sh.st env vars ctx).h.length (ev b (sh.st env vars ctx))).map Nr.step = some (step env vars)) : LastOK P (hkOf sh step (ev b)) b := by
  intro st e st' h
  unfold evLast hkOf at h
  split at h
  case h_1 => cases h
  rename_i o heq
  split at heq
  case h_2 => cases heq
  rename_i env vars ctx hinit
  cases heq
  split at h
  case h_2 => cases h
  rename_i pt hpt
  rcases run_choose_some h with ⟨hends, h⟩ | ⟨_, h⟩
  case inr => cases h
  dsimp only at hends hpt h
  have hex : ∃ n, EndsAt (step env) vars n := by
    have : endsP (step env) vars = true := hends
    unfold endsP at this
    exact @of_decide_eq_true _ (_) this
  obtain ⟨n, hn, hlast⟩ : ∃ n, EndsAt (step env) vars n ∧ lastP (step env) vars = itP (step env) n vars := by
    refine ⟨Classical.choose hex, Classical.choose_spec hex, ?_⟩
    unfold lastP
    rw [dif_pos hex]
  rw [hlast] at h hpt
  -- the last round
  obtain ⟨⟨e1, s1'⟩, hrun, hres⟩ := T.run_bind_some h
  have hst := (Option.some.inj hres).symm
  simp only [Prod.mk.injEq] at hst
  obtain ⟨rfl, rfl⟩ := hst
  have hlr : (ev b (sh.st env (itP (step env) n vars) ctx)).run = some (e, s1') ∧ e ≠ .normal := by
    have hr := hround env (itP (step env) n vars) ctx
    cases hx : sh.round (D := R) (sh.st env (itP (step env) n vars) ctx).h.length (ev b (sh.st env (itP (step env) n vars) ctx)) with
    | none => rw [hx] at hr; cases hr
    | some x =>
      rw [hx] at hr
      have hst : x.step = step env (itP (step env) n vars) := Option.some.inj hr
      obtain ⟨e2, s2, g1, g2⟩ := round_last hx (by have := congrArg Prod.fst hst; rw [hn.2] at this; exact this)
      obtain ⟨t', k1, k2⟩ := prune_run g1 g2
      rw [hpt] at k1
      cases k1
      rw [hrun] at k2
      cases k2
      exact ⟨g1, g2⟩
  obtain ⟨hlrun, hne0⟩ := hlr
  obtain ⟨lp1, ⟨dl, lp2⟩, lp3⟩ := hb.pure _ _ _ hlrun
  have hlaid : laidOn (sh.st env (itP (step env) n vars) ctx).h s1'.h = dl := by rw [lp2]; exact laidOn_append _ _
  have hok' := hok
  unfold HSh.ok at hok'
  simp only [Bool.and_eq_true, decide_eq_true_eq] at hok'
  obtain ⟨⟨⟨⟨⟨o1, o2⟩, o3⟩, o4⟩, o5⟩, o6⟩ := hok'
  unfold HSh.init at hinit
  split at hinit
  case isFalse => cases hinit
  rename_i hpre
  simp only [Bool.and_eq_true, decide_eq_true_eq] at hpre
  obtain ⟨⟨hnx, hlow⟩, hdeads⟩ := hpre
  split at hinit
  case h_2 => cases hinit
  rename_i e' cx e'' sl vs hrd hreh hcan
  split at hinit
  case isFalse => cases hinit
  rename_i hchk
  simp only [Bool.and_eq_true] at hchk
  obtain ⟨⟨hctx, hnd⟩, hsl⟩ := hchk
  have hi := Option.some.inj hinit
  simp only [Prod.mk.injEq] at hi
  obtain ⟨rfl, rfl, rfl⟩ := hi
  have hlen := rdEs_length hrd
  obtain ⟨hec, hne⟩ := ecOk_init (env0 := e' ++ e'') (ctx0 := cx) hrd hlen [] e'' [] [] sh.ct (by simp) (by simp) rfl rfl
  have hagree := fun vars' => ecOk_agree (K := sh.K) (vars := vars') (c' := sh.ct) o2 hec rfl rfl
  have lag : Agree (wrCode b) s1'.tm st.tm := lp3.trans ⟨(hagree _).1, fun j hj => (hagree _).2 j (by simpa using hj)⟩
  refine ⟨⟨by show st.nx ≤ max s1'.nx sh.N; have : sh.N ≤ max s1'.nx sh.N := Nat.le_max_right _ _; omega, ⟨laidOn (sh.st (e' ++ e'') (itP (step (e' ++ e'')) n vs) cx).h s1'.h ++ sh.d (itP (step (e' ++ e'')) n vs), by simp [List.append_assoc]⟩, lag⟩, ?_⟩
  intro ρ a w htm hH hI hFull
  rw [hnx] at hFull
  replace hFull : Fresh ρ sh.K (max s1'.nx sh.N) := hFull
  have hF : Fresh ρ sh.K sh.N := fun m m1 m2 => hFull m m1 (Nat.lt_of_lt_of_le m2 (Nat.le_max_right _ _))
  have hlow' : ∀ m blk, hget st.h m = some blk → m < sh.K := low_of hlow
  have hE : HR ρ (sh.he (e' ++ e'')) w := fun m blk hg => hH m blk (rdEh_get hreh e' [] (nexts sh.tm sh.ct).e (by simp) (by simpa using hne) m blk hg)
  have hdead : ∀ m, sh.dead.contains m = true → ρ.st m = .own := fun m hm => by
    rw [List.all_eq_true] at hdeads
    have := hdeads m (by simpa using hm)
    split at this
    · rename_i ks l hr
      obtain ⟨p, k1, k2, k3, k4⟩ := (hH m _ (rowAt_get hr)).openRow
      exact (k3 rfl).2
    · cases this
  have hsl' : ∀ m, some m ∈ sl → m < sh.K ∧ sh.dead.contains m = true := fun m hm => by
    rw [List.all_eq_true] at hsl
    have := hsl _ hm
    simpa using this
  have hmine : ∀ m, sh.listed m = true → ρ.st m = .own := fun m hm => by
    unfold HSh.listed at hm
    simp only [Bool.or_eq_true] at hm
    rcases hm with hm | hm
    · obtain ⟨s, p, hb⟩ := canon_sl hcan
      exact rdB_own hH hb m hm
    · exact hdead m hm
  -- the first head state
  obtain ⟨ρ0, ht0, s0⟩ := canon_step hok (ρ := ρ) (ρ1 := ρ) (w := w) (w1 := w) (nx1 := sh.K) (d1 := []) (h1 := st.h) (env := e' ++ e'') (vars := vs) (ctx := cx) (tm1 := st.tm) (sl := sl) (us := a.tmps.toList)
    (Step.refl hE hI) hF (by omega) hcan hec hctx hH htm hnd (fun m hm => (hsl' m hm).1) (fun m hm _ => ⟨(hsl' m hm).2, hdead m (hsl' m hm).2⟩) (fun m _ hm => by cases hm) hmine
  -- the rounds
  have rounds : ∀ k i, i + k = n → ∀ ρ1 a1 w1, a1.defers = a.defers → VRs ρ1 (sh.tmF (e' ++ e'') (itP (step (e' ++ e'')) i vs) cx) a1.tmps.toList →
      Step ρ ρ1 w w1 sh.K (sh.K + sh.slots.length) (sh.d (itP (step (e' ++ e'')) i vs)) (sh.he (e' ++ e'')) → Code.rounds P b (fun x a' w' => x = exitOf e ∧ a'.defers = a.defers ∧ ∃ ρ', VRs ρ' s1'.tm a'.tmps.toList ∧ ∃ d, laidOn (sh.st (e' ++ e'') (itP (step (e' ++ e'')) n vs) cx).h s1'.h ++ (sh.d (itP (step (e' ++ e'')) n vs) ++ st.h) = d ++ st.h ∧ Step ρ ρ' w w' st.nx (max s1'.nx sh.N) d st.h) (k + 1) a1 w1 := by
    intro k
    induction k with
    | zero =>
      intro i hik ρ1 a1 w1 hdef ht1 s1
      have : i = n := by omega
      subst this
      rw [rounds_succ]
      refine wp_mono (hb.sound _ _ _ hlrun ρ1 a1 w1 ht1 s1.hr s1.inj fun m m1 m2 => ?_) ?_
      · have m1' : sh.K + sh.slots.length ≤ m := m1
        rw [s1.old m (by omega)]
        exact hFull m (by omega) (Nat.lt_of_lt_of_le m2 (Nat.le_max_left _ _))
      · rintro z a2 w2 ⟨hz, hdef2, ρ2, ht2, d', hd', s2⟩
        have hdd : d' = dl := by rw [lp2] at hd'; exact (List.append_cancel_right hd').symm
        subst hdd
        subst hz
        have s2' : Step ρ1 ρ2 w1 w2 (sh.K + sh.slots.length) s1'.nx d' (sh.d (itP (step (e' ++ e'')) i vs) ++ sh.he (e' ++ e'')) := s2
        have s12 := (s1.trans s2').widen (nx2 := max s1'.nx sh.N) (Nat.le_max_left _ _) hFull hH hI hlow'
        have res : exitOf e = exitOf e ∧ a2.defers = a.defers ∧ ∃ ρ', VRs ρ' s1'.tm a2.tmps.toList ∧ ∃ d, laidOn (sh.st (e' ++ e'') (itP (step (e' ++ e'')) i vs) cx).h s1'.h ++ (sh.d (itP (step (e' ++ e'')) i vs) ++ st.h) = d ++ st.h ∧ Step ρ ρ' w w2 st.nx (max s1'.nx sh.N) d st.h :=
          ⟨rfl, hdef2.trans hdef, ρ2, ht2, _, by rw [hlaid, ← List.append_assoc], by rw [hnx]; exact s12⟩
        cases e with
        | normal => exact absurd rfl hne0
        | exit id => exact res
        | ret => exact res
    | succ k ih =>
      intro i hik ρ1 a1 w1 hdef ht1 s1
      obtain ⟨c1, c2⟩ := hn.1 i (by omega)
      have hr := hround (e' ++ e'') (itP (step (e' ++ e'')) i vs) cx
      cases hx : sh.round (D := R) (sh.st (e' ++ e'') (itP (step (e' ++ e'')) i vs) cx).h.length (ev b (sh.st (e' ++ e'') (itP (step (e' ++ e'')) i vs) cx)) with
      | none => rw [hx] at hr; cases hr
      | some x =>
        rw [hx] at hr
        have hst : x.step = step (e' ++ e'') (itP (step (e' ++ e'')) i vs) := Option.some.inj hr
        obtain ⟨st', q, g1, g2, g3⟩ := round_sound hx (by have := congrArg Prod.fst hst; rw [c1] at this; exact this) (by have := congrArg (fun t => t.2.1) hst; rw [c2] at this; exact this)
        have hq : q = itP (step (e' ++ e'')) (i + 1) vs := by
          rw [itP_succ, ← hst]
          show q = x.ps.getD []
          rw [g3]; rfl
        obtain ⟨p1, ⟨d, p2⟩, p3⟩ := hb.pure _ _ _ g1
        have p1' : sh.K + sh.slots.length ≤ st'.nx := p1
        have hFb : Fresh ρ1 (sh.K + sh.slots.length) st'.nx → True := fun _ => trivial
        unfold HSh.again at g2
        split at g2
        case isFalse => cases g2
        rename_i hchk
        simp only [Bool.and_eq_true, decide_eq_true_eq] at hchk
        obtain ⟨hN, hlaid⟩ := hchk
        split at g2
        case h_2 => cases g2
        rename_i sl' vars' hcan'
        split at g2
        case isFalse => cases g2
        rename_i hchk2
        simp only [Bool.and_eq_true] at hchk2
        obtain ⟨hnd', hsl2⟩ := hchk2
        cases g2
        rw [rounds_succ]
        refine wp_mono (hb.sound _ _ _ g1 ρ1 a1 w1 ht1 s1.hr s1.inj fun m m1 m2 => ?_) ?_
        · have m1' : sh.K + sh.slots.length ≤ m := m1
          have m2' : m < st'.nx := m2
          rw [s1.old m (by omega)]
          exact hF m (by omega) (by omega)
        · rintro z a2 w2 ⟨hz, hdef2, ρ2, ht2, d', hd', s2⟩
          have hdd : d' = d := by rw [p2] at hd'; exact (List.append_cancel_right hd').symm
          subst hdd
          subst hz
          have s2' : Step ρ1 ρ2 w1 w2 (sh.K + sh.slots.length) st'.nx d' (sh.d (itP (step (e' ++ e'')) i vs) ++ sh.he (e' ++ e'')) := s2
          have s12 := s1.trans s2'
          have htake : st'.h.take (st'.h.length - (sh.st (e' ++ e'') (itP (step (e' ++ e'')) i vs) cx).h.length) = d' := by
            rw [p2, List.length_append, Nat.add_sub_cancel, List.take_left']
            rfl
          rw [htake, List.all_eq_true] at hlaid
          have hdn : ∀ m, (hget d' m).isSome = true → m < st'.nx ∧ (sh.K ≤ m ∨ sh.listed m = true) := by
            have : ∀ (l : Heap R) m, (hget l m).isSome = true → ∃ bl, (m, bl) ∈ l := by
              intro l
              induction l with
              | nil => intro m hm; simp [hget] at hm
              | cons p r ih =>
                intro m hm
                obtain ⟨k, bl⟩ := p
                simp only [hget] at hm
                by_cases ek : (k == m) = true
                · have : k = m := by simpa using ek
                  subst this
                  exact ⟨bl, List.mem_cons_self⟩
                · rw [if_neg ek] at hm
                  obtain ⟨bl', hb'⟩ := ih m hm
                  exact ⟨bl', List.mem_cons_of_mem _ hb'⟩
            intro m hm
            obtain ⟨bl, hb'⟩ := this d' m hm
            have := hlaid _ hb'
            simpa using this
          have hsl3 : ∀ m, some m ∈ sl' → sh.K ≤ m ∧ m < st'.nx := fun m hm => by
            rw [List.all_eq_true] at hsl2
            have := hsl2 _ hm
            simpa using this
          have hH2 : HR ρ2 st'.h w2 := by rw [p2]; exact s2'.hr
          have hec2 : ecOk (e' ++ e'') cx sh.tm st'.tm sh.ct := ecOk_congr o2 p3.1.symm (fun j hj => p3.2 j (by simpa using hj)) (ecOk_fill (K := sh.K) (vars := itP (step (e' ++ e'')) i vs) sh.tm sh.ct)
          obtain ⟨ρ3, ht3, s3⟩ := canon_step hok s12 hF hN hcan' hec2 hctx hH2 ht2 hnd' (fun m hm => (hsl3 m hm).2) (fun m hm hmK => by have := (hsl3 m hm).1; omega)
            (fun m hm hs => by
              rw [hget_append] at hs
              cases hdm : hget d' m with
              | some bl =>
                obtain ⟨m1, m2⟩ := hdn m (by rw [hdm]; rfl)
                rcases m2 with m2 | m2
                · omega
                · exact m2
              | none =>
                rw [hdm, Option.none_or] at hs
                rcases (sh.d_some _ m).1 hs with g | g
                · exact g
                · omega)
            hmine
          refine ih (i + 1) (by omega) ρ3 a2 w2 (hdef2.trans hdef) ?_ ?_
          · rw [← hq]; exact ht3
          · rw [← hq]; exact s3
  exact wp_loop_rounds (n + 1) (rounds n 0 (by omega) ρ0 a w rfl ht0 s0)

theorem lastOK_or {P : Program} {b : Code} {sh : HSh} {step : Step1 R} {ev : St R → T Bool (Ex × St R)} {hk : Hk R} (h1 : LastOK P (hkOf sh step ev) b) (h2 : LastOK P hk b) : LastOK P (hkOr sh step ev hk) b := by
  intro st e st' h
  unfold hkOr at h
  split at h
  · exact h1 st e st' h
  · exact h2 st e st' h

end Go.Ev
/- Ways taken together by a shape; calls and code, all told. -/
namespace Go.Ev

section
variable {P : Program} {tbl : Tbl R}

theorem cdNode_run {α : Type} (c : Cd Bool) (x y : T Bool α) : (cdNode (D := R) c x y).run = if c.val (D := R) then x.run else y.run := by
  cases c with
  | tt => rfl
  | ff => rfl
  | s b => cases b <;> rfl

theorem gather_sound {sh : HSh} {base : Nat} : ∀ {t : T Bool (Ex × St R)} {x : Nr R}, sh.gather (D := R) base t = some x → x.c.val (D := R) = true → x.o.val (D := R) = true →
    ∃ st' q, t.run = some (.normal, st') ∧ sh.leaf base st' = some q ∧ x.ps = some q
  | .fail w, x, h, hc, ho => by simp only [HSh.gather] at h; cases h; cases ho
  | .ret (e, st), x, h, hc, ho => by
    cases e with
    | normal =>
      simp only [HSh.gather] at h
      split at h
      · rename_i p hp; cases h; exact ⟨st, p, rfl, hp, rfl⟩
      · cases h
    | exit id => simp only [HSh.gather] at h; cases h; cases hc
    | ret => simp only [HSh.gather] at h; cases h; cases hc
  | .node b t e, x, h, hc, ho => by
    simp only [HSh.gather] at h
    split at h
    · rename_i y z hy hz
      have key : x.c = cdIte (D := R) b y.c z.c ∧ x.o = cdIte (D := R) b y.o z.o ∧ ((y.ps = none ∧ x.ps = z.ps) ∨ (z.ps = none ∧ x.ps = y.ps) ∨ ∃ p q r, y.ps = some p ∧ z.ps = some q ∧ joinPs (D := R) b p q = some r ∧ x.ps = some r) := by
        unfold nrJoin at h
        split at h
        · rename_i h1; cases h; exact ⟨rfl, rfl, .inl ⟨h1, rfl⟩⟩
        · rename_i h1 _; cases h; exact ⟨rfl, rfl, .inr (.inl ⟨by assumption, rfl⟩)⟩
        · rename_i p q h1 h2
          split at h
          · rename_i r hr; cases h; exact ⟨rfl, rfl, .inr (.inr ⟨p, q, r, h1, h2, hr, rfl⟩)⟩
          · cases h
      obtain ⟨k1, k2, k3⟩ := key
      rw [k1, cdIte_val] at hc
      rw [k2, cdIte_val] at ho
      cases hb : b with
      | true =>
        subst hb
        obtain ⟨st', q, g1, g2, g3⟩ := gather_sound hy (by simpa using hc) (by simpa using ho)
        refine ⟨st', q, by simpa using g1, g2, ?_⟩
        rcases k3 with ⟨e1, e2⟩ | ⟨e1, e2⟩ | ⟨p, q', r, e1, e2, e3, e4⟩
        · rw [e1] at g3; cases g3
        · rw [e2]; exact g3
        · rw [e4, joinPs_true e3, ← e1]; exact g3
      | false =>
        subst hb
        obtain ⟨st', q, g1, g2, g3⟩ := gather_sound hz (by simpa using hc) (by simpa using ho)
        refine ⟨st', q, by simpa using g1, g2, ?_⟩
        rcases k3 with ⟨e1, e2⟩ | ⟨e1, e2⟩ | ⟨p, q', r, e1, e2, e3, e4⟩
        · rw [e2]; exact g3
        · rw [e1] at g3; cases g3
        · rw [e4, joinPs_false e3, ← e2]; exact g3
    · cases h

theorem gather_exit {sh : HSh} {base : Nat} : ∀ {t : T Bool (Ex × St R)} {x : Nr R}, sh.gather (D := R) base t = some x → x.c.val (D := R) = false → ∃ e s, t.run = some (e, s) ∧ e ≠ .normal
  | .fail w, x, h, hc => by simp only [HSh.gather] at h; cases h; cases hc
  | .ret (e, st), x, h, hc => by
    cases e with
    | normal =>
      simp only [HSh.gather] at h
      split at h
      · cases h; cases hc
      · cases h
    | exit id => exact ⟨_, _, rfl, by simp⟩
    | ret => exact ⟨_, _, rfl, by simp⟩
  | .node b t e, x, h, hc => by
    simp only [HSh.gather] at h
    split at h
    · rename_i y z hy hz
      have key : x.c = cdIte (D := R) b y.c z.c := by
        unfold nrJoin at h
        split at h
        · cases h; rfl
        · cases h; rfl
        · split at h
          · cases h; rfl
          · cases h
      rw [key, cdIte_val] at hc
      cases hb : b with
      | true => subst hb; simpa using gather_exit hy (by simpa using hc)
      | false => subst hb; simpa using gather_exit hz (by simpa using hc)
    · cases h

theorem hget_mem : ∀ {l : Heap R} {m : Nat}, (hget l m).isSome = true → ∃ bl, (m, bl) ∈ l := by
  intro l
  induction l with
  | nil => intro m hm; simp [hget] at hm
  | cons p r ih =>
    intro m hm
    obtain ⟨k, bl⟩ := p
    simp only [hget] at hm
    by_cases ek : (k == m) = true
    · have : k = m := by simpa using ek
      subst this
      exact ⟨bl, List.mem_cons_self⟩
    · rw [if_neg ek] at hm
      obtain ⟨bl', hb'⟩ := ih hm
      exact ⟨bl', List.mem_cons_of_mem _ hb'⟩

/-- Of what is taken together: it says no more than the way 's' does. -/
structure JLe (mask : Nat) (base : List (AV R)) (h0 : Heap R) (n0 : Nat) (s y : St R) (d : Heap R) : Prop where
  nx : s.nx ≤ y.nx
  lay : ∃ d', y.h = d' ++ h0
  ag : Agree mask y.tm base
  step : ∀ (ρ ρ1 : Nm) (w w1 : World) (us : List Value), HR ρ h0 w → Inj ρ w → Fresh ρ n0 y.nx → VRs ρ1 s.tm us → Step ρ ρ1 w w1 n0 s.nx d h0 → ∃ ρ', VRs ρ' y.tm us ∧ ∃ d', y.h = d' ++ h0 ∧ Step ρ ρ' w w1 n0 y.nx d' h0

theorem JLe.refl {mask : Nat} {base : List (AV R)} {h0 : Heap R} {n0 : Nat} {s : St R} {d : Heap R} (hs : s.h = d ++ h0) (ha : Agree mask s.tm base) : JLe mask base h0 n0 s s d :=
  ⟨Nat.le_refl _, ⟨d, hs⟩, ha, fun _ ρ1 _ _ _ _ _ _ ht st => ⟨ρ1, ht, d, hs, st⟩⟩

theorem Step.narrow {ρ ρ' : Nm} {w w' : World} {nx nx1 : Nat} {d h : Heap R} (s : Step ρ ρ' w w' nx nx1 d h) : Step ρ ρ' w w' nx nx1 d [] :=
  { s with hr := fun n blk hg => s.hr n blk (by
      rw [hget_append] at hg ⊢
      cases hd : hget d n with
      | some b => rw [hd] at hg; exact hg
      | none => rw [hd] at hg; cases hg) }

theorem evJ1_sound {sh : HSh} {mask : Nat} {base : List (AV R)} {h0 : Heap R} {n0 : Nat} {t u : T Bool (Ex × St R)} (h : evJ1 (D := R) sh mask base h0 n0 t = some u) {e : Ex} {y : St R} (hr : u.run = some (e, y))
    (hp : ∀ e s, t.run = some (e, s) → n0 ≤ s.nx ∧ (∃ d, s.h = d ++ h0) ∧ Agree mask s.tm base) :
    ∃ s d, t.run = some (e, s) ∧ s.h = d ++ h0 ∧ JLe mask base h0 n0 s y d := by
  unfold evJ1 at h
  split at h
  case isFalse => cases h
  rename_i hchk
  simp only [Bool.and_eq_true, decide_eq_true_eq] at hchk
  obtain ⟨⟨⟨⟨hok, hn0⟩, hlow⟩, heh⟩, hdeads⟩ := hchk
  subst hn0
  split at h
  case h_2 => cases h
  rename_i env ctx c o ps hrd hga
  split at h
  case isFalse => cases h
  rename_i hctx
  -- the ways that end
  have exits : c.val (D := R) = false → (prune (D := R) t).bind (fun p => p.run) = some (e, y) → ∃ s d, t.run = some (e, s) ∧ s.h = d ++ h0 ∧ JLe mask base h0 sh.K s y d := by
    intro hc hpr
    obtain ⟨e2, s2, g1, g2⟩ := gather_exit hga hc
    obtain ⟨t', k1, k2⟩ := prune_run g1 g2
    rw [k1] at hpr
    have hpr' : t'.run = some (e, y) := hpr
    rw [k2] at hpr'
    cases hpr'
    obtain ⟨_, ⟨d, p2⟩, p3⟩ := hp _ _ g1
    exact ⟨y, d, g1, p2, JLe.refl p2 p3⟩
  have goes : c.val (D := R) = true → (cdNode (D := R) o (.ret (.normal, (⟨sh.tmF env ps ctx, sh.d ps ++ h0, sh.N⟩ : St R))) (.fail "must")).run = some (e, y) → ∃ s d, t.run = some (e, s) ∧ s.h = d ++ h0 ∧ JLe mask base h0 sh.K s y d := by
    intro hc hx
    rw [cdNode_run] at hx
    split at hx
    case isFalse => cases hx
    rename_i ho
    have hx' := Option.some.inj hx
    simp only [Prod.mk.injEq] at hx'
    obtain ⟨rfl, rfl⟩ := hx'
    obtain ⟨st', q, g1, g2, g3⟩ := gather_sound hga hc ho
    have hq := Option.some.inj g3
    subst hq
    obtain ⟨p1, ⟨d, p2⟩, p3⟩ := hp _ _ g1
    have hok' := hok
    unfold HSh.ok at hok'
    simp only [Bool.and_eq_true, decide_eq_true_eq] at hok'
    obtain ⟨⟨⟨⟨⟨o1, o2⟩, o3⟩, o4⟩, o5⟩, o6⟩ := hok'
    have hlen := rdEs_length hrd
    obtain ⟨hec, hne⟩ := ecOk_init (env0 := env) (ctx0 := ctx) hrd hlen [] [] [] [] sh.ct (by simp) (by simp) rfl rfl
    have hagree := ecOk_agree (K := sh.K) (vars := ps) (c' := sh.ct) o2 hec rfl rfl
    unfold HSh.leaf at g2
    split at g2
    case isFalse => cases g2
    rename_i hchk
    simp only [Bool.and_eq_true, decide_eq_true_eq] at hchk
    obtain ⟨hN, hlaid⟩ := hchk
    split at g2
    case h_2 => cases g2
    rename_i sl' vars' hcan'
    split at g2
    case isFalse => cases g2
    rename_i hchk2
    simp only [Bool.and_eq_true] at hchk2
    obtain ⟨hnd', hsl2⟩ := hchk2
    cases g2
    refine ⟨st', d, g1, p2, hN, ⟨_, rfl⟩, ⟨hagree.1, fun j hj => hagree.2 j (by simpa using hj)⟩, ?_⟩
    intro ρ ρ1 w w1 us hH hI hF ht s
    have hF' : Fresh ρ sh.K sh.N := hF
    have hlow' : ∀ m blk, hget h0 m = some blk → m < sh.K := low_of hlow
    have hdead : ∀ m, sh.dead.contains m = true → ρ.st m = .own := fun m hm => by
      rw [List.all_eq_true] at hdeads
      have := hdeads m (by simpa using hm)
      split at this
      · rename_i ks l hr
        obtain ⟨p, k1, k2, k3, k4⟩ := (hH m _ (rowAt_get hr)).openRow
        exact (k3 rfl).2
      · cases this
    have hH2 : HR ρ1 st'.h w1 := by rw [p2]; exact s.hr
    have vhLow : ∀ {vh : List (Nat × BS)}, vhOk sh.K sh.dead vh = true → ∀ n, (vh.any fun p => p.1 == n) = true → n < sh.K := by
      intro vh
      induction vh with
      | nil => intro _ n hn; simp at hn
      | cons p r ih =>
        intro hv n hn
        obtain ⟨m, b⟩ := p
        have hv' : m < sh.K ∧ vhOk sh.K sh.dead r = true := by
          cases b with
          | cells l => simp only [vhOk, Bool.and_eq_true, decide_eq_true_eq] at hv; exact ⟨hv.1.1.1.1, hv.2⟩
          | row ks => simp only [vhOk, Bool.and_eq_true, decide_eq_true_eq] at hv; exact ⟨hv.1.1, hv.2⟩
        simp only [List.any_cons, Bool.or_eq_true, beq_iff_eq] at hn
        rcases hn with rfl | hn
        · exact hv'.1
        · exact ih hv'.2 n hn
    have hmine : ∀ m, sh.listed m = true → ρ.st m = .own := fun m hm => by
      unfold HSh.listed at hm
      simp only [Bool.or_eq_true] at hm
      rcases hm with hm | hm
      · obtain ⟨s', p', hb⟩ := canon_sl hcan'
        have h1 := rdB_own hH2 hb m hm
        have hlt := vhLow o3 m hm
        rcases s.st m (by omega) with g | ⟨g, _⟩
        · rw [← g]; exact h1
        · rw [g] at h1; cases h1
      · exact hdead m hm
    have hsl3 : ∀ m, some m ∈ sl' → (sh.K ≤ m ∧ m < st'.nx) ∨ (m < sh.K ∧ sh.dead.contains m = true) := fun m hm => by
      rw [List.all_eq_true] at hsl2
      have := hsl2 _ hm
      simpa using this
    have htake : st'.h.take (st'.h.length - h0.length) = d := by
      rw [p2, List.length_append, Nat.add_sub_cancel, List.take_left']
      rfl
    rw [htake, List.all_eq_true] at hlaid
    have hdn : ∀ m, (hget d m).isSome = true → m < st'.nx ∧ (sh.K ≤ m ∨ sh.listed m = true) := by
      intro m hm
      obtain ⟨bl, hb'⟩ := hget_mem hm
      have := hlaid _ hb'
      simpa using this
    have hec2 : ecOk env ctx sh.tm st'.tm sh.ct := ecOk_congr o2 p3.1.symm (fun j hj => p3.2 j (by simpa using hj)) hec
    have he0 : sh.he (D := R) env = [] := by
      unfold HSh.he
      cases hx : sh.eh with
      | nil => rfl
      | cons _ _ => rw [hx] at heh; cases heh
    obtain ⟨ρ3, ht3, s3⟩ := canon_step hok (ρ := ρ) (ρ1 := ρ1) (env := env) (by rw [he0]; exact s.narrow) hF' hN hcan' hec2 hctx hH2 ht hnd' (fun m hm => by rcases hsl3 m hm with g | g <;> omega)
      (fun m hm hmK => by
        rcases hsl3 m hm with g | g
        · omega
        · exact ⟨g.2, hdead m g.2⟩)
      (fun m hm hs => by
        obtain ⟨m1, m2⟩ := hdn m hs
        rcases m2 with m2 | m2
        · omega
        · exact m2)
      hmine
    rw [he0] at s3
    exact ⟨ρ3, ht3, _, rfl, s3.widen o6 hF' hH hI hlow'⟩
  dsimp only at h
  split at h
  · rename_i hpn
    cases h
    cases hc : c.val (D := R) with
    | true => exact goes hc hr
    | false =>
      obtain ⟨e2, s2, g1, g2⟩ := gather_exit hga hc
      obtain ⟨t', k1, k2⟩ := prune_run g1 g2
      rw [hpn] at k1; cases k1
  · rename_i p hps
    cases h
    rw [cdNode_run] at hr
    split at hr
    · rename_i hc; exact goes hc hr
    · rename_i hc
      exact exits (by simpa using hc) (by rw [hps]; exact hr)

theorem evJ_sound {js : Nat → List (AV R) → Heap R → Nat → T Bool (Ex × St R) → List HSh} {mask : Nat} {base : List (AV R)} {h0 : Heap R} {n0 : Nat} {t : T Bool (Ex × St R)} {e : Ex} {y : St R} (hr : (evJ (D := R) js mask base h0 n0 t).run = some (e, y))
    (hp : ∀ e s, t.run = some (e, s) → n0 ≤ s.nx ∧ (∃ d, s.h = d ++ h0) ∧ Agree mask s.tm base) :
    ∃ s d, t.run = some (e, s) ∧ s.h = d ++ h0 ∧ JLe mask base h0 n0 s y d := by
  have self : t.run = some (e, y) → ∃ s d, t.run = some (e, s) ∧ s.h = d ++ h0 ∧ JLe mask base h0 n0 s y d := fun h => by
    obtain ⟨_, ⟨d, p2⟩, p3⟩ := hp _ _ h
    exact ⟨y, d, h, p2, JLe.refl p2 p3⟩
  have all : ∀ l : List HSh, (evJs (D := R) mask base h0 n0 t l).run = some (e, y) → ∃ s d, t.run = some (e, s) ∧ s.h = d ++ h0 ∧ JLe mask base h0 n0 s y d := by
    intro l
    induction l with
    | nil => exact self
    | cons sh r ih =>
      intro h
      simp only [evJs] at h
      split at h
      · rename_i u hu; exact evJ1_sound hu h hp
      · exact ih h
  unfold evJ at hr
  split at hr
  · exact all _ hr
  · exact self hr

/-- Code whose ways are taken together by shapes. -/
theorem join_at {ev ev' : Code → St R → T Bool (Ex × St R)} {c : Code} (hc : CodeAt P ev c) (js : Nat → List (AV R) → Heap R → Nat → T Bool (Ex × St R) → List HSh)
    (he : ∀ st, ev' c st = ev c st ∨ ev' c st = evJ (D := R) js (wrCode c) st.tm st.h st.nx (ev c st)) : CodeAt P ev' c := by
  constructor
  · intro st e st' h
    rcases he st with g | g
    · rw [g] at h; exact hc.pure st e st' h
    · rw [g] at h
      obtain ⟨s, d, g1, g2, g3⟩ := evJ_sound h (hc.pure st)
      obtain ⟨p1, _, _⟩ := hc.pure st e s g1
      exact ⟨Nat.le_trans p1 g3.nx, g3.lay, g3.ag⟩
  · intro st e st' h ρ a w htm hH hI hF
    rcases he st with g | g
    · rw [g] at h; exact hc.sound st e st' h ρ a w htm hH hI hF
    · rw [g] at h
      obtain ⟨s, d, g1, g2, g3⟩ := evJ_sound h (hc.pure st)
      refine wp_mono (hc.sound st e s g1 ρ a w htm hH hI fun n a1 a2 => hF n a1 (Nat.lt_of_lt_of_le a2 g3.nx)) ?_
      rintro x a' w' ⟨hx, hd, ρ1, ht, d', e1, e2⟩
      have : d = d' := by rw [g2] at e1; exact List.append_cancel_right e1
      subst this
      obtain ⟨ρ', k1, k2⟩ := g3.step ρ ρ1 w w' _ hH hI hF ht e2
      exact ⟨hx, hd, ρ', k1, k2⟩

theorem evJO_sound {js : Nat → List (AV R) → Heap R → Nat → T Bool (Ex × St R) → List HSh} {h : Heap R} {nx : Nat} {t : TO R} {out : Out R} (hr : (evJO (D := R) js h nx t).run = some out) (hm : ∀ o, t.run = some o → nx ≤ o.nx) :
    ∃ o, t.run = some o ∧ o.nx ≤ out.nx ∧ ∀ (ρ ρ1 : Nm) (w w1 : World) (u : Value), HR ρ h w → Inj ρ w → Fresh ρ nx out.nx → VR ρ1 o.v u → Step ρ ρ1 w w1 nx o.nx o.d h → ∃ ρ', VR ρ' out.v u ∧ Step ρ ρ' w w1 nx out.nx out.d h := by
  unfold evJO at hr
  split at hr
  · obtain ⟨⟨e, st⟩, h1, h2⟩ := T.run_bind_some hr
    obtain ⟨s, d, g1, g2, g3⟩ := evJ_sound h1 (fun e s hs => by
      obtain ⟨o, k1, k2⟩ := T.run_bind_some hs
      have k3 := Option.some.inj k2
      simp only [Prod.mk.injEq] at k3
      obtain ⟨rfl, rfl⟩ := k3
      exact ⟨hm o k1, ⟨o.d, rfl⟩, rfl, fun i hi => by
        cases i with
        | zero => simp at hi
        | succ i => simp⟩)
    obtain ⟨o, k1, k2⟩ := T.run_bind_some g1
    have k3 := Option.some.inj k2
    simp only [Prod.mk.injEq] at k3
    obtain ⟨rfl, rfl⟩ := k3
    have hd : o.d = d := List.append_cancel_right g2
    subst hd
    simp only at h2
    split at h2
    · rename_i v hv
      have := (Option.some.inj h2).symm
      subst this
      refine ⟨o, k1, g3.nx, fun ρ ρ1 w w1 u hH hI hF hu hs => ?_⟩
      obtain ⟨ρ', q1, d', q2, q3⟩ := g3.step ρ ρ1 w w1 [u] hH hI hF ⟨hu, trivial⟩ hs
      rw [hv] at q1
      refine ⟨ρ', q1.1, ?_⟩
      show Step ρ ρ' w w1 nx st.nx (laidOn h st.h) h
      rw [q2, laidOn_append]
      exact q3
    · cases h2
  · exact ⟨out, hr, Nat.le_refl _, fun ρ ρ1 w w1 u _ _ _ hu hs => ⟨ρ1, hu, hs⟩⟩

theorem evFnV_nx {ev : Code → St R → T Bool (Ex × St R)} {f : FuncId} {args : List (AV R)} {h : Heap R} {nx : Nat} {out : Out R} (hm : ∀ fn c, P.funcs[f]? = some fn → fn.body = some c → ∀ st e st', (ev c st).run = some (e, st') → st.nx ≤ st'.nx)
    (hr : (evFnV P ev f args h nx).run = some out) : nx ≤ out.nx := by
  unfold evFnV at hr
  split at hr
  · cases hr
  · rename_i fn hf
    split at hr
    · cases hr
    · rename_i c hb
      obtain ⟨⟨e, st⟩, h1, h2⟩ := T.run_bind_some hr
      have := hm fn c hf hb _ _ _ h1
      cases e with
      | exit id => cases h2
      | normal =>
        simp only at h2
        split at h2
        · have e1 := (Option.some.inj h2).symm; subst e1; exact this
        · cases h2
      | ret =>
        simp only at h2
        split at h2
        · have e1 := (Option.some.inj h2).symm; subst e1; exact this
        · cases h2

theorem evCallG_sound (hn : plainNames P = true) (ht : TblOK P tbl) {lt : LTb R} {ev : FuncId → Code → St R → T Bool (Ex × St R)} (hc : ∀ g, BodyOK P (ev g) g) (hm : ∀ g fn c, P.funcs[g]? = some fn → fn.body = some c → ∀ st e st', (ev g c st).run = some (e, st') → st.nx ≤ st'.nx) : CallOK P (evCallG P tbl lt ev) := by
  intro f args h nx out hr ρ w vals ha hH hI hF
  unfold evCallG at hr
  split at hr
  · rename_i sp hsp
    split at hr
    · rename_i hnp
      obtain ⟨v, h1, h2⟩ := T.run_bind_some hr
      split at h2
      · rename_i hnv
        have := (Option.some.inj h2).symm; subst this
        refine CF.mono (ht f sp hsp args v h1 w vals (VRs.noPtr _ _ hnp ha)) ?_
        rintro u w' ⟨g1, g2, g3, g4, g5, g6⟩
        exact ⟨ρ, VR.noPtr _ _ hnv g1, (Old.mk g2 g3 g4 g5 g6).step hH hI⟩
      · cases h2
    · cases hr
  · split at hr
    · rename_i n off len sz hna
      unfold nilArg at hna
      split at hna
      · rename_i n' k off' len' sz'
        split at hna
        · cases hna
        · rename_i hk
          split at hna
          · cases hna
            obtain ⟨⟨fn, c, hf, hb⟩, hcalls⟩ := evNil_calls (hc f) hr ha hH hI hF
            unfold CF
            rw [callFunc_body hn hf hb vals w]
            exact hcalls
          · cases hna
      · cases hna
    · obtain ⟨o, g1, g2, g3⟩ := evJO_sound hr fun o ho => evFnV_nx (hm f) ho
      obtain ⟨⟨fn, c, hf, hb⟩, hcalls⟩ := evFn_calls (hc f) g1 ha hH hI (fun n a1 a2 => hF n a1 (Nat.lt_of_lt_of_le a2 g2))
      unfold CF
      rw [callFunc_body hn hf hb vals w]
      refine hcalls.mono ?_
      rintro e w' ⟨v, rfl, ρ1, hv, st⟩
      exact ⟨v, rfl, g3 ρ ρ1 w w' v hH hI hF hv st⟩

theorem evCodeH_ok (hP : P.follows .mixedOrders = true) (hn : plainNames P = true) (ht : TblOK P tbl) {lt : LTb R} (hh : HooksOK P lt) : ∀ n f c, LoopsOK P (lt f) c → CodeAt P (evCodeH P tbl lt n f) c := by
  intro n
  induction n using Nat.strongRecOn with
  | _ n ihs =>
    intro f c hl
    cases n with
    | zero => exact fail_at fun st => ⟨_, rfl⟩
    | succ n =>
      have ih := ihs n (by omega)
      cases c with
      | skip => exact here_at .normal (fun st => rfl) fun Q a w h => wp_skip h
      | label l => exact here_at .normal (fun st => rfl) fun Q a w h => wp_label h
      | exit id => exact here_at (.exit id) (fun st => rfl) fun Q a w h => wp_exit h
      | ret => exact here_at .ret (fun st => rfl) fun Q a w h => wp_ret h
      | region id ops draw => exact region_at hP (evCallG_sound hn ht (fun g fn c hf hb => (ih g c (hh g fn c hf hb)).sound) fun g fn c hf hb st e st' h => ((ih g c (hh g fn c hf hb)).pure st e st' h).1) fun st => rfl
      | seq a b => exact seq_at (ih f a hl.left) (ih f b hl.right) fun st => rfl
      | cond c a b =>
        refine join_at (ev := fun x st => match x with
          | .cond c a b => (match opd st.tm c with
            | some (.kb t) => evCodeH P tbl lt n f (if t then a else b) st
            | some (.sb s) => compact (D := R) (wrCode a ||| wrCode b) st.tm st.h st.nx (.node s (evCodeH P tbl lt n f a st) (evCodeH P tbl lt n f b st))
            | _ => .fail "cond")
          | _ => .fail "") (cond_at (ih f a hl.thn) (ih f b hl.els) fun st => rfl) (lt.jt f (condKey c)) fun st => ?_
        simp only [evCodeH]
        cases opd st.tm c with
        | none => exact .inl rfl
        | some v => cases v <;> first | exact .inl rfl | exact .inr rfl
      | scope b => exact scope_at (ih f b hl) fun st => rfl
      | loop b => exact loop_at (evs := fun m => evCodeH P tbl lt m f) (fun c st => ⟨_, rfl⟩) (fun n st => rfl) (n + 1) fun m hm => ihs m hm f b hl
      | block id b =>
        cases b with
        | loop b =>
          cases hk : lt f id with
          | none =>
            refine block_at (ih f (.loop b) fun i x k hm => hl i x k (List.mem_cons_of_mem _ hm)) fun st => ?_
            simp only [evCodeH, hk]
            rfl
          | some g =>
            refine block_at (told_at (hl id b g List.mem_cons_self hk)) fun st => ?_
            simp only [evCodeH, hk]
            rfl
        | _ => exact join_at (ev := fun x st => match x with
            | .block id b => compact (D := R) (wrCode b) st.tm st.h st.nx ((evCodeH P tbl lt n f b st).bind fun (e, st') => match e with
              | .exit j => if j = id then .ret (.normal, st') else .ret (.exit j, st')
              | e => .ret (e, st'))
            | _ => .fail "") (block_at (ih f _ hl) fun st => rfl) (lt.jt f (1000000 + id)) fun st => .inr rfl
      | _ => exact fail_at fun st => ⟨_, rfl⟩

theorem body_hooks (hP : P.follows .mixedOrders = true) (hn : plainNames P = true) (ht : TblOK P tbl) {lt : LTb R} (hh : HooksOK P lt) (n : Nat) (f : FuncId) : BodyOK P (evCodeH P tbl lt n f) f :=
  fun fn c hf hb => (evCodeH_ok hP hn ht hh n f c (hh f fn c hf hb)).sound

end
end Go.Ev
/- A function's entry, its loops told. -/
namespace Go.Ev

theorem entry_loops {P : Program} (hP : Prog P) {tbl : Tbl R} (ht : TblOK P tbl) {lt : LTb R} (hh : HooksOK P lt) {n : Nat} {f : FuncId} {args : List (AV R)} {ok : Option Bool} {v : AV R} (h : joinT (D := R) (evFnH P tbl lt n f args [] 0) = .val ok v) (hok : ∀ o, ok = some o → o = true) (hnp : v.noPtr = true) :
    Entry P f args v := by
  intro w vals hv
  obtain ⟨r, hr, hle⟩ := joinT_sound _ _ _ h hok
  unfold evFnH at hr
  obtain ⟨out, h1, h2⟩ := T.run_bind_some hr
  have := (Option.some.inj h2)
  subst this
  obtain ⟨⟨fn, c, hf, hb⟩, hcalls⟩ := evFn_calls (body_hooks hP.mixed hP.names ht hh n f) h1 hv (HR.nil w) (Inj.none w) (fun _ _ _ => rfl)
  unfold CF
  rw [callFunc_body hP.names hf hb vals w]
  refine Calls.mono hcalls ?_
  rintro e w' ⟨u, rfl, ρ', g1, g2⟩
  exact ⟨u, rfl, VR.noPtr _ _ hnp (hle _ _ g1), g2.size, g2.os, g2.tape, g2.output, fun b hb => g2.frame b hb fun _ _ _ hc => by cases hc⟩

end Go.Ev
/- Loops told one after another. -/
namespace Go.Ev

theorem HooksOK.nil (P : Program) : HooksOK P (ltOf [] []) := fun f fn c hf hb id b hk hm hl => by cases hl

/-- Which shapes are told does not matter. -/
theorem HooksOK.jt {P : Program} {l : List (LE R)} {js js' : List (FuncId × Nat × HSh)} (h : HooksOK P (ltOf l js)) : HooksOK P (ltOf l js') := h

theorem loopsOf_sub : ∀ (c : Code) (id : Nat) (b : Code), (id, b) ∈ loopsOf c → ∀ x ∈ loopsOf b, x ∈ loopsOf c
  | .seq a b, id, x, h, y, hy => by
    simp only [loopsOf, List.mem_append] at h ⊢
    exact h.imp (fun h => loopsOf_sub a id x h y hy) fun h => loopsOf_sub b id x h y hy
  | .cond _ a b, id, x, h, y, hy => by
    simp only [loopsOf, List.mem_append] at h ⊢
    exact h.imp (fun h => loopsOf_sub a id x h y hy) fun h => loopsOf_sub b id x h y hy
  | .loop b, id, x, h, y, hy => by
    simp only [loopsOf] at h ⊢
    exact loopsOf_sub b id x h y hy
  | .scope b, id, x, h, y, hy => by
    simp only [loopsOf] at h ⊢
    exact loopsOf_sub b id x h y hy
  | .block k b, id, x, h, y, hy => by
    have ih := loopsOf_sub b id x
    cases b with
    | loop b' =>
      simp only [loopsOf, List.mem_cons, Prod.mk.injEq] at h ⊢
      rcases h with ⟨rfl, rfl⟩ | h
      · exact .inr hy
      · exact .inr (ih h y hy)
    | _ =>
      simp only [loopsOf] at h ⊢
      first | exact ih h y hy | cases h
  | .skip, id, x, h, y, hy => by simp [loopsOf] at h
  | .region .., id, x, h, y, hy => by simp [loopsOf] at h
  | .label _, id, x, h, y, hy => by simp [loopsOf] at h
  | .exit _, id, x, h, y, hy => by simp [loopsOf] at h
  | .ret, id, x, h, y, hy => by simp [loopsOf] at h
  | .goto _, id, x, h, y, hy => by simp [loopsOf] at h
  | .rangeFunc .., id, x, h, y, hy => by simp [loopsOf] at h
  | .refuse _, id, x, h, y, hy => by simp [loopsOf] at h

theorem loopB_of {P : Program} {f id : Nat} (h1 : loopOne P f id = true) {fn : Func} {c b : Code} (hf : P.funcs[f]? = some fn) (hb : fn.body = some c) (hm : (id, b) ∈ loopsOf c) : b = loopB P f id := by
  unfold loopOne at h1
  unfold loopB
  have hin : (id, b) ∈ loopsAt P f id := by
    unfold loopsAt
    rw [hf]
    simp only [hb]
    exact List.mem_filter.2 ⟨hm, by simp⟩
  cases hl : loopsAt P f id with
  | nil => rw [hl] at h1; cases h1
  | cons x r =>
    cases r with
    | nil =>
      rw [hl] at hin
      rcases List.mem_cons.1 hin with rfl | hin
      · rfl
      · cases hin
    | cons y r => rw [hl] at h1; cases h1

theorem HooksOK.cons {P : Program} (hP : Prog P) {tbl : Tbl R} (ht : TblOK P tbl) {r : List (LE R)} {js js' : List (FuncId × Nat × HSh)} (hh : HooksOK P (ltOf r js)) {n f id : Nat} {sh : HSh} {step : Step1 R} (h1 : loopOne P f id = true) (hok : sh.ok (wrCode (loopB P f id)) = true)
    (hround : ∀ env vars ctx, (sh.round (D := R) (sh.st env vars ctx).h.length (evCodeH P tbl (ltOf r js) n f (loopB P f id) (sh.st env vars ctx))).map Nr.step = some (step env vars)) :
    HooksOK P (ltOf (⟨f, id, sh, step, fun s => evCodeH P tbl (ltOf r js) n f (loopB P f id) s⟩ :: r) js') := by
  intro g fn c hf hb id' b hk hm hl
  have hl : ltOf0 (⟨f, id, sh, step, fun s => evCodeH P tbl (ltOf r js) n f (loopB P f id) s⟩ :: r) g id' = some hk := hl
  simp only [ltOf0] at hl
  split at hl
  · rename_i e
    simp only [Bool.and_eq_true, beq_iff_eq] at e
    obtain ⟨rfl, rfl⟩ := e
    have e := loopB_of h1 hf hb hm
    have hL : LoopsOK P ((ltOf r js) f) b := fun i x k hx hk => hh f fn c hf hb i x k (loopsOf_sub c id b hm _ hx) hk
    have hC := evCodeH_ok hP.mixed hP.names ht hh n f b hL
    have hlast : LastOK P (hkOf sh step (fun s => evCodeH P tbl (ltOf r js) n f (loopB P f id) s)) b := by
      rw [← e]
      exact lastOK_of hC (by rw [e]; exact hok) (by rw [e]; exact hround)
    cases hr : ltOf0 r f id with
    | none => rw [hr] at hl; cases hl; exact hlast
    | some k => rw [hr] at hl; cases hl; exact lastOK_or hlast (hh f fn c hf hb id b k hm hr)
  · exact hh g fn c hf hb id' b hk hm hl

/-- A function from its arguments, its ways never taken together (the one name in memory is beyond all others). -/
def evFnJ {D : Dom} (P : Program) (tbl : Tbl D) (n : Nat) (f : FuncId) (args : List (AV D)) : T D.B (AV D) :=
  (evFnV P (evCode P tbl n) f args [(1000000000, [])] 0).bind fun u => .ret u.v

theorem entry_runJ {P : Program} (hP : Prog P) {tbl : Tbl R} (ht : TblOK P tbl) {n : Nat} {f : FuncId} {args : List (AV R)} {r v : AV R} (hr : (evFnJ P tbl n f args).run = some r) (hle : Le r v) (hnp : v.noPtr = true) :
    Entry P f args v := by
  intro w vals hv
  unfold evFnJ at hr
  obtain ⟨out, h1, h2⟩ := T.run_bind_some hr
  have := (Option.some.inj h2)
  subst this
  have hH : HR Nm.nil [(1000000000, [])] w := fun n blk h => by
    simp only [hget] at h
    split at h
    · cases h; exact .nothing
    · cases h
  obtain ⟨⟨fn, c, hf, hb⟩, hcalls⟩ := evFn_calls (CodeOK.body (evCode_sound hP.mixed hP.names ht n) f) h1 hv hH (Inj.none w) (fun _ _ _ => rfl)
  unfold CF
  rw [callFunc_body hP.names hf hb vals w]
  refine Calls.mono hcalls ?_
  rintro e w' ⟨u, rfl, ρ', g1, g2⟩
  exact ⟨u, rfl, VR.noPtr _ _ hnp (hle _ _ g1), g2.size, g2.os, g2.tape, g2.output, fun b hb => g2.frame b hb fun _ _ _ hc => by cases hc⟩

theorem entry_trueJ {P : Program} (hP : Prog P) {tbl : Tbl R} (ht : TblOK P tbl) {n : Nat} {f : FuncId} {args : List (AV R)} (hr : isTrueRun (evFnJ P tbl n f args).run = true) : Entry P f args (.kb true) := by
  cases h : (evFnJ P tbl n f args).run with
  | none => rw [h] at hr; cases hr
  | some r =>
    rw [h] at hr
    cases r <;> first | (cases hr; done) | skip
    · rename_i b
      have : b = true := hr
      subst this
      exact entry_runJ hP ht h (Le.refl _) rfl
    · rename_i b
      have : b = true := hr
      subst this
      exact entry_runJ hP ht h (fun _ _ hv => hv) rfl

end Go.Ev
/- Arguments with slices of plain data, opened; and a law's row over them. -/
namespace Go.Ev
open Go.ChangeShapes Go.WideShapes Go.ChangeAt Go.RowKit

/-- A row whose elements have cells of these kinds. -/
def okRow (ks : List CK) (l : Row) : Prop := (∀ e ∈ l, fitE ks e) ∧ (l.length : Int) ≤ 2 ^ 63 - 1

/-- A cell of an argument: plain, or a slice of plain data. -/
inductive GK where
  | one (k : CK)
  | sl (ks : List CK)

def GK.n : GK → Nat
  | .one _ => 0
  | .sl _ => 1

def GK.fits (n : Nat) : GK → AV R → Heap R → Prop
  | .one k, a, h => k.fits a ∧ h = []
  | .sl ks, a, h => ∃ l : Row, okRow ks l ∧ a = .sslice n .part none (R.llen l) ks.length ∧ h = [(n, [.row true ks l])]

def fitsG : Nat → List GK → List (AV R) → Heap R → Prop
  | _, [], l, h => l = [] ∧ h = []
  | n, g :: r, l, h => ∃ a l', l = a :: l' ∧ ∃ h1 h2, h = h1 ++ h2 ∧ g.fits n a h1 ∧ fitsG (n + g.n) r l' h2

def gkN : List GK → Nat
  | [] => 0
  | g :: r => g.n + gkN r

inductive BK where
  | one (g : GK)
  | agg (l : List GK)

def BK.n : BK → Nat
  | .one g => g.n
  | .agg l => gkN l

def BK.fits (n : Nat) : BK → AV R → Heap R → Prop
  | .one g, a, h => g.fits n a h
  | .agg gs, a, h => ∃ l, a = .agg l ∧ fitsG n gs l h

def fitsB : Nat → List BK → List (AV R) → Heap R → Prop
  | _, [], l, h => l = [] ∧ h = []
  | n, g :: r, l, h => ∃ a l', l = a :: l' ∧ ∃ h1 h2, h = h1 ++ h2 ∧ g.fits n a h1 ∧ fitsB (n + g.n) r l' h2

def bkN : List BK → Nat
  | [] => 0
  | g :: r => g.n + bkN r

/-- The cells of a type that is plain data and slices of such. -/
def cellG (P : Program) (n : Nat) (t : TypeId) : Option (List GK) :=
  match P.underlying t with
  | some (.slice e) => match cellK P n e with
    | some ks => if P.cellsOf e == ks.length && ks.length != 0 then some [.sl ks] else none
    | none => none
  | _ => match cellK P n t with
    | some ks => some (ks.map .one)
    | none => none

def cellGFs (P : Program) (ck : TypeId → Option (List GK)) : List Field → List GK → Option (List GK)
  | [], acc => some acc
  | f :: r, acc => match ck f.type with
    | some s => if f.offset == acc.length && P.cellsOf f.type == s.length then cellGFs P ck r (acc ++ s) else none
    | none => none

def cellGs (P : Program) : Nat → TypeId → Option (List GK)
  | 0, _ => none
  | n + 1, t =>
    match P.underlying t with
    | some (.struct fs) => match cellGFs P (cellGs P n) fs.toList [] with
      | some ks => if P.cellsOf t == ks.length then some ks else none
      | none => none
    | _ => cellG P 6 t

def argB1 (P : Program) (t : TypeId) : Option BK :=
  match P.underlying t with
  | some (.struct _) => match cellGs P 6 t with
    | some ks => if P.cellsOf t == ks.length then some (.agg ks) else none
    | none => none
  | some (.slice _) => match cellG P 6 t with
    | some [g] => some (.one g)
    | _ => none
  | _ => match argK1 P t with
    | some (.one k) => some (.one (.one k))
    | some (.agg ks) => some (.agg (ks.map .one))
    | none => none

def argBs (P : Program) : List TypeId → Option (List BK)
  | [] => some []
  | t :: r => match argB1 P t, argBs P r with
    | some k, some l => some (k :: l)
    | _, _ => none

/-- What is known of names for arguments: none from n on, none that is one's own. -/
structure ArgNm (ρ : Nm) (n : Nat) (w : World) : Prop where
  no : ∀ m, n ≤ m → ρ.pl m = none
  ro : ∀ m, ρ.st m = .ro
  lt : ∀ m b, ρ m = some b → b < w.heap.size

def Nm.args : Nm := ⟨fun _ => none, fun _ => .ro⟩
theorem ArgNm.nil (w : World) : ArgNm Nm.args 0 w := ⟨fun _ _ => rfl, fun _ => rfl, fun _ _ h => by cases h⟩

theorem ArgNm.put {ρ : Nm} {n : Nat} {w : World} (h : ArgNm ρ n w) {p : Plc} (hp : ∀ b, p.b = some b → b < w.heap.size) : ArgNm (ρ.put n p .ro) (n + 1) w where
  no m hm := by rw [Nm.put_pl_ne ρ p .ro (by omega)]; exact h.no m (by omega)
  ro m := by
    by_cases e : m = n
    · subst e; exact Nm.put_st ρ m p .ro
    · rw [Nm.put_st_ne ρ p .ro e]; exact h.ro m
  lt m b hb := by
    by_cases e : m = n
    · subst e
      obtain ⟨q, h1, h2⟩ := Nm.pl_of hb
      rw [Nm.put_pl] at h1; cases h1
      exact hp b h2
    · rw [Nm.bl_congr (Nm.put_pl_ne ρ p .ro e)] at hb
      exact h.lt m b hb

theorem ArgNm.inj {ρ : Nm} {n : Nat} {w : World} (h : ArgNm ρ n w) : Inj ρ w := ⟨h.lt, fun n m b _ _ h1 _ => by rw [h.ro] at h1; cases h1⟩

theorem ArgNm.knows {ρ : Nm} {n : Nat} {w : World} (h : ArgNm ρ n w) (p : Plc) : Knows ρ (ρ.put n p .ro) := Nm.put_knows ρ p .ro (h.no n (Nat.le_refl _))

/-- Memory of arguments, seen by names that know more. -/
theorem HR.args {ρ ρ' : Nm} {n m : Nat} {h : Heap R} {w : World} (hH : HR ρ h w) (h1 : ArgNm ρ n w) (h2 : ArgNm ρ' m w) (kn : Knows ρ ρ') : HR ρ' h w := fun k blk hg =>
  (hH k blk hg).keep kn (by rw [h1.ro, h2.ro]) fun _ _ => rfl

theorem HR.app {ρ : Nm} {h1 h2 : Heap R} {w : World} (a : HR ρ h1 w) (b : HR ρ h2 w) : HR ρ (h1 ++ h2) w := fun k blk hg => by
  rw [hget_append] at hg
  cases hk : hget h1 k with
  | some x => rw [hk] at hg; cases hg; exact a k _ hk
  | none => rw [hk, Option.none_or] at hg; exact b k _ hg

theorem fits_elem : ∀ {ks : List CK} {as : List (AV R)}, fitsL ks as → ∃ e : List Cell, fitE ks e ∧ as = elemA ks e
  | [], as, h => by cases h; exact ⟨[], trivial, rfl⟩
  | k :: ks, as, ⟨a, r, e, h1, h2⟩ => by
    subst e
    obtain ⟨e, g1, g2⟩ := fits_elem h2
    subst g2
    cases k with
    | f => obtain ⟨x, rfl⟩ := h1; exact ⟨.f x :: e, ⟨trivial, g1⟩, rfl⟩
    | b => obtain ⟨x, rfl⟩ := h1; exact ⟨.b x :: e, ⟨trivial, g1⟩, rfl⟩
    | z i => obtain ⟨x, hx, rfl⟩ := h1; exact ⟨.z x :: e, ⟨hx, g1⟩, rfl⟩

section
variable {H : Type} {enc : TypeId × Value → H} {P : Program} {w : World} {base : Nat} {held : Bool}

/-- A slice of plain data, opened: a row. -/
theorem open_sl {t e : TypeId} {ks : List CK} {m : Nat} (hu : P.underlying t = some (.slice e)) (hk : cellK P m e = some ks) (hc : P.cellsOf e = ks.length) (hk0 : ks.length ≠ 0) {fuel : Nat} {cs : List Value} {x : DataW H × List MemPlace}
    (hx : DataW.trod enc P w base (fun _ => true) held fuel t cs = some x) {ρ : Nm} {n : Nat} :
    ∃ (l : Row) (p : Plc) (v : Value), cs = [v] ∧ okRow ks l ∧ (∀ b, p.b = some b → b < w.heap.size) ∧ VR (ρ.put n p .ro) (.sslice n .part none (R.llen l) ks.length) v ∧ BlkR (ρ.put n p .ro) n w [.row true ks l] := by
  have hnil : ∀ (v : Value) (cap : Nat), v = .slice none 0 0 ∨ (∃ a, v = .slice a 0 cap ∧ cap ≤ maxLen ∧ (a = none → cap = 0)) → ∃ (l : Row) (p : Plc), okRow ks l ∧ (∀ b, p.b = some b → b < w.heap.size) ∧ VR (ρ.put n p .ro) (.sslice n .part none (R.llen l) ks.length) v ∧ BlkR (ρ.put n p .ro) n w [.row true ks l] := by
    intro v cap hv
    refine ⟨[], nilP, ⟨fun _ h => (nomatch h), by decide⟩, fun b hb => (by cases hb), ?_, .row (Nm.put_pl ρ n nilP .ro) (by rw [Nm.put_st]; simp) (fun h => by cases h) (RowAt.nil ks w) (fun h => by cases h)⟩
    rcases hv with rfl | ⟨a, rfl, h1, h2⟩
    · exact ⟨nilP, none, 0, Nm.put_pl ρ n nilP .ro, rfl, ⟨by decide, by decide, by decide, by decide, by decide, by decide, fun _ => rfl, fun h => (by cases h), fun h => (by cases h), fun h => (by rcases h with h | h <;> simp at h)⟩⟩
    · exact ⟨nilP, a, cap, Nm.put_pl ρ n nilP .ro, rfl, ⟨by decide, by decide, by decide, by decide, by simp, by unfold maxLen at h1; exact h1, h2, fun h => (by cases h), fun h => (by cases h), fun h => (by rcases h with h | h <;> simp at h)⟩⟩
  rcases Deep.open_slice hu hx with ⟨rfl, _⟩ | ⟨a, len, cap, q, n', D, Pl, rfl, _, hlc, hmax, hq, _, hall⟩
  · obtain ⟨l, p, h1, h2, h3, h4⟩ := hnil (.slice none 0 0) 0 (.inl rfl)
    exact ⟨l, p, _, rfl, h1, h2, h3, h4⟩
  simp only [if_true] at hq
  subst hq
  by_cases hl0 : len = 0
  · subst hl0
    obtain ⟨l, p, h1, h2, h3, h4⟩ := hnil (.slice (some a) 0 q) q (.inr ⟨some a, rfl, hmax, fun h => by cases h⟩)
    exact ⟨l, p, _, rfl, h1, h2, h3, h4⟩
  have hel : ∀ i, i < len → ∃ e : List Cell, fitE ks e ∧ ∃ cs' : List Value, cs'.length = ks.length ∧ VRs Nm.nil (elemA ks e) cs' ∧ ∀ j, j < ks.length → w.cell? ((a.add (i * ks.length)).add j) = cs'[j]? := by
    intro i hi
    obtain ⟨cs', h1, h2⟩ := hall i (by omega)
    rw [hc] at h1
    obtain ⟨_, g1, g2⟩ := World.cells?_some h1
    obtain ⟨as, k1, k2⟩ := cells_sound (ρ := Nm.nil) m e ks hk _ _ _ h2 g1
    obtain ⟨e, q1, q2⟩ := fits_elem k1
    subst q2
    exact ⟨e, q1, cs', g1, k2, g2⟩
  -- the block
  obtain ⟨e0, f0, cs0, c0, v0, g0⟩ := hel 0 (by omega)
  have hcell0 := g0 0 (by omega)
  have hadd0 : (a.add (0 * ks.length)).add 0 = a := by simp [Addr.add]
  rw [hadd0] at hcell0
  have hsome : (cs0[0]?).isSome = true := by rw [List.getElem?_eq_getElem (by omega)]; rfl
  have hblk : ∃ cs ty fz, w.heap[a.block]? = some (.cells cs ty fz) ∧ a.spot = none := by
    rw [← hcell0] at hsome
    unfold World.cell? at hsome
    split at hsome
    · rename_i c ty fz hb
      refine ⟨c, ty, fz, hb, ?_⟩
      cases hs : a.spot with
      | none => rfl
      | some s => simp [hs] at hsome
    · cases hsome
  obtain ⟨cs, ty, fz, hb, hspot⟩ := hblk
  have ha : a = ⟨a.block, a.off, none⟩ := by rw [← hspot]
  have hget : ∀ i j, i < len → j < ks.length → w.cell? ((a.add (i * ks.length)).add j) = cs[a.off + i * ks.length + j]? := by
    intro i j _ _
    rw [Deep.add_add]
    have : a.add (i * ks.length + j) = ⟨a.block, a.off + (i * ks.length + j), none⟩ := by
      unfold Addr.add
      by_cases h : i * ks.length + j = 0
      · rw [if_pos h, h, Nat.add_zero]; exact ha
      · rw [if_neg h]
    rw [this]
    unfold World.cell?
    simp only [hb]
    simp [Nat.add_assoc]
  obtain ⟨E, hE⟩ := Deep.choose_lt (α := List Cell) hel
  let l : Row := (List.range len).map E
  have hrows : ∀ k, k ≤ len → VRs Nm.nil (rowA ks ((List.range k).map E)) ((cs.toList.drop a.off).take (k * ks.length)) ∧ (k ≠ 0 → a.off + k * ks.length ≤ cs.size) := by
    intro k
    induction k with
    | zero => intro _; simp [rowA, VRs]
    | succ k ih =>
      intro hk'
      obtain ⟨i1, i2⟩ := ih (by omega)
      obtain ⟨q1, cs', q2, q3, q4⟩ := hE k (by omega)
      have hsz : a.off + k * ks.length + ks.length ≤ cs.size := by
        have h1 := q4 (ks.length - 1) (by omega)
        rw [hget k (ks.length - 1) (by omega) (by omega)] at h1
        have h2 : (cs'[ks.length - 1]?).isSome = true := by rw [List.getElem?_eq_getElem (by omega)]; rfl
        rw [← h1] at h2
        have h3 : a.off + k * ks.length + (ks.length - 1) < cs.size := by
          by_cases hlt : a.off + k * ks.length + (ks.length - 1) < cs.size
          · exact hlt
          · rw [Array.getElem?_eq_none (by omega)] at h2; cases h2
        omega
      have hmul : (k + 1) * ks.length = k * ks.length + ks.length := Nat.succ_mul _ _
      refine ⟨?_, fun _ => by rw [hmul]; omega⟩
      rw [List.range_succ, List.map_append, hmul]
      have hpiece : ((cs.toList.drop a.off).drop (k * ks.length)).take ks.length = cs' := by
        apply List.ext_getElem?
        intro j
        rw [List.getElem?_take]
        split
        · rename_i hj
          rw [List.drop_drop, List.getElem?_drop, Array.getElem?_toList, ← q4 j hj, hget k j (by omega) hj]
        · rename_i hj
          rw [List.getElem?_eq_none (by omega)]
      have htk : (cs.toList.drop a.off).take (k * ks.length + ks.length) = (cs.toList.drop a.off).take (k * ks.length) ++ cs' := by
        rw [List.take_add, hpiece]
      have hra : rowA ks (List.map E (List.range k) ++ List.map E [k]) = rowA ks (List.map E (List.range k)) ++ elemA ks (E k) := by
        simp [rowA, List.flatMap_append]
      rw [htk, hra]
      exact VRs.append i1 q3
  obtain ⟨hv, hsz⟩ := hrows len (Nat.le_refl _)
  have hll : l.length = len := by simp [l]
  let p : Plc := ⟨some a.block, a.off, len, len⟩
  have hlt : a.block < w.heap.size := by
    by_cases h : a.block < w.heap.size
    · exact h
    · rw [Array.getElem?_eq_none (by omega)] at hb; cases hb
  have hm' : (len : Int) ≤ 2 ^ 63 - 1 := by unfold maxLen at hmax; omega
  refine ⟨l, p, _, rfl, ⟨fun e he => ?_, by rw [hll]; exact hm'⟩, fun b hb' => by cases hb'; exact hlt, ?_, ?_⟩
  · obtain ⟨i, hi, rfl⟩ := List.mem_map.1 he
    exact (hE i (List.mem_range.1 hi)).1
  · have e1 : (R.llen l : Int) = (len : Int) := by show ((l.length : Nat) : Int) = _; rw [hll]
    rw [e1]
    refine ⟨p, some a, q, Nm.put_pl ρ n p .ro, by simp, ⟨by omega, by decide, ?_, ?_, ?_, ?_, fun h => (by cases h), fun h => (by cases h), fun h => (by cases h), fun _ => ?_⟩⟩
    · show len ≤ 2 ^ 63 - 1; omega
    · show (0 : Int).toNat + (len : Int).toNat ≤ len; simp
    · simpa using hlc
    · unfold maxLen at hmax; exact hmax
    · rw [ha]; simp [p]
  · refine .row (Nm.put_pl ρ n p .ro) (by rw [Nm.put_st]; simp) (fun h => by cases h) ⟨hll, fun e he => ?_, Nat.le_refl _, .inr ⟨a.block, cs, ty, fz, rfl, hb, hsz hl0, hv⟩⟩ (fun h => by cases h)
    obtain ⟨i, hi, rfl⟩ := List.mem_map.1 he
    exact (hE i (List.mem_range.1 hi)).1

/-- Values and memory of arguments, opened. -/
def OpenG (ks : List GK) (w : World) (ρ : Nm) (n : Nat) (cs : List Value) : Prop :=
  ∃ ρ' as h, Knows ρ ρ' ∧ ArgNm ρ' (n + gkN ks) w ∧ fitsG n ks as h ∧ VRs ρ' as cs ∧ HR ρ' h w

theorem gkN_append : ∀ (a b : List GK), gkN (a ++ b) = gkN a + gkN b
  | [], b => by simp [gkN]
  | g :: a, b => by simp [gkN, gkN_append a b, Nat.add_assoc]

theorem fitsG_append : ∀ {a b : List GK} {n : Nat} {l m : List (AV R)} {h k : Heap R}, fitsG n a l h → fitsG (n + gkN a) b m k → fitsG n (a ++ b) (l ++ m) (h ++ k)
  | [], b, n, l, m, h, k, ⟨h1, h2⟩, g => by subst h1; subst h2; simpa [gkN] using g
  | x :: a, b, n, l, m, h, k, ⟨y, l', e1, h1, h2, e2, g1, g2⟩, g => by
    subst e1; subst e2
    refine ⟨y, l' ++ m, rfl, h1, h2 ++ k, by simp, g1, fitsG_append g2 ?_⟩
    rw [Nat.add_assoc]
    exact g

theorem fitsL_G : ∀ {ks : List CK} {as : List (AV R)} (n : Nat), fitsL ks as → fitsG n (ks.map .one) as []
  | [], as, n, h => by cases h; exact ⟨rfl, rfl⟩
  | k :: ks, as, n, ⟨a, r, e, h1, h2⟩ => ⟨a, r, e, [], [], rfl, ⟨h1, rfl⟩, fitsL_G (n + 0) h2⟩

theorem gkN_ones : ∀ (ks : List CK), gkN (ks.map .one) = 0
  | [] => rfl
  | _ :: ks => by simp [gkN, GK.n, gkN_ones ks]

theorem HR.nil' (ρ : Nm) (w : World) : HR ρ [] w := fun n blk h => by cases h

theorem cellG_sound {m : Nat} {t : TypeId} {ks : List GK} (hk : cellG P m t = some ks) {fuel : Nat} {cs : List Value} {x : DataW H × List MemPlace} (hx : DataW.trod enc P w base (fun _ => true) held fuel t cs = some x) (hl : cs.length = ks.length)
    {ρ : Nm} {n : Nat} (hρ : ArgNm ρ n w) : OpenG ks w ρ n cs := by
  unfold cellG at hk
  split at hk
  · rename_i e hu
    split at hk
    · rename_i q hq
      split at hk
      · rename_i hc
        simp only [Bool.and_eq_true, beq_iff_eq, bne_iff_ne] at hc
        cases hk
        obtain ⟨l, p, v, rfl, h1, h2, h3, h4⟩ := open_sl (ρ := ρ) (n := n) hu hq hc.1 hc.2 hx
        refine ⟨_, [_], [(n, _)], hρ.knows p, by simpa [gkN, GK.n] using hρ.put h2, ⟨_, [], rfl, _, [], (List.append_nil _).symm, ⟨l, h1, rfl, rfl⟩, rfl, rfl⟩, ⟨h3, trivial⟩, ?_⟩
        intro k blk hg
        simp only [hget] at hg
        split at hg
        · rename_i e
          have : n = k := by simpa using e
          subst this
          cases hg; exact h4
        · cases hg
      · cases hk
    · cases hk
  · split at hk
    · rename_i q hq
      cases hk
      obtain ⟨as, h1, h2⟩ := cells_sound (ρ := ρ) m t q hq _ _ _ hx (by simpa using hl)
      exact ⟨ρ, as, [], .refl ρ, by rw [gkN_ones]; exact hρ, fitsL_G n h1, h2, HR.nil' ρ w⟩
    · cases hk

theorem cellGFs_pre {ck : TypeId → Option (List GK)} : ∀ {fs : List Field} {acc q : List GK}, cellGFs P ck fs acc = some q → ∃ q', q = acc ++ q'
  | [], acc, q, h => ⟨[], by simp only [cellGFs] at h; cases h; simp⟩
  | f :: r, acc, q, h => by
    simp only [cellGFs] at h
    split at h
    · split at h
      · obtain ⟨q', e⟩ := cellGFs_pre h; exact ⟨_ ++ q', e.trans (List.append_assoc _ _ _)⟩
      · cases h
    · cases h

theorem cellGFs_sound {fuel : Nat} {ck : TypeId → Option (List GK)}
    (hone : ∀ t ks, ck t = some ks → ∀ cs x, DataW.trod enc P w base (fun _ => true) held fuel t cs = some x → cs.length = ks.length → ∀ {ρ : Nm} {n : Nat}, ArgNm ρ n w → OpenG ks w ρ n cs) (cs : List Value) :
    ∀ (fs : List Field) (acc q : List GK), cellGFs P ck fs acc = some (acc ++ q) → acc.length + q.length = cs.length →
      (∀ f ∈ fs, ∃ x, DataW.trod enc P w base (fun _ => true) held fuel f.type ((cs.drop f.offset).take (P.cellsOf f.type)) = some x) → ∀ {ρ : Nm} {n : Nat}, ArgNm ρ n w → OpenG q w ρ n (cs.drop acc.length)
  | [], acc, q, h, hl, _, ρ, n, hρ => by
    simp only [cellGFs] at h
    have : q = [] := by have := Option.some.inj h; simpa using this
    subst this
    refine ⟨ρ, [], [], .refl ρ, by simpa [gkN] using hρ, ⟨rfl, rfl⟩, ?_, HR.nil' ρ w⟩
    have : cs.drop acc.length = [] := List.drop_eq_nil_of_le (by simp at hl; omega)
    rw [this]; trivial
  | f :: fs, acc, q, h, hl, hall, ρ, n, hρ => by
    simp only [cellGFs] at h
    split at h
    · rename_i s hs
      split at h
      · rename_i hc
        simp only [Bool.and_eq_true, beq_iff_eq] at hc
        obtain ⟨q', hq'⟩ := cellGFs_pre h
        have hqq : q = s ++ q' := by rw [List.append_assoc] at hq'; exact List.append_cancel_left hq'
        subst hqq
        obtain ⟨x, hx⟩ := hall f List.mem_cons_self
        rw [hc.1, hc.2] at hx
        have hlen : (s ++ q').length = s.length + q'.length := List.length_append
        obtain ⟨ρ1, a1, h1, k1, n1, f1, v1, m1⟩ := hone _ _ hs _ _ hx (by simp; omega) hρ
        obtain ⟨ρ2, a2, h2, k2, n2, f2, v2, m2⟩ := cellGFs_sound hone cs fs (acc ++ s) q' (by rw [List.append_assoc]; exact h) (by simp; omega) (fun g hg => hall g (List.mem_cons_of_mem _ hg)) n1
        refine ⟨ρ2, a1 ++ a2, h1 ++ h2, fun m p hp => k2 m p (k1 m p hp), ?_, fitsG_append f1 f2, ?_, HR.app (m1.args n1 n2 k2) m2⟩
        · rw [gkN_append, ← Nat.add_assoc]; exact n2
        · have e : cs.drop acc.length = (cs.drop acc.length).take s.length ++ cs.drop (acc ++ s).length := by
            rw [List.length_append, ← List.drop_drop, List.take_append_drop]
          rw [e]
          exact VRs.append (VRs.mono k2 _ _ v1) v2
      · cases h
    · cases h

theorem cellGs_sound : ∀ (m : Nat) (t : TypeId) (ks : List GK), cellGs P m t = some ks → ∀ (fuel : Nat) (cs : List Value) (x : DataW H × List MemPlace), DataW.trod enc P w base (fun _ => true) held fuel t cs = some x → cs.length = ks.length →
    ∀ {ρ : Nm} {n : Nat}, ArgNm ρ n w → OpenG ks w ρ n cs
  | 0, _, _, h, _, _, _, _, _, _, _, _ => by simp [cellGs] at h
  | m + 1, t, ks, h, 0, cs, x, hx, _, _, _, _ => by simp [DataW.trod] at hx
  | m + 1, t, ks, h, fuel + 1, cs, x, hx, hl, ρ, n, hρ => by
    simp only [cellGs] at h
    split at h
    · rename_i fs hu
      split at h
      · rename_i q hq
        split at h
        · cases h
          obtain ⟨xs, m', hm, rfl, hl2, hlen, hf⟩ := DataW.trod_struct hu hx
          cases hm
          have := cellGFs_sound (fun t' ks' h' cs' x' hx' hl' {ρ n} hρ => cellGs_sound m t' ks' h' fuel cs' x' hx' hl' hρ) cs fs.toList [] ks (by simpa using hq) (by simpa using hl.symm) (fun f hf' => by
            obtain ⟨i, hi⟩ := List.getElem?_of_mem hf'
            have hi2 : i < xs.length := by
              have := (List.getElem?_eq_some_iff.1 hi).1
              rw [hlen]; simpa using this
            exact ⟨xs[i], (hf i f (by simpa using hi)).trans (List.getElem?_eq_getElem hi2)⟩) hρ
          simpa using this
        · cases h
      · cases h
    · exact cellG_sound h hx hl hρ

theorem open_argB {t : TypeId} {bk : BK} (h : argB1 P t = some bk) {r : Reach} {b0 : Nat} {v : Value} {d : DataW H} {ps : List MemPlace} (hval : Value.okWide P w r b0 t v) (hd : DataW.Trod enc P w base (fun _ => true) held t v d ps)
    {ρ : Nm} {n : Nat} (hρ : ArgNm ρ n w) : ∃ ρ' a h, Knows ρ ρ' ∧ ArgNm ρ' (n + bk.n) w ∧ bk.fits n a h ∧ VR ρ' a v ∧ HR ρ' h w := by
  have plain : (match argK1 P t with | some (.one k) => some (BK.one (.one k)) | some (.agg ks) => some (.agg (ks.map .one)) | none => none) = some bk → ∃ ρ' a h, Knows ρ ρ' ∧ ArgNm ρ' (n + bk.n) w ∧ bk.fits n a h ∧ VR ρ' a v ∧ HR ρ' h w := by
    intro h
    split at h
    · rename_i k hk
      cases h
      obtain ⟨a, g1, g2⟩ := open_arg (ρ := ρ) hk hval hd
      exact ⟨ρ, a, [], .refl ρ, hρ, ⟨g1, rfl⟩, g2, HR.nil' ρ w⟩
    · rename_i ks hk
      cases h
      obtain ⟨a, ⟨l, rfl, g1⟩, g2⟩ := open_arg (ρ := ρ) hk hval hd
      exact ⟨ρ, .agg l, [], .refl ρ, by simp only [BK.n, gkN_ones]; exact hρ, ⟨l, rfl, fitsL_G n g1⟩, g2, HR.nil' ρ w⟩
    · cases h
  unfold argB1 at h
  split at h
  · rename_i fs hu
    split at h
    · rename_i ks hk
      split at h
      · rename_i hl
        cases h
        simp only [Value.okWide, hu] at hval
        obtain ⟨cs, rfl, h2, _⟩ := hval
        obtain ⟨fuel, hf⟩ := hd
        obtain ⟨ρ', as, hh, k1, n1, f1, v1, m1⟩ := cellGs_sound 6 t ks hk fuel cs.toList _ hf (by simpa [h2] using hl) hρ
        exact ⟨ρ', .agg as, hh, k1, n1, ⟨as, rfl, f1⟩, ⟨cs, rfl, v1⟩, m1⟩
      · cases h
    · cases h
  · rename_i e hu
    split at h
    · rename_i g hk
      cases h
      obtain ⟨fuel, hf⟩ := hd
      have hv1 : ∃ u, v.cells.toList = [u] ∧ u = v := by
        have hv : ∃ o l c, v = .slice o l c := by
          cases v <;> first | exact ⟨_, _, _, rfl⟩ | (exfalso; simp [Value.okWide, hu, Cell.okWide, Cell.ok] at hval)
        obtain ⟨o, l, c, rfl⟩ := hv
        exact ⟨_, rfl, rfl⟩
      obtain ⟨u, e1, e2⟩ := hv1
      rw [e1] at hf
      obtain ⟨ρ', as, hh, k1, n1, ⟨a, l', ea, h1, h2, eh, g1, g2⟩, v1, m1⟩ := cellG_sound hk hf rfl hρ
      obtain ⟨rfl, rfl⟩ := g2
      subst ea; subst eh
      refine ⟨ρ', a, h1, k1, by simpa [gkN, BK.n] using n1, g1, by rw [← e2]; exact v1.1, by simpa using m1⟩
    · cases h
  · exact plain h

theorem open_argsB : ∀ {ts : List TypeId} {bks : List BK}, argBs P ts = some bks → ∀ {vs : List Value} {ds : List (DataW H)} {ps : List MemPlace} {r : Reach} {b0 : Nat}, DataW.TrodAll enc P w base (fun _ => true) held ts vs ds ps →
    (∀ (j : Nat) t v, ts[j]? = some t → vs[j]? = some v → Value.okWide P w r b0 t v) → ∀ {ρ : Nm} {n : Nat}, ArgNm ρ n w → ∃ ρ' as h, Knows ρ ρ' ∧ ArgNm ρ' (n + bkN bks) w ∧ fitsB n bks as h ∧ VRs ρ' as vs ∧ HR ρ' h w
  | [], aks, h, vs, ds, ps, r, b0, ht, _, ρ, n, hρ => by
    simp only [argBs] at h; cases h
    cases vs with
    | nil => exact ⟨ρ, [], [], .refl ρ, hρ, ⟨rfl, rfl⟩, trivial, HR.nil' ρ w⟩
    | cons v vs => exact (ht : False).elim
  | t :: ts, aks, h, vs, ds, ps, r, b0, ht, hv, ρ, n, hρ => by
    simp only [argBs] at h
    split at h
    · rename_i k l h1 h2
      cases h
      cases vs with
      | nil => exact (ht : False).elim
      | cons v vs =>
        cases ds with
        | nil => exact (ht : False).elim
        | cons d ds =>
          obtain ⟨p, q, g1, g2, _⟩ := ht
          obtain ⟨ρ1, a, hh, k1, n1, f1, v1, m1⟩ := open_argB h1 (hv 0 t v rfl rfl) g1 hρ
          obtain ⟨ρ2, as, hh2, k2, n2, f2, v2, m2⟩ := open_argsB h2 g2 (fun j t' v' e1 e2 => hv (j + 1) t' v' (by simpa using e1) (by simpa using e2)) n1
          exact ⟨ρ2, a :: as, hh ++ hh2, fun m p hp => k2 m p (k1 m p hp), by rw [bkN, ← Nat.add_assoc]; exact n2, ⟨a, as, rfl, hh, hh2, rfl, f1, f2⟩, ⟨VR.mono k2 _ _ v1, v2⟩, HR.app (m1.args n1 n2 k2) m2⟩
    · cases h

end

/-- A call with memory that is there, out of what the evaluator says of it. -/
theorem calls_ofH {P : Program} (hP : Prog P) {tbl : Tbl R} (ht : TblOK P tbl) {lt : LTb R} (hh : HooksOK P lt) {n : Nat} {f : FuncId} {args : List (AV R)} {h0 : Heap R} {nx : Nat} {ok : Option Bool} {v : AV R} (h : joinT (D := R) (evFnH P tbl lt n f args h0 nx) = .val ok v) (hok : ∀ o, ok = some o → o = true)
    {w : World} {vals : Array Value} {ρ : Nm} (hρ : ArgNm ρ nx w) (hH : HR ρ h0 w) (hv : VRs ρ args vals.toList) : Calls P f vals w fun e w' => ∃ u, e = .returned u ∧ (∃ ρ', VR ρ' v u) ∧ Old w w' := by
  obtain ⟨r, hr, hle⟩ := joinT_sound _ _ _ h hok
  unfold evFnH at hr
  obtain ⟨out, h1, h2⟩ := T.run_bind_some hr
  have := (Option.some.inj h2)
  subst this
  obtain ⟨_, hcalls⟩ := evFn_calls (body_hooks hP.mixed hP.names ht hh n f) h1 hv hH hρ.inj (fun m hm _ => hρ.no m hm)
  refine Calls.mono hcalls ?_
  rintro e w' ⟨u, rfl, ρ', g1, g2⟩
  refine ⟨u, rfl, ⟨ρ', hle _ _ g1⟩, ⟨g2.size, g2.os, g2.tape, g2.output, fun b hb => g2.frame b hb fun m blk hm hc => ?_⟩⟩
  rcases g2.own m (by rw [hm]; rfl) with g | g
  · rw [Nm.bl_none (hρ.no m g.1)] at hc; cases hc
  · rw [hρ.ro] at g; cases g

/-- A law over plain data and slices, lifted to its row's form. -/
theorem law_liftedB {H : Type} {enc : TypeId × Value → H} {C : Checked} {os : Os} {f : FuncId} {fn : Func} {s : ChangeSpec} {conds : List PathCond} {apart fresh handsOn again : Bool} {bks : List BK} {tb : TypeId}
    (own : ownKnob C.prog.godebug = none) (started : os.Started) (noInit : C.prog.inits.idxOf? f = none) (hfn : C.prog.funcs[f]? = some fn)
    (witness : ∃ (w : World) (tape : Tape) (i : Input), w.os = os ∧ (w.forCall tape i).Shaped C.prog ∧ i.vars = [] ∧ Input.okWide C.prog (w.forCall tape i) .any w.heap.size f i ∧
      s.pre6 enc C.prog fn conds apart (w.forCall tape i).memory i.args ∧ ({} : Assume).holds C.prog (lone (Frame.enter C.prog f i.args .normal) [] (w.forCall tape i)))
    (hl : laidOutB C.prog = true) (hr : fn.params.toList.all (fun t => C.prog.readableRec t && decide (t < C.prog.types.size)) = true) (hres : fn.resultTypes = #[tb]) (htb : C.prog.underlying tb = some .bool) (hvars : s.vars = [])
    (hs : ∀ ds : List (DataW H), ds.length = fn.params.toList.length → (s.fn H ds).results = [.lit (.bool true)] ∧ (s.fn H ds).args = ds ∧ (s.fn H ds).vars = [])
    (hk : argBs C.prog fn.params.toList = some bks)
    (hlaw : ∀ as h, fitsB 0 bks as h → ∀ (w : World) (vals : Array Value) (ρ : Nm), ArgNm ρ (bkN bks) w → HR ρ h w → VRs ρ as vals.toList → Calls C.prog f vals w fun e w' => e = .returned (.bool true) ∧ Old w w') :
    ReturnsInHanded {} C os f .any (s.pre6 enc C.prog fn conds apart) (s.post enc C.prog fn apart fresh handsOn again) := by
  refine returnsInHanded_of_change own started noInit hfn witness ?_
  intro W base args ds gs before hval hW _ _
  have hW' := hW
  obtain ⟨p, q, hA, hV, e, hz, hn⟩ := hW
  obtain ⟨ρ, as, h0, _, n1, f1, v1, m1⟩ := open_argsB hk hA (fun j t v e1 e2 => hval j t v (by simpa using e1) (by simpa using e2)) (ArgNm.nil W)
  rw [Nat.zero_add] at n1
  have hlen : ds.length = fn.params.toList.length := by
    have key : ∀ (ts : List TypeId) (vs : List Value) (ds : List (DataW H)) (ps : List MemPlace), DataW.TrodAll enc C.prog W 0 (fun _ => true) true ts vs ds ps → ds.length = ts.length := by
      intro ts
      induction ts with
      | nil =>
        intro vs ds ps h
        cases vs with
        | nil => cases ds with
          | nil => rfl
          | cons _ _ => exact (h : False).elim
        | cons _ _ => exact (h : False).elim
      | cons t ts ih =>
        intro vs ds ps h
        cases vs with
        | nil => exact (h : False).elim
        | cons v vs => cases ds with
          | nil => exact (h : False).elim
          | cons d ds =>
            obtain ⟨_, _, _, h2, _⟩ := h
            simp [ih vs ds _ h2]
    exact key _ _ _ _ hA
  refine (hlaw as h0 f1 W args ρ n1 m1 v1).mono ?_
  rintro e W' ⟨rfl, ho⟩
  exact ⟨_, rfl, law_post hl hr hres htb hvars (hs ds hlen) hW' ho⟩

end Go.Ev
/- How loops end: by a path that is told, or by what stays true and what grows less. -/
namespace Go.Ev

section
variable {α : Type} {step : α → Bool × Bool × α} {p q : α}

theorem EndsAt.uniq {n m : Nat} (h : EndsAt step p n) (g : EndsAt step p m) : n = m := by
  rcases Nat.lt_trichotomy n m with hlt | rfl | hlt
  · have := (g.1 n hlt).1; rw [h.2] at this; cases this
  · rfl
  · have := (h.1 m hlt).1; rw [g.2] at this; cases this

theorem endsP_of {n : Nat} (h : EndsAt step p n) : endsP step p = true ∧ lastP step p = itP step n p := by
  have hex : ∃ n, EndsAt step p n := ⟨n, h⟩
  refine ⟨@decide_eq_true _ (_) hex, ?_⟩
  unfold lastP
  rw [dif_pos hex, (Classical.choose_spec hex).uniq h]

/-- A loop whose path is told. -/
theorem ends_path (f : Nat → α) (n : Nat) (h0 : f 0 = p) (hs : ∀ i, i < n → step (f i) = (true, true, f (i + 1))) (hn : (step (f n)).1 = false) : endsP step p = true ∧ lastP step p = f n := by
  have hit : ∀ i, i ≤ n → itP step i p = f i := by
    intro i
    induction i with
    | zero => intro _; exact h0.symm
    | succ i ih => intro hi; rw [itP_succ, ih (by omega), hs i (by omega)]
  have : EndsAt step p n := by
    refine ⟨fun i hi => ?_, by rw [hit n (Nat.le_refl _)]; exact hn⟩
    rw [hit i (by omega), hs i hi]
    exact ⟨rfl, rfl⟩
  obtain ⟨h1, h2⟩ := endsP_of this
  exact ⟨h1, by rw [h2, hit n (Nat.le_refl _)]⟩

/-- A loop in which something stays true and something grows less. -/
theorem ends_inv (I : α → Prop) (μ : α → Nat) (h0 : I p) (hs : ∀ q, I q → (step q).1 = true → (step q).2.1 = true ∧ I (step q).2.2 ∧ μ (step q).2.2 < μ q) :
    endsP step p = true ∧ I (lastP step p) ∧ (step (lastP step p)).1 = false := by
  have key : ∀ k q, μ q = k → I q → ∃ n, EndsAt step q n ∧ I (itP step n q) ∧ (step (itP step n q)).1 = false := by
    intro k
    induction k using Nat.strongRecOn with
    | _ k ih =>
      intro q hk hq
      cases hc : (step q).1 with
      | false => exact ⟨0, ⟨fun i hi => absurd hi (Nat.not_lt_zero _), hc⟩, hq, hc⟩
      | true =>
        obtain ⟨g1, g2, g3⟩ := hs q hq hc
        obtain ⟨n, e1, e2, e3⟩ := ih _ (hk ▸ g3) _ rfl g2
        refine ⟨n + 1, ⟨fun i hi => ?_, e1.2⟩, e2, e3⟩
        cases i with
        | zero => exact ⟨hc, g1⟩
        | succ i => exact e1.1 i (by omega)
  obtain ⟨n, h1, h2, h3⟩ := key _ p rfl h0
  obtain ⟨g1, g2⟩ := endsP_of h1
  rw [g2]
  exact ⟨g1, h2, h3⟩

/-- A loop that does not go on at all. -/
theorem ends_none (h : (step p).1 = false) : endsP step p = true ∧ lastP step p = p := endsP_of (n := 0) ⟨fun _ hi => absurd hi (Nat.not_lt_zero _), h⟩

/-- One round, and on. -/
theorem ends_step (h : step p = (true, true, q)) : endsP step p = endsP step q ∧ (endsP step q = true → lastP step p = lastP step q) := by
  have key : ∀ n, EndsAt step q n ↔ EndsAt step p (n + 1) := by
    intro n
    have hit : ∀ i, itP step (i + 1) p = itP step i q := fun i => by show itP step i (step p).2.2 = _; rw [h]
    constructor
    · intro g
      refine ⟨fun i hi => ?_, by rw [hit]; exact g.2⟩
      cases i with
      | zero => show (step p).1 = true ∧ (step p).2.1 = true; rw [h]; exact ⟨rfl, rfl⟩
      | succ i => rw [hit]; exact g.1 i (by omega)
    · intro g
      exact ⟨fun i hi => by rw [← hit]; exact g.1 (i + 1) (by omega), by rw [← hit]; exact g.2⟩
  have hex : (∃ n, EndsAt step p n) ↔ ∃ n, EndsAt step q n := by
    constructor
    · rintro ⟨n, hn⟩
      cases n with
      | zero => have := hn.2; rw [show itP step 0 p = p from rfl, h] at this; cases this
      | succ n => exact ⟨n, (key n).2 hn⟩
    · rintro ⟨n, hn⟩; exact ⟨n + 1, (key n).1 hn⟩
  constructor
  · unfold endsP
    by_cases g : ∃ n, EndsAt step q n
    · exact (@decide_eq_true _ (_) (hex.2 g)).trans (@decide_eq_true _ (_) g).symm
    · exact (@decide_eq_false _ (_) (fun x => g (hex.1 x))).trans (@decide_eq_false _ (_) g).symm
  · intro g
    have g' : ∃ n, EndsAt step q n := @of_decide_eq_true _ (_) g
    obtain ⟨n, hn⟩ := g'
    rw [(endsP_of hn).2, (endsP_of ((key n).1 hn)).2]
    show itP step n (step p).2.2 = _
    rw [h]

end

/-- A loop gone through. -/
def runL {α : Type} (step : α → Bool × Bool × α) : Nat → α → Option α
  | 0, _ => none
  | n + 1, p => match step p with
    | (false, _, _) => some p
    | (true, true, q) => runL step n q
    | (true, false, _) => none

theorem runL_sound {α : Type} {step : α → Bool × Bool × α} : ∀ {n : Nat} {p q : α}, runL step n p = some q → endsP step p = true ∧ lastP step p = q
  | 0, p, q, h => by cases h
  | n + 1, p, q, h => by
    simp only [runL] at h
    split at h
    · rename_i h1
      cases h
      exact ends_none (by rw [h1])
    · rename_i x h1
      obtain ⟨g1, g2⟩ := runL_sound h
      obtain ⟨k1, k2⟩ := ends_step h1
      exact ⟨k1.trans g1, (k2 g1).trans g2⟩
    · cases h

theorem R_ends (s : List (PD R) → Bool × Bool × List (PD R)) (p : List (PD R)) : R.ends s p = endsP s p := rfl
theorem R_last (s : List (PD R) → Bool × Bool × List (PD R)) (p : List (PD R)) : R.last s p = lastP s p := rfl

/-- A great array of whole numbers of one kind, as a row. -/
def okAr (m : Nat) (k : IntKind) (x : Row) : Prop := x.length = m ∧ ∀ e ∈ x, ∃ v : Int, e = [.z v] ∧ okInt k v

def arCell (k : IntKind) (e : List Cell) : AV R := match e with
  | [.z v] => .si k v
  | _ => .undef

theorem fits_ar {k : IntKind} : ∀ (m : Nat) {n : Nat} {r : List GK} {l : List (AV R)} {h : Heap R}, fitsG n (List.replicate m (GK.one (.z k)) ++ r) l h →
    ∃ x : Row, okAr m k x ∧ ∃ l', l = x.map (arCell k) ++ l' ∧ fitsG n r l' h
  | 0, n, r, l, h, hf => ⟨[], ⟨rfl, fun _ he => (nomatch he)⟩, l, rfl, hf⟩
  | m + 1, n, r, l, h, hf => by
    rw [List.replicate_succ, List.cons_append] at hf
    obtain ⟨a, l', rfl, h1, h2, rfl, ⟨⟨v, hv, rfl⟩, rfl⟩, hr⟩ := hf
    obtain ⟨x, ⟨hx1, hx2⟩, l2, rfl, h3⟩ := fits_ar m hr
    refine ⟨[.z v] :: x, ⟨by simp [hx1], fun e he => ?_⟩, l2, rfl, h3⟩
    rcases List.mem_cons.1 he with rfl | he
    · exact ⟨v, rfl, hv⟩
    · exact hx2 e he

theorem okAr_get {m : Nat} {k : IntKind} {x : Row} (h : okAr m k x) {i : Nat} (hi : i < m) : ∃ v : Int, x[i]? = some [.z v] ∧ okInt k v ∧ R.lz x (i : Int) 0 = v := by
  have hx : i < x.length := by rw [h.1]; exact hi
  obtain ⟨v, hv, ok⟩ := h.2 _ (List.getElem_mem hx)
  have hg : x[i]? = some [.z v] := by rw [List.getElem?_eq_getElem hx, hv]
  exact ⟨v, hg, ok, lz_cell hg⟩

theorem arCells {m : Nat} {k : IntKind} {x : Row} (h : okAr m k x) : x.map (arCell k) = (List.range m).map fun i => AV.si (D := R) k (R.lz x (R.zc (Int.ofNat i)) 0) := by
  apply List.ext_getElem?
  intro i
  rw [List.getElem?_map, List.getElem?_map]
  by_cases hi : i < m
  · obtain ⟨v, hg, _, hz⟩ := okAr_get h hi
    rw [hg, List.getElem?_range hi]
    show some (AV.si k v) = some (AV.si k (R.lz x (i : Int) 0))
    rw [hz]
  · have h1 : x[i]? = none := List.getElem?_eq_none (by rw [h.1]; omega)
    have h2 : (List.range m)[i]? = none := List.getElem?_eq_none (by rw [List.length_range]; omega)
    rw [h1, h2]; rfl

/-- Whole numbers of 64 bits that stay within their bounds. -/
theorem zadd64 {x y : Int} (h : -9223372036854775808 ≤ x + y ∧ x + y ≤ 9223372036854775807) : R.zadd .i64 x y = x + y := IntWalk.i64_in _ h
theorem zsub64 {x y : Int} (h : -9223372036854775808 ≤ x - y ∧ x - y ≤ 9223372036854775807) : R.zsub .i64 x y = x - y := IntWalk.i64_in _ h
theorem zmul64 {x y : Int} (h : -9223372036854775808 ≤ x * y ∧ x * y ≤ 9223372036854775807) : R.zmul .i64 x y = x * y := IntWalk.i64_in _ h
theorem zconv64 {x : Int} (h : -9223372036854775808 ≤ x ∧ x ≤ 9223372036854775807) : R.zconv .i64 x = x := IntWalk.i64_in _ h
theorem zquo64 {x y : Int} (h : 0 ≤ x ∧ x ≤ 9223372036854775807 ∧ 1 ≤ y) : R.zquo .i64 x y = x / y := IntWalk.i64_quo x y h

end Go.Ev
