/- Code, calls, table entries and the rows of laws, out of what the evaluator says. -/
import Derived.ProofKit
import Derived.Laws.Cover2
import Derived.Test.YtaidgkokaeojhaaEv3
/- Code, calls, functions. -/
namespace Go.Ev

def exitOf : Ex → Exit
  | .normal => .normal
  | .exit id => .exit id
  | .ret => .ret

/-- What code that is reckoned comes to. -/
def CodeOK (P : Program) (ev : Code → St R → T Bool (Ex × St R)) : Prop :=
  ∀ c st e st', (ev c st).run = some (e, st') → ∀ (ρ : Nat → Option Nat) (a : Act) (w : World), VRs ρ st.tm a.tmps.toList → HR ρ st.h w → Inj ρ w → Fresh ρ st.nx st'.nx →
    c.wp P (fun x a' w' => x = exitOf e ∧ a'.defers = a.defers ∧ ∃ ρ', VRs ρ' st'.tm a'.tmps.toList ∧ ∃ d, st'.h = d ++ st.h ∧ Step ρ ρ' w w' st.nx st'.nx d st.h) a w

def CodeMono (ev : Code → St R → T Bool (Ex × St R)) : Prop := ∀ c st e st', (ev c st).run = some (e, st') → st.nx ≤ st'.nx

theorem evDraw_pure {P : Program} {call : CallFn R} {all : List Oper} {h0 : Heap R} : ∀ {r : List Oper} {ms : List Nat} {i : Nat} {recs : List (Rec R)} {tm : List (AV R)} {nx : Nat} {tm' : List (AV R)} {recs' : List (Rec R)} {nx' : Nat},
    (evDraw P call all h0 r ms i recs tm nx).run = some (tm', recs', nx') → nx ≤ nx' ∧ Agree (wrOps r) tm' tm
  | [], _, _, _, _, _, _, _, _, h => by simp only [evDraw] at h; cases h; exact ⟨Nat.le_refl _, Agree.refl _ _⟩
  | o :: r, [], _, _, _, _, _, _, _, h => by simp only [evDraw] at h; cases h
  | o :: r, m :: ms, i, recs, tm, nx, tm', recs', nx', h => by
    simp only [evDraw] at h
    obtain ⟨u, h1, h2⟩ := T.run_bind_some h
    obtain ⟨g1, g3⟩ := evDraw_pure h2
    exact ⟨Nat.le_trans (evOper_mono h1) g1, (g3.mono fun _ hi => wrOps_tail o r hi).trans (putT_agree o r tm u.v)⟩

theorem evRegion_pure {P : Program} {call : CallFn R} {ops : List Oper} {draw : Bool} {tm : List (AV R)} {h : Heap R} {nx : Nat} {tm' : List (AV R)} {h' : Heap R} {nx' : Nat}
    (hr : (evRegion P call ops draw tm h nx).run = some (tm', h', nx')) : nx ≤ nx' ∧ (∃ d, h' = d ++ h) ∧ Agree (wrOps ops) tm' tm := by
  unfold evRegion at hr
  split at hr
  · split at hr
    · cases hr
    · split at hr
      · obtain ⟨⟨tm1, recs, nx1⟩, h1, h2⟩ := T.run_bind_some hr
        simp only at h2
        split at h2
        · cases h2
          obtain ⟨g1, g2⟩ := evDraw_pure h1
          obtain ⟨d, e1, _⟩ := heapOf_all recs 0 h
          exact ⟨g1, ⟨d, e1⟩, g2⟩
        · cases h2
      · cases hr
  · exact evSegs_pure _ _ _ _ _ _ _ _ _ hr

def CodePure (ev : Code → St R → T Bool (Ex × St R)) : Prop := ∀ c st e st', (ev c st).run = some (e, st') → st.nx ≤ st'.nx ∧ (∃ d, st'.h = d ++ st.h) ∧ Agree (wrCode c) st'.tm st.tm

/-- What code is taken together, out of what it is. -/
theorem joined_inv {m : Nat} {st : St R} {t : T Bool (Ex × St R)} {e : Ex} {st' : St R} (h : (compact (D := R) m st.tm st.h st.nx t).run = some (e, st'))
    (hp : ∀ e s, t.run = some (e, s) → st.nx ≤ s.nx ∧ (∃ d, s.h = d ++ st.h) ∧ Agree m s.tm st.tm) :
    ∃ s : St R, ∃ d0, t.run = some (e, s) ∧ s.h = d0 ++ st.h ∧ StLe m st.tm st.h st.nx s d0 st' ∧ st.nx ≤ s.nx := by
  obtain ⟨s, g1, g2⟩ := compact_sound h
  obtain ⟨p1, ⟨d0, p2⟩, p3⟩ := hp e s g1
  exact ⟨s, d0, g1, p2, g2 d0 p2 p3, p1⟩

theorem joined_pure {m : Nat} {st : St R} {t : T Bool (Ex × St R)} {e : Ex} {st' : St R} (h : (compact (D := R) m st.tm st.h st.nx t).run = some (e, st'))
    (hp : ∀ e s, t.run = some (e, s) → st.nx ≤ s.nx ∧ (∃ d, s.h = d ++ st.h) ∧ Agree m s.tm st.tm) :
    st.nx ≤ st'.nx ∧ (∃ d, st'.h = d ++ st.h) ∧ Agree m st'.tm st.tm := by
  obtain ⟨s, d0, g1, g2, g3, g4⟩ := joined_inv h hp
  obtain ⟨d, e1, _⟩ := g3.lay
  exact ⟨Nat.le_trans g4 g3.nx, ⟨d, e1⟩, g3.ag⟩

theorem block_pure {P : Program} {tbl : Tbl R} {n id : Nat} {b : Code} {st : St R} (ih : CodePure (evCode P tbl n)) : ∀ e s, ((evCode P tbl n b st).bind fun (e, st') => match e with
      | .exit j => if j = id then (.ret (.normal, st') : T Bool (Ex × St R)) else .ret (.exit j, st')
      | e => .ret (e, st')).run = some (e, s) → st.nx ≤ s.nx ∧ (∃ d, s.h = d ++ st.h) ∧ Agree (wrCode b) s.tm st.tm := by
  intro e s h
  obtain ⟨⟨e1, st1⟩, h1, h2⟩ := T.run_bind_some h
  have m1 := ih _ _ _ _ h1
  simp only at h2
  split at h2
  · split at h2 <;> (cases h2; exact m1)
  · cases h2; exact m1

theorem cond_pure {P : Program} {tbl : Tbl R} {n : Nat} {s : Bool} {a b : Code} {st : St R} (ih : CodePure (evCode P tbl n)) : ∀ e s', (T.node s (evCode P tbl n a st) (evCode P tbl n b st)).run = some (e, s') →
    st.nx ≤ s'.nx ∧ (∃ d, s'.h = d ++ st.h) ∧ Agree (wrCode a ||| wrCode b) s'.tm st.tm := by
  intro e s' h
  rcases run_choose_some h with ⟨_, h⟩ | ⟨_, h⟩
  · obtain ⟨h1, h2, h3⟩ := ih _ _ _ _ h
    exact ⟨h1, h2, h3.left⟩
  · obtain ⟨h1, h2, h3⟩ := ih _ _ _ _ h
    exact ⟨h1, h2, h3.right⟩

theorem evCode_pure (P : Program) (tbl : Tbl R) : ∀ n, CodePure (evCode P tbl n)
  | 0 => fun c st e st' h => by simp only [evCode] at h; cases h
  | n + 1 => fun c st e st' h => by
    have ih := evCode_pure P tbl n
    simp only [evCode] at h
    split at h
    · cases h; exact ⟨Nat.le_refl _, ⟨[], rfl⟩, Agree.refl _ _⟩
    · obtain ⟨⟨tm, hh, nx⟩, h1, h2⟩ := T.run_bind_some h
      cases h2
      exact evRegion_pure h1
    · obtain ⟨⟨e1, st1⟩, h1, h2⟩ := T.run_bind_some h
      obtain ⟨p1, ⟨d1, p2⟩, p3⟩ := ih _ _ _ _ h1
      simp only at h2
      split at h2
      · obtain ⟨q1, ⟨d2, q2⟩, q3⟩ := ih _ _ _ _ h2
        exact ⟨Nat.le_trans p1 q1, ⟨d2 ++ d1, by rw [q2, p2, List.append_assoc]⟩, q3.right.trans p3.left⟩
      · cases h2; exact ⟨p1, ⟨d1, p2⟩, p3.left⟩
    · split at h
      · rename_i t _
        obtain ⟨p1, p2, p3⟩ := ih _ _ _ _ h
        refine ⟨p1, p2, ?_⟩
        cases t
        · exact p3.right
        · exact p3.left
      · exact joined_pure h (cond_pure ih)
      · cases h
    · exact joined_pure h (block_pure ih)
    · rename_i b
      obtain ⟨⟨e1, st1⟩, h1, h2⟩ := T.run_bind_some h
      obtain ⟨p1, ⟨d1, p2⟩, p3⟩ := ih _ _ _ _ h1
      simp only at h2
      split at h2
      · obtain ⟨q1, ⟨d2, q2⟩, q3⟩ := ih _ _ _ _ h2
        exact ⟨Nat.le_trans p1 q1, ⟨d2 ++ d1, by rw [q2, p2, List.append_assoc]⟩, Agree.trans q3 p3⟩
      · cases h2; exact ⟨p1, ⟨d1, p2⟩, p3⟩
    · cases h; exact ⟨Nat.le_refl _, ⟨[], rfl⟩, Agree.refl _ _⟩
    · cases h; exact ⟨Nat.le_refl _, ⟨[], rfl⟩, Agree.refl _ _⟩
    · cases h

theorem evCode_mono (P : Program) (tbl : Tbl R) (n : Nat) : CodeMono (evCode P tbl n) := fun c st e st' h => (evCode_pure P tbl n c st e st' h).1

/-- What code comes to, out of what its ways taken together come to. -/
theorem joined_wp {P : Program} {m : Nat} {st : St R} {t : T Bool (Ex × St R)} {e : Ex} {st' : St R} (h : (compact (D := R) m st.tm st.h st.nx t).run = some (e, st'))
    (hp : ∀ e s, t.run = some (e, s) → st.nx ≤ s.nx ∧ (∃ d, s.h = d ++ st.h) ∧ Agree m s.tm st.tm) {c : Code} {ρ : Nat → Option Nat} {a : Act} {w : World} (hF : Fresh ρ st.nx st'.nx)
    (hw : ∀ s : St R, t.run = some (e, s) → Fresh ρ st.nx s.nx → c.wp P (fun x a' w' => x = exitOf e ∧ a'.defers = a.defers ∧ ∃ ρ', VRs ρ' s.tm a'.tmps.toList ∧ ∃ d, s.h = d ++ st.h ∧ Step ρ ρ' w w' st.nx s.nx d st.h) a w) :
    c.wp P (fun x a' w' => x = exitOf e ∧ a'.defers = a.defers ∧ ∃ ρ', VRs ρ' st'.tm a'.tmps.toList ∧ ∃ d, st'.h = d ++ st.h ∧ Step ρ ρ' w w' st.nx st'.nx d st.h) a w := by
  obtain ⟨s, d0, g1, g2, g3, g4⟩ := joined_inv h hp
  refine wp_mono (hw s g1 fun n a1 a2 => hF n a1 (Nat.lt_of_lt_of_le a2 g3.nx)) ?_
  rintro x a' w' ⟨hx, hd, ρ', ht, d, e1, e2⟩
  have : d0 = d := by rw [g2] at e1; exact List.append_cancel_right e1
  subst this
  obtain ⟨d2, q1, q2⟩ := g3.step g2 e2 hF
  exact ⟨hx, hd, ρ', g3.tm _ _ ht, d2, q1, q2⟩

theorem resV_sound {P : Program} {ρ : Nat → Option Nat} {tm : List (AV R)} {h : Heap R} {a : Act} {w : World} (ht : VRs ρ tm a.tmps.toList) (hH : HR ρ h w) {r : ResultVar} {v : AV R} (hr : resV P tm h r = some v) :
    ∃ u, (match r with | .tmp t => (pure (a.tmps.getD t undef) : Sem Value) | .cell x t => (do loadVar t (← asAddr (a.tmps.getD x undef)))).run P w = .ok u w ∧ VR ρ v u := by
  unfold resV at hr
  split at hr
  · rename_i t
    exact ⟨a.tmps.getD t undef, rfl, opd_sound (x := .tmp t) ht hr⟩
  · rename_i x t
    split at hr
    · rename_i n off hx
      split at hr
      · rename_i blk hg
        obtain ⟨b, hb, he⟩ := opd_sound (x := .tmp x) ht hx
        have he' : a.tmps.getD x undef = .pointer (some ⟨b, off, none⟩) := he
        obtain ⟨b', cs, ty, k1, k2, k3⟩ := hH n blk hg
        rw [k1] at hb; cases hb
        obtain ⟨u, g1, g2⟩ := load_sound k2 k3 hr
        refine ⟨u, ?_, g2⟩
        simp only [he', asAddr, pure_bind]
        exact g1
      · cases hr
    · cases hr

theorem resVs_sound {P : Program} {ρ : Nat → Option Nat} {tm : List (AV R)} {h : Heap R} {a : Act} {w : World} (ht : VRs ρ tm a.tmps.toList) (hH : HR ρ h w) : ∀ {rs : List ResultVar} {vs : List (AV R)}, resVs P tm h rs = some vs →
    ∃ us, (rs.mapM fun (r : ResultVar) => (match r with | .tmp t => (pure (a.tmps.getD t undef) : Sem Value) | .cell x t => (do loadVar t (← asAddr (a.tmps.getD x undef))))).run P w = .ok us w ∧ VRs ρ vs us
  | [], vs, hr => by simp only [resVs] at hr; cases hr; exact ⟨[], rfl, trivial⟩
  | r :: rs, vs, hr => by
    simp only [resVs] at hr
    split at hr
    · rename_i v l h1 h2
      cases hr
      obtain ⟨u, g1, g2⟩ := resV_sound ht hH h1
      obtain ⟨us, k1, k2⟩ := resVs_sound ht hH h2
      refine ⟨u :: us, ?_, ⟨g2, k2⟩⟩
      rw [List.mapM_cons]
      simp only [Sem.run_bind, g1, Result.andThen_ok, k1, Sem.run_pure]
    · cases hr

/-- What a frame's results come to. -/
theorem results_sound {P : Program} {ρ : Nat → Option Nat} {tm : List (AV R)} {h : Heap R} {a : Act} {w : World} {fn : Func} (ht : VRs ρ tm a.tmps.toList) (hH : HR ρ h w) {vs : List (AV R)} (hr : resVs P tm h fn.results.toList = some vs) :
    ∃ v, (results fn a.tmps).run P w = .ok v w ∧ VR ρ (oneOr vs) v := by
  obtain ⟨us, g1, g2⟩ := resVs_sound ht hH hr
  have hm : (results fn a.tmps).run P w = .ok (if h : us.toArray.size = 1 then us.toArray[0] else .tuple us.toArray) w := by
    unfold results
    rw [Sem.run_bind, Array.mapM_eq_mapM_toList, Sem.run_map]
    have : (fn.results.toList.mapM fun (x : ResultVar) => (match x with | .tmp t => (pure (a.tmps.getD t undef) : Sem Value) | .cell x t => (do loadVar t (← asAddr (a.tmps.getD x undef))))).run P w = .ok us w := g1
    erw [this]
    rfl
  refine ⟨_, hm, ?_⟩
  match vs, us, g2 with
  | [], [], _ => exact ⟨#[], rfl, trivial⟩
  | [x], [u], h => exact h.1
  | x :: y :: r, u :: u2 :: us, h => 
    have : ¬ (u :: u2 :: us).toArray.size = 1 := by simp
    rw [dif_neg this]
    exact ⟨_, rfl, by simpa using h⟩
  | [x], u :: u2 :: us, h => exact (h.2 : False).elim
  | x :: y :: r, [u], h => exact (h.2 : False).elim

/-- The table says what the machine does. -/
def TblOK (P : Program) (tbl : Tbl R) : Prop :=
  ∀ f sp, tbl f = some sp → ∀ args r, (sp args).run = some r → ∀ (w : World) (vals : Array Value), VRs (fun _ => none) args vals.toList →
    CF P f vals w fun v w' => VR (fun _ => none) r v ∧ w.heap.size ≤ w'.heap.size ∧ w'.os = w.os ∧ w'.tape = w.tape ∧ w'.output = w.output ∧ ∀ b, b < w.heap.size → w'.heap[b]? = w.heap[b]?

theorem CF.mono {P : Program} {f : FuncId} {args : Array Value} {w : World} {K K' : Value → World → Prop} (h : CF P f args w K) (hk : ∀ v w', K v w' → K' v w') : CF P f args w K' := by
  unfold CF at *
  split
  · rename_i v w' hr; rw [hr] at h; exact hk _ _ h
  · rename_i g as w' hr; rw [hr] at h
    exact Calls.mono h fun e w'' ⟨v, h1, h2⟩ => ⟨v, h1, hk _ _ h2⟩
  · rename_i h1 h2
    split at h
    · rename_i v w' hr; exact absurd hr (h1 v w')
    · rename_i g as w' hr; exact absurd hr (h2 g as w')
    · exact h

/-- Old memory stays, new memory may come. -/
structure Old (w w' : World) : Prop where
  size : w.heap.size ≤ w'.heap.size
  os : w'.os = w.os
  tape : w'.tape = w.tape
  output : w'.output = w.output
  same : ∀ b, b < w.heap.size → w'.heap[b]? = w.heap[b]?

theorem Old.step {ρ : Nat → Option Nat} {w w' : World} {nx : Nat} {h : Heap R} (o : Old w w') (hH : HR ρ h w) (hI : Inj ρ w) : Step ρ ρ w w' nx nx [] h where
  inj := ⟨fun n b hb => Nat.lt_of_lt_of_le (hI.lt n b hb) o.size, hI.inj⟩
  hr := fun n blk hg => by
    obtain ⟨b, cs, ty, h1, h2, h3⟩ := hH n blk hg
    exact ⟨b, cs, ty, h1, by rw [o.same b (hI.lt n b h1)]; exact h2, h3⟩
  old _ _ := rfl
  new n b h1 h2 _ := by omega
  size := o.size
  os := o.os
  tape := o.tape
  output := o.output
  frame b hb _ := o.same b hb
  le := Nat.le_refl _

/-- No function bears the one name that the machine takes aside. -/
def plainNames (P : Program) : Bool := P.funcs.toList.all fun fn => !(fn.name == "runtime.NumGoroutine")

theorem callFunc_body {P : Program} (hn : plainNames P = true) {f : FuncId} {fn : Func} {c : Code} (hf : P.funcs[f]? = some fn) (hb : fn.body = some c) (args : Array Value) (w : World) : (callFunc f args).run P w = .ok (.enter f args) w := by
  have h1 : (fn.name == "runtime.NumGoroutine") = false := by
    unfold plainNames at hn
    rw [List.all_eq_true] at hn
    have := hn fn (Array.mem_toList_iff.2 (Array.mem_of_getElem? hf))
    simpa using this
  have h2 : fn.body.isNone = false := by rw [hb]; rfl
  unfold callFunc
  simp only [Sem.run_bind, run_program, Result.andThen_ok, hf, h1, h2, Bool.false_eq_true, if_false, Sem.run_pure]

theorem evFn_calls {P : Program} {ev : Code → St R → T Bool (Ex × St R)} (hc : CodeOK P ev) {f : FuncId} {args : List (AV R)} {h : Heap R} {nx : Nat} {out : Out R} (hr : (evFnV P ev f args h nx).run = some out)
    {ρ : Nat → Option Nat} {w : World} {vals : Array Value} (ha : VRs ρ args vals.toList) (hH : HR ρ h w) (hI : Inj ρ w) (hF : Fresh ρ nx out.nx) :
    (∃ fn c, P.funcs[f]? = some fn ∧ fn.body = some c) ∧ Calls P f vals w fun e w' => ∃ v, e = .returned v ∧ ∃ ρ', VR ρ' out.v v ∧ Step ρ ρ' w w' nx out.nx out.d h := by
  unfold evFnV at hr
  split at hr
  · cases hr
  · rename_i fn hf
    split at hr
    · cases hr
    · rename_i c hb
      refine ⟨⟨fn, c, hf, hb⟩, ?_⟩
      obtain ⟨⟨e, st⟩, h1, h2⟩ := T.run_bind_some hr
      simp only at h2
      have hlen : args.length = vals.size := by simpa using ha.length
      have htm : VRs ρ (args ++ List.replicate (fn.ntmps - args.length) .undef) (vals ++ Array.replicate (fn.ntmps - vals.size) undef).toList := by
        simp only [Array.toList_append, Array.toList_replicate, hlen]
        exact VRs.append ha (VRs.replicate (a := .undef) (v := undef) rfl _)
      have key : (e = .normal ∨ e = .ret) → ∀ (vs : List (AV R)), resVs P st.tm st.h fn.results.toList = some vs → out.nx = st.nx → out.v = oneOr vs → out.d = keepD out.v nx st.nx (laidOn h st.h) →
          Calls P f vals w fun e w' => ∃ v, e = .returned v ∧ ∃ ρ', VR ρ' out.v v ∧ Step ρ ρ' w w' nx out.nx out.d h := by
        intro he vs hvs e1 e2 e3
        refine calls_of_wp hf hb (wp_mono (hc c _ e st h1 ρ _ w htm hH hI (by rw [← e1]; exact hF)) ?_)
        rintro x a' w' ⟨hx, hdef, ρ', ht', d, hd, st'⟩
        have hH' : HR ρ' st.h w' := by rw [hd]; exact st'.hr
        obtain ⟨v, g1, g2⟩ := results_sound ht' hH' hvs
        have post : ∃ v, (results fn a'.tmps).run P w' = .ok v w' ∧ ∃ v2, Ending.returned v = .returned v2 ∧ ∃ ρ', VR ρ' out.v v2 ∧ Step ρ ρ' w w' nx out.nx out.d h := by
          refine ⟨v, g1, v, rfl, ρ', by rw [e2]; exact g2, ?_⟩
          have hl : laidOn h st.h = d := by rw [hd]; exact laidOn_append d h
          rw [e3, hl, e1]
          unfold keepD
          split
          · exact st'.forget (by rw [← e1]; exact hF) hH
          · exact st'
        have hd0 : a'.defers = [] := hdef
        rcases he with rfl | rfl
        · subst hx; exact ⟨hd0, post⟩
        · subst hx; exact ⟨hd0, post⟩
      cases e with
      | exit id => cases h2
      | normal =>
        simp only at h2
        split at h2
        · rename_i vs hv
          have := (Option.some.inj h2).symm; subst this
          exact key (.inl rfl) vs hv rfl rfl rfl
        · cases h2
      | ret =>
        simp only at h2
        split at h2
        · rename_i vs hv
          have := (Option.some.inj h2).symm; subst this
          exact key (.inr rfl) vs hv rfl rfl rfl
        · cases h2

theorem evCall_sound {P : Program} (hn : plainNames P = true) {tbl : Tbl R} (ht : TblOK P tbl) {ev : Code → St R → T Bool (Ex × St R)} (hc : CodeOK P ev) : CallOK P (evCallV P tbl ev) := by
  intro f args h nx out hr ρ w vals ha hH hI hF
  unfold evCallV at hr
  split at hr
  · rename_i sp hsp
    split at hr
    · rename_i hnp
      obtain ⟨v, h1, h2⟩ := T.run_bind_some hr
      split at h2
      · rename_i hnv
        have := (Option.some.inj h2).symm; subst this
        refine CF.mono (ht f sp hsp args v h1 w vals (VRs.noPtr _ _ hnp ha)) ?_
        rintro u w' ⟨g1, g2, g3, g4, g5, g6⟩
        exact ⟨ρ, VR.noPtr _ _ hnv g1, (Old.mk g2 g3 g4 g5 g6).step hH hI⟩
      · cases h2
    · cases hr
  · obtain ⟨⟨fn, c, hf, hb⟩, hcalls⟩ := evFn_calls hc hr ha hH hI hF
    unfold CF
    rw [callFunc_body hn hf hb vals w]
    exact hcalls

theorem rounds_mono {P : Program} {c : Code} {Q Q' : Exit → Act → World → Prop} (hq : ∀ e a w, Q e a w → Q' e a w) : ∀ (n : Nat) (a : Act) (w : World), Code.rounds P c Q n a w → Code.rounds P c Q' n a w
  | 0, _, _, h => h
  | n + 1, a, w, h => by
    refine wp_mono (h : c.wp P (Exit.then (Code.rounds P c Q n) Q) a w) fun e a' w' he => ?_
    cases e <;> first | exact rounds_mono hq n _ _ he | exact hq _ _ _ he

theorem loop_rounds {P : Program} {tbl : Tbl R} : ∀ n, (∀ m, m < n → CodeOK P (evCode P tbl m)) → ∀ (x : Code) (st : St R) (e : Ex) (st' : St R), (evCode P tbl n (.loop x) st).run = some (e, st') →
    ∀ (ρ : Nat → Option Nat) (a : Act) (w : World), VRs ρ st.tm a.tmps.toList → HR ρ st.h w → Inj ρ w → Fresh ρ st.nx st'.nx →
    Code.rounds P x (fun z a' w' => z = exitOf e ∧ a'.defers = a.defers ∧ ∃ ρ', VRs ρ' st'.tm a'.tmps.toList ∧ ∃ d, st'.h = d ++ st.h ∧ Step ρ ρ' w w' st.nx st'.nx d st.h) n a w
  | 0, _, x, st, e, st', h => by simp only [evCode] at h; cases h
  | n + 1, hall, x, st, e, st', h => by
    intro ρ a w htm hH hI hF
    have ih := hall n (by omega)
    have mono := evCode_mono P tbl n
    simp only [evCode] at h
    obtain ⟨⟨e1, st1⟩, h1, h2⟩ := T.run_bind_some h
    simp only at h2
    have m1 := mono _ _ _ _ h1
    rw [rounds_succ]
    cases e1 with
    | normal =>
      simp only at h2
      have m2 := mono _ _ _ _ h2
      refine wp_mono (ih x st .normal st1 h1 ρ a w htm hH hI (fun n c1 c2 => hF n c1 (by omega))) ?_
      rintro z a1 w1 ⟨hz, hdef, ρ1, ht1, d1, hd1, s1⟩
      subst hz
      have hH1 : HR ρ1 st1.h w1 := by rw [hd1]; exact s1.hr
      have hF1 : Fresh ρ1 st1.nx st'.nx := fun n c1 c2 => by rw [s1.old n (by omega)]; exact hF n (by omega) c2
      refine rounds_mono ?_ n a1 w1 (loop_rounds n (fun m hm => hall m (by omega)) x st1 e st' h2 ρ1 a1 w1 ht1 hH1 s1.inj hF1)
      rintro z2 a2 w2 ⟨hz2, hdef2, ρ2, ht2, d2, hd2, s2⟩
      rw [hd1] at s2 hd2
      exact ⟨hz2, hdef2.trans hdef, ρ2, ht2, d2 ++ d1, by rw [hd2, List.append_assoc], s1.trans s2⟩
    | exit id =>
      cases h2
      refine wp_mono (ih x st (.exit id) _ h1 ρ a w htm hH hI hF) ?_
      rintro z a1 w1 ⟨hz, rest⟩
      subst hz
      exact ⟨rfl, rest⟩
    | ret =>
      cases h2
      refine wp_mono (ih x st .ret _ h1 ρ a w htm hH hI hF) ?_
      rintro z a1 w1 ⟨hz, rest⟩
      subst hz
      exact ⟨rfl, rest⟩

theorem evCode_sound {P : Program} (hP : P.follows .mixedOrders = true) (hn : plainNames P = true) {tbl : Tbl R} (ht : TblOK P tbl) : ∀ n, CodeOK P (evCode P tbl n)
  | 0 => fun c st e st' h => by simp only [evCode] at h; cases h
  | n + 1 => fun c st e st' h ρ a w htm hH hI hF => by
    have ih := evCode_sound hP hn ht n
    have mono := evCode_mono P tbl n
    simp only [evCode] at h
    split at h
    · cases h
      exact wp_skip ⟨rfl, rfl, ρ, htm, [], rfl, Step.refl hH hI⟩
    · obtain ⟨⟨tm, hh, nx⟩, h1, h2⟩ := T.run_bind_some h
      cases h2
      exact region_sound hP (evCall_sound hn ht ih) h1 htm hH hI hF fun ρ' a' w' g1 g2 g3 => ⟨rfl, g1, ρ', g2, g3⟩
    · rename_i x y
      obtain ⟨⟨e1, st1⟩, h1, h2⟩ := T.run_bind_some h
      simp only at h2
      have m1 := mono _ _ _ _ h1
      cases e1 with
      | normal =>
        simp only at h2
        have m2 := mono _ _ _ _ h2
        refine wp_seq (wp_mono (ih x st .normal st1 h1 ρ a w htm hH hI (fun n c1 c2 => hF n c1 (by omega))) ?_)
        rintro z a1 w1 ⟨hz, hdef, ρ1, ht1, d1, hd1, s1⟩
        subst hz
        have hH1 : HR ρ1 st1.h w1 := by rw [hd1]; exact s1.hr
        have hF1 : Fresh ρ1 st1.nx st'.nx := fun n c1 c2 => by rw [s1.old n (by omega)]; exact hF n (by omega) c2
        refine wp_mono (ih y st1 e st' h2 ρ1 a1 w1 ht1 hH1 s1.inj hF1) ?_
        rintro z2 a2 w2 ⟨hz2, hdef2, ρ2, ht2, d2, hd2, s2⟩
        rw [hd1] at s2 hd2
        exact ⟨hz2, hdef2.trans hdef, ρ2, ht2, d2 ++ d1, by rw [hd2, List.append_assoc], s1.trans s2⟩
      | exit id =>
        cases h2
        refine wp_seq (wp_mono (ih x st (.exit id) _ h1 ρ a w htm hH hI hF) ?_)
        rintro z a1 w1 ⟨hz, rest⟩
        subst hz
        exact ⟨rfl, rest⟩
      | ret =>
        cases h2
        refine wp_seq (wp_mono (ih x st .ret _ h1 ρ a w htm hH hI hF) ?_)
        rintro z a1 w1 ⟨hz, rest⟩
        subst hz
        exact ⟨rfl, rest⟩
    · rename_i c x y
      split at h
      · rename_i t hc
        have hv : a.eval c = .bool t := opd_sound htm hc
        exact wp_cond hv (ih _ st e st' h ρ a w htm hH hI hF)
      · rename_i s hc
        have hv : a.eval c = .bool s := opd_sound htm hc
        refine joined_wp h (cond_pure (evCode_pure P tbl n)) hF fun s2 h hF => ?_
        rcases run_choose_some h with ⟨hs, h⟩ | ⟨hs, h⟩
        · exact wp_cond (t := true) (by rw [hv, hs]) (ih _ st e s2 h ρ a w htm hH hI hF)
        · exact wp_cond (t := false) (by rw [hv, hs]) (ih _ st e s2 h ρ a w htm hH hI hF)
      · cases h
    · rename_i id x
      refine joined_wp h (block_pure (evCode_pure P tbl n)) hF fun s2 h hF => ?_
      obtain ⟨⟨e1, st1⟩, h1, h2⟩ := T.run_bind_some h
      simp only at h2
      cases e1 with
      | normal =>
        cases h2
        refine wp_block (wp_mono (ih x st .normal _ h1 ρ a w htm hH hI hF) ?_)
        rintro z a1 w1 ⟨hz, rest⟩
        subst hz
        exact ⟨rfl, rest⟩
      | exit j =>
        simp only at h2
        split at h2
        · rename_i hj
          cases h2
          refine wp_block (wp_mono (ih x st (.exit j) _ h1 ρ a w htm hH hI hF) ?_)
          rintro z a1 w1 ⟨hz, rest⟩
          subst hz
          simp only [exitOf, Exit.inBlock, hj, if_true]
          exact ⟨trivial, rest⟩
        · rename_i hj
          cases h2
          refine wp_block (wp_mono (ih x st (.exit j) _ h1 ρ a w htm hH hI hF) ?_)
          rintro z a1 w1 ⟨hz, rest⟩
          subst hz
          simp only [exitOf, Exit.inBlock, hj, if_false]
          exact ⟨trivial, rest⟩
      | ret =>
        cases h2
        refine wp_block (wp_mono (ih x st .ret _ h1 ρ a w htm hH hI hF) ?_)
        rintro z a1 w1 ⟨hz, rest⟩
        subst hz
        exact ⟨rfl, rest⟩
    · rename_i x
      have h' : (evCode P tbl (n + 1) (.loop x) st).run = some (e, st') := by simpa only [evCode] using h
      exact wp_loop_rounds (n + 1) (loop_rounds (n + 1) (fun m hm => evCode_sound hP hn ht m) x st e st' h' ρ a w htm hH hI hF)
    · cases h
      exact wp_exit ⟨rfl, rfl, ρ, htm, [], rfl, Step.refl hH hI⟩
    · cases h
      exact wp_ret ⟨rfl, rfl, ρ, htm, [], rfl, Step.refl hH hI⟩
    · cases h

end Go.Ev
/- Entries of the table, from what the evaluator says of a function. -/
namespace Go.Ev

theorem joinT_sound : ∀ (t : T Bool (AV R)) (ok : Option Bool) (v : AV R), joinT (D := R) t = .val ok v → (∀ o, ok = some o → o = true) → ∃ r, t.run = some r ∧ Le r v
  | .fail _, ok, v, h, _ => by simp only [joinT] at h; cases h
  | .ret a, ok, v, h, _ => by simp only [joinT] at h; cases h; exact ⟨a, rfl, Le.refl _⟩
  | .node c t e, ok, v, h, hok => by
    simp only [joinT] at h
    cases hc : c with
    | true =>
      subst hc
      simp only [T.run_node, if_true]
      split at h <;> first | (cases h; done) | skip
      · rename_i ok1 v1 h1 h2
        cases h
        refine joinT_sound t _ _ h1 fun o ho => ?_
        subst ho
        have := hok _ rfl
        simpa [R] using this
      · rename_i ok1 v1 h1 h2
        cases h
        have := hok _ rfl
        cases ok1 <;> exact nomatch (show false = true from this)
      · rename_i ok1 v1 ok2 v2 h1 h2
        split at h
        · rename_i u hu
          cases h
          obtain ⟨r, hr, hl⟩ := joinT_sound t _ _ h1 fun o ho => by
            subst ho
            cases ok2 with
            | none => have := hok _ rfl; simpa [R] using this
            | some o2 => have := hok _ rfl; simpa [R] using this
          exact ⟨r, hr, fun ρ w hw => join2_true _ _ _ hu ρ w (hl ρ w hw)⟩
        · cases h
    | false =>
      subst hc
      simp only [T.run_node, Bool.false_eq_true, if_false]
      split at h <;> first | (cases h; done) | skip
      · rename_i ok1 v1 h1 h2
        cases h
        have := hok _ rfl
        cases ok1 <;> exact nomatch (show false = true from this)
      · rename_i ok1 v1 h1 h2
        cases h
        refine joinT_sound e _ _ h2 fun o ho => ?_
        subst ho
        have := hok _ rfl
        simpa [R] using this
      · rename_i ok1 v1 ok2 v2 h1 h2
        split at h
        · rename_i u hu
          cases h
          obtain ⟨r, hr, hl⟩ := joinT_sound e _ _ h2 fun o ho => by
            subst ho
            cases ok1 with
            | none => have := hok _ rfl; simpa [R] using this
            | some o2 => have := hok _ rfl; simpa [R] using this
          exact ⟨r, hr, fun ρ w hw => join2_false _ _ _ hu ρ w (hl ρ w hw)⟩
        · cases h

/-- What the table asks of an entry, at one row of arguments. -/
def Entry (P : Program) (f : FuncId) (args : List (AV R)) (r : AV R) : Prop :=
  ∀ (w : World) (vals : Array Value), VRs (fun _ => none) args vals.toList →
    CF P f vals w fun v w' => VR (fun _ => none) r v ∧ w.heap.size ≤ w'.heap.size ∧ w'.os = w.os ∧ w'.tape = w.tape ∧ w'.output = w.output ∧ ∀ b, b < w.heap.size → w'.heap[b]? = w.heap[b]?

theorem Entry.le {P : Program} {f : FuncId} {as bs : List (AV R)} {r : AV R} (h : Entry P f bs r) (hl : Les as bs) : Entry P f as r := fun w vals hv => h w vals (hl _ _ hv)

theorem HR.nil {ρ : Nat → Option Nat} (w : World) : HR ρ [] w := fun n blk h => by cases h
theorem Inj.none (w : World) : Inj (fun _ => .none) w := { lt := fun _ _ h => (nomatch h), inj := fun _ _ _ h _ => (nomatch h) }

structure Prog (P : Program) : Prop where
  mixed : P.follows .mixedOrders = true
  names : plainNames P = true

/-- A function's entry, from what the evaluator says of it. -/
theorem entry_of {P : Program} (hP : Prog P) {tbl : Tbl R} (ht : TblOK P tbl) {n : Nat} {f : FuncId} {args : List (AV R)} {ok : Option Bool} {v : AV R} (h : joinT (D := R) (evFn P tbl n f args) = .val ok v) (hok : ∀ o, ok = some o → o = true) (hnp : v.noPtr = true) :
    Entry P f args v := by
  intro w vals hv
  obtain ⟨r, hr, hle⟩ := joinT_sound _ _ _ h hok
  unfold evFn at hr
  obtain ⟨out, h1, h2⟩ := T.run_bind_some hr
  have := (Option.some.inj h2)
  subst this
  obtain ⟨⟨fn, c, hf, hb⟩, hcalls⟩ := evFn_calls (evCode_sound hP.mixed hP.names ht n) h1 hv (HR.nil w) (Inj.none w) (fun _ _ _ => rfl)
  unfold CF
  rw [callFunc_body hP.names hf hb vals w]
  refine Calls.mono hcalls ?_
  rintro e w' ⟨u, rfl, ρ', g1, g2⟩
  exact ⟨u, rfl, VR.noPtr _ _ hnp (hle _ _ g1), g2.size, g2.os, g2.tape, g2.output, fun b hb => g2.frame b hb fun _ _ _ hc => by cases hc⟩

/-- The same from what the evaluator's tree comes to, at given floats and numbers. -/
theorem entry_run {P : Program} (hP : Prog P) {tbl : Tbl R} (ht : TblOK P tbl) {n : Nat} {f : FuncId} {args : List (AV R)} {r v : AV R} (hr : (evFn P tbl n f args).run = some r) (hle : Le r v) (hnp : v.noPtr = true) :
    Entry P f args v := by
  intro w vals hv
  unfold evFn at hr
  obtain ⟨out, h1, h2⟩ := T.run_bind_some hr
  have := (Option.some.inj h2)
  subst this
  obtain ⟨⟨fn, c, hf, hb⟩, hcalls⟩ := evFn_calls (evCode_sound hP.mixed hP.names ht n) h1 hv (HR.nil w) (Inj.none w) (fun _ _ _ => rfl)
  unfold CF
  rw [callFunc_body hP.names hf hb vals w]
  refine Calls.mono hcalls ?_
  rintro e w' ⟨u, rfl, ρ', g1, g2⟩
  exact ⟨u, rfl, VR.noPtr _ _ hnp (hle _ _ g1), g2.size, g2.os, g2.tape, g2.output, fun b hb => g2.frame b hb fun _ _ _ hc => by cases hc⟩

/-- What the tree comes to is a test that holds. -/
def isTrueRun : Option (AV R) → Bool
  | some (.sb b) => b
  | some (.kb b) => b
  | _ => false

theorem entry_true {P : Program} (hP : Prog P) {tbl : Tbl R} (ht : TblOK P tbl) {n : Nat} {f : FuncId} {args : List (AV R)} (hr : isTrueRun (evFn P tbl n f args).run = true) : Entry P f args (.kb true) := by
  cases h : (evFn P tbl n f args).run with
  | none => rw [h] at hr; cases hr
  | some r =>
    rw [h] at hr
    cases r <;> first | (cases hr; done) | skip
    · rename_i b
      have : b = true := hr
      subst this
      exact entry_run hP ht h (Le.refl _) rfl
    · rename_i b
      have : b = true := hr
      subst this
      exact entry_run hP ht h (fun _ _ hv => hv) rfl

theorem TblOK.nil (P : Program) : TblOK P (tblOf [] R) := fun f sp h => by cases h

theorem TblOK.cons {P : Program} {l : List (Nat × Spec)} (ht : TblOK P (tblOf l R)) {k : Nat} {sp : Spec} (h : ∀ args r, (sp R args).run = some r → Entry P k args r) : TblOK P (tblOf ((k, sp) :: l) R) := by
  intro f s hf args r hr w vals hv
  simp only [tblOf] at hf
  split at hf
  · rename_i e
    have e' : k = f := by simpa using e
    subst e'
    cases hf
    exact h args r hr w vals hv
  · exact ht f s hf args r hr w vals hv

theorem argF_inv {l : List (AV R)} {k : Fl → List (AV R) → T Bool (AV R)} {r : AV R} (h : (argF (D := R) l k).run = some r) : ∃ x rest, (k x rest).run = some r ∧ ∀ bs, Les rest bs → Les l (.fl x :: bs) := by
  cases l with
  | nil => cases h
  | cons a l => cases a <;> first | (exact ⟨_, _, h, fun bs hb => Les.cons (Le.refl _) hb⟩) | cases h
theorem argB_inv {l : List (AV R)} {k : Bool → List (AV R) → T Bool (AV R)} {r : AV R} (h : (argB (D := R) l k).run = some r) : ∃ x rest, (k x rest).run = some r ∧ ∀ bs, Les rest bs → Les l (.sb x :: bs) := by
  cases l with
  | nil => cases h
  | cons a l => cases a <;> first | (exact ⟨_, _, h, fun bs hb => Les.cons (fun _ _ hv => hv) hb⟩) | cases h
theorem argZ_inv {i : IntKind} {l : List (AV R)} {k : Int → List (AV R) → T Bool (AV R)} {r : AV R} (h : (argZ (D := R) i l k).run = some r) : ∃ x rest, (k x rest).run = some r ∧ ∀ bs, Les rest bs → Les l (.si i x :: bs) := by
  cases l with
  | nil => cases h
  | cons a l =>
    cases a <;> first | (cases h; done) | skip
    · rename_i j n
      by_cases e : i = j
      · subst e
        have h' : (k n l).run = some r := by simpa [argZ, R] using h
        exact ⟨n, l, h', fun bs hb => Les.cons (fun _ _ hv => hv) hb⟩
      · have h' : (if i = j then k (R.zc n) l else T.fail "argZ" : T Bool (AV R)).run = some r := h
        rw [if_neg e] at h'; cases h'
    · rename_i j n
      by_cases e : i = j
      · subst e
        have h' : (k n l).run = some r := by simpa [argZ, R] using h
        exact ⟨n, l, h', fun bs hb => Les.cons (fun _ _ hv => hv) hb⟩
      · have h' : (if i = j then k n l else T.fail "argZ" : T Bool (AV R)).run = some r := h
        rw [if_neg e] at h'; cases h'
theorem argK_inv {i : IntKind} {l : List (AV R)} {k : Int → List (AV R) → T Bool (AV R)} {r : AV R} (h : (argK (D := R) i l k).run = some r) : ∃ x rest, (k x rest).run = some r ∧ ∀ bs, Les rest bs → Les l (.ki i x :: bs) := by
  cases l with
  | nil => cases h
  | cons a l =>
    cases a <;> first | (cases h; done) | skip
    · rename_i j n
      by_cases e : i = j
      · subst e
        have h' : (k n l).run = some r := by simpa [argK, R] using h
        exact ⟨n, l, h', fun bs hb => Les.cons (Le.refl _) hb⟩
      · have h' : (if i = j then k n l else T.fail "argK" : T Bool (AV R)).run = some r := h
        rw [if_neg e] at h'; cases h'
theorem argA_inv {l : List (AV R)} {k : List (AV R) → List (AV R) → T Bool (AV R)} {r : AV R} (h : (argA (D := R) l k).run = some r) : ∃ cs rest, (k cs rest).run = some r ∧ ∀ cs' bs, Les cs cs' → Les rest bs → Les l (.agg cs' :: bs) := by
  cases l with
  | nil => cases h
  | cons a l => cases a <;> first | (exact ⟨_, _, h, fun cs' bs h1 h2 => Les.cons (Le.agg h1) h2⟩) | cases h
theorem arg0_inv {l : List (AV R)} {t : T Bool (AV R)} {r : AV R} (h : (arg0 (D := R) l t).run = some r) : t.run = some r ∧ Les l [] := by
  cases l with
  | nil => exact ⟨h, Les.nil⟩
  | cons a l => cases h

theorem run_okay {ok : Bool} {v r : AV R} (h : (T.node ok (.ret v) (.fail "pre") : T Bool (AV R)).run = some r) : ok = true ∧ r = v := by
  cases ok
  · cases h
  · exact ⟨rfl, (Option.some.inj h).symm⟩

/-- The entry of a root that stands in Go's own library: the square root. -/
theorem entry_sqrt {P : Program} {f : FuncId} {fn : Func} (hf : P.funcs[f]? = some fn) (hb : fn.body = none) (hn : (fn.name == "runtime.NumGoroutine") = false) (h1 : Extern.findNext fn = none) (h2 : Extern.find fn = some Extern.MathSqrt.sqrt) (x : Fl) :
    Entry P f [.fl x] (.fl (R.fsqrt x)) := by
  intro w vals hv
  obtain ⟨v, ws, e, ⟨b, rfl, hb64, rfl⟩, h4⟩ := hv.cons_inv
  have := h4.nil_inv; subst this
  have hvals : vals = #[.float .f64 b] := by rw [← Array.toArray_toList (xs := vals), e]
  subst hvals
  obtain ⟨r, w', g1, g2, g3, g4⟩ := run_sqrt P w b
  have hrun : (callFunc f #[.float .f64 b]).run P w = .ok (.value (.float .f64 r)) w' := by
    unfold callFunc
    simp only [Sem.run_bind, run_program, Result.andThen_ok, hf, hn, hb, Bool.false_eq_true, if_false, Option.isNone_none, if_true, mark, Sem.run, h1, h2, g1, Sem.run_pure]
  unfold CF
  rw [hrun]
  exact ⟨⟨r, rfl, g2, g3⟩, by rw [g4.heap]; exact Nat.le_refl _, g4.os, g4.tape, g4.output, fun b _ => by rw [g4.heap]⟩

/-- The entry of a float by its bits. -/
theorem entry_frombits {P : Program} {f : FuncId} {fn : Func} (hf : P.funcs[f]? = some fn) (hb : fn.body = none) (hn : (fn.name == "runtime.NumGoroutine") = false) (h1 : Extern.findNext fn = none) (h2 : Extern.find fn = some Extern.MathFloatBits.float64frombits) (n : Int) :
    Entry P f [.ki .u64 n] (.fl (R.fc n.toNat)) := by
  intro w vals hv
  obtain ⟨v, ws, e, ⟨rfl, hok⟩, h4⟩ := hv.cons_inv
  have := h4.nil_inv; subst this
  have hvals : vals = #[.int .u64 n] := by rw [← Array.toArray_toList (xs := vals), e]
  subst hvals
  have hx : (Extern.MathFloatBits.float64frombits #[.int .u64 n]).run P w = .ok (.float .f64 n.toNat) w := rfl
  have hrun : (callFunc f #[.int .u64 n]).run P w = .ok (.value (.float .f64 n.toNat)) w := by
    unfold callFunc
    simp only [Sem.run_bind, run_program, Result.andThen_ok, hf, hn, hb, Bool.false_eq_true, if_false, Option.isNone_none, if_true, mark, Sem.run, h1, h2, hx, Sem.run_pure]
  unfold CF
  rw [hrun]
  refine ⟨⟨n.toNat, rfl, ?_, rfl⟩, Nat.le_refl _, rfl, rfl, rfl, fun b _ => rfl⟩
  have : n ≤ 18446744073709551615 := hok.2
  omega

end Go.Ev
/- Arguments that are plain data, opened; and a law's row, out of what the evaluator says. -/
namespace Go.Ev
open Go.ChangeShapes Go.WideShapes Go.ChangeAt Go.RowKit

/-- What a cell is. -/
inductive CK where
  | f
  | b
  | z (k : IntKind)

def CK.fits : CK → AV R → Prop
  | .f, c => ∃ x : Fl, c = .fl x
  | .b, c => ∃ x : Bool, c = .sb x
  | .z k, c => ∃ n : Int, okInt k n ∧ c = .si k n

def fitsL : List CK → List (AV R) → Prop
  | [], l => l = []
  | k :: ks, l => ∃ a r, l = a :: r ∧ k.fits a ∧ fitsL ks r

theorem fitsL.append : ∀ {ks js : List CK} {a b : List (AV R)}, fitsL ks a → fitsL js b → fitsL (ks ++ js) (a ++ b)
  | [], _, _, _, h, h2 => by cases h; exact h2
  | _ :: _, _, _, _, ⟨x, r, e, h1, h2⟩, h3 => by subst e; exact ⟨x, _, rfl, h1, h2.append h3⟩

theorem fitsL.length : ∀ {ks : List CK} {a : List (AV R)}, fitsL ks a → a.length = ks.length
  | [], _, h => by cases h; rfl
  | _ :: _, _, ⟨x, r, e, _, h2⟩ => by subst e; simp [h2.length]

def cellFs (P : Program) (ck : TypeId → Option (List CK)) : List Field → List CK → Option (List CK)
  | [], acc => some acc
  | f :: r, acc => match ck f.type with
    | some s => if f.offset == acc.length && P.cellsOf f.type == s.length then cellFs P ck r (acc ++ s) else none
    | none => none

def repK : Nat → List CK → List CK
  | 0, _ => []
  | m + 1, ks => ks ++ repK m ks

/-- The cells of a type that is plain data. -/
def cellK (P : Program) : Nat → TypeId → Option (List CK)
  | 0, _ => none
  | n + 1, t =>
    match P.underlying t with
    | some (.float .f64) => some [.f]
    | some (.int k) => some [.z k]
    | some .bool => some [.b]
    | some (.struct fs) => match cellFs P (cellK P n) fs.toList [] with
      | some ks => if P.cellsOf t == ks.length then some ks else none
      | none => none
    | some (.array m e) => match cellK P n e with
      | some ks => if P.cellsOf e == ks.length && P.cellsOf t == m * ks.length then some (repK m ks) else none
      | none => none
    | _ => none

theorem repK_length (ks : List CK) : ∀ m, (repK m ks).length = m * ks.length
  | 0 => by simp [repK]
  | m + 1 => by simp [repK, repK_length ks m, Nat.succ_mul, Nat.add_comm]

section
variable {H : Type} {enc : TypeId × Value → H} {P : Program} {w : World} {base : Nat} {spare : Nat → Bool} {held : Bool} {ρ : Nat → Option Nat}

theorem cellFs_pre {ck : TypeId → Option (List CK)} : ∀ {fs : List Field} {acc q : List CK}, cellFs P ck fs acc = some q → ∃ q', q = acc ++ q'
  | [], acc, q, h => ⟨[], by simp only [cellFs] at h; cases h; simp⟩
  | f :: r, acc, q, h => by
    simp only [cellFs] at h
    split at h
    · split at h
      · obtain ⟨q', e⟩ := cellFs_pre h; exact ⟨_ ++ q', e.trans (List.append_assoc _ _ _)⟩
      · cases h
    · cases h

theorem mapM_some {α β : Type} {f : α → Option β} : ∀ {l : List α} {ys : List β}, l.mapM f = some ys → ∀ x ∈ l, ∃ y, f x = some y
  | [], _, _, _, hx => by cases hx
  | a :: l, ys, h, x, hx => by
    rw [List.mapM_cons] at h
    cases ha : f a with
    | none => rw [ha] at h; cases h
    | some y =>
      rw [ha] at h
      cases hl : l.mapM f with
      | none => simp [hl] at h
      | some zs =>
        rcases List.mem_cons.1 hx with rfl | hx
        · exact ⟨y, ha⟩
        · exact mapM_some hl x hx

theorem cells_fields {fuel : Nat} {ck : TypeId → Option (List CK)} (hone : ∀ t ks, ck t = some ks → ∀ cs x, DataW.trod enc P w base spare held fuel t cs = some x → cs.length = ks.length → ∃ as, fitsL ks as ∧ VRs ρ as cs) (cs : List Value) :
    ∀ (fs : List Field) (acc q : List CK), cellFs P ck fs acc = some (acc ++ q) → acc.length + q.length = cs.length →
      (∀ f ∈ fs, ∃ x, DataW.trod enc P w base spare held fuel f.type ((cs.drop f.offset).take (P.cellsOf f.type)) = some x) → ∃ as, fitsL q as ∧ VRs ρ as (cs.drop acc.length)
  | [], acc, q, h, hl, _ => by
    simp only [cellFs] at h
    have : q = [] := by have := Option.some.inj h; simpa using this
    subst this
    refine ⟨[], rfl, ?_⟩
    have : cs.drop acc.length = [] := List.drop_eq_nil_of_le (by simp at hl; omega)
    rw [this]; trivial
  | f :: fs, acc, q, h, hl, hall => by
    simp only [cellFs] at h
    split at h
    · rename_i s hs
      split at h
      · rename_i hc
        simp only [Bool.and_eq_true, beq_iff_eq] at hc
        obtain ⟨q', hq'⟩ := cellFs_pre h
        have hqq : q = s ++ q' := by rw [List.append_assoc] at hq'; exact List.append_cancel_left hq'
        subst hqq
        obtain ⟨x, hx⟩ := hall f List.mem_cons_self
        rw [hc.1, hc.2] at hx
        have hlen : (s ++ q').length = s.length + q'.length := List.length_append
        obtain ⟨a1, h1, h2⟩ := hone _ _ hs _ _ hx (by simp; omega)
        obtain ⟨a2, h3, h4⟩ := cells_fields hone cs fs (acc ++ s) q' (by rw [List.append_assoc]; exact h) (by simp; omega) (fun g hg => hall g (List.mem_cons_of_mem _ hg))
        refine ⟨a1 ++ a2, h1.append h3, ?_⟩
        have e : cs.drop acc.length = (cs.drop acc.length).take s.length ++ cs.drop (acc ++ s).length := by
          rw [List.length_append, ← List.drop_drop, List.take_append_drop]
        rw [e]
        exact VRs.append h2 h4
      · cases h
    · cases h

theorem cells_array {fuel : Nat} {t : TypeId} {ks : List CK} (hone : ∀ cs x, DataW.trod enc P w base spare held fuel t cs = some x → cs.length = ks.length → ∃ as, fitsL ks as ∧ VRs ρ as cs) (cs : List Value) :
    ∀ (m i : Nat), (i + m) * ks.length = cs.length → (∀ j, j < i + m → ∃ x, DataW.trod enc P w base spare held fuel t ((cs.drop (j * ks.length)).take ks.length) = some x) →
      ∃ as, fitsL (repK m ks) as ∧ VRs ρ as (cs.drop (i * ks.length))
  | 0, i, hl, _ => by
    refine ⟨[], rfl, ?_⟩
    rw [List.drop_eq_nil_of_le (by simp at hl; omega)]; trivial
  | m + 1, i, hl, hall => by
    obtain ⟨x, hx⟩ := hall i (by omega)
    have hmul : (i + (m + 1)) * ks.length = i * ks.length + (m * ks.length + ks.length) := by rw [Nat.add_mul, Nat.succ_mul]
    obtain ⟨a1, h1, h2⟩ := hone _ _ hx (by simp; omega)
    obtain ⟨a2, h3, h4⟩ := cells_array hone cs m (i + 1) (by rw [← hl]; congr 1; omega) (fun j hj => hall j (by omega))
    refine ⟨a1 ++ a2, h1.append h3, ?_⟩
    have e : cs.drop (i * ks.length) = (cs.drop (i * ks.length)).take ks.length ++ cs.drop ((i + 1) * ks.length) := by
      rw [Nat.succ_mul, ← List.drop_drop, List.take_append_drop]
    rw [e]
    exact VRs.append h2 h4

theorem okInt_wf {k : IntKind} {n : Int} (h : (Lit.int k n).wf = true) : okInt k n := by
  simp only [Lit.wf, Bool.and_eq_true, decide_eq_true_eq] at h
  exact h

theorem float_wf {b : Nat} (h : (Lit.float .f64 b).wf = true) : b < 2 ^ 64 := by
  simpa [Lit.wf] using h

theorem cells_sound : ∀ (n : Nat) (t : TypeId) (ks : List CK), cellK P n t = some ks → ∀ (fuel : Nat) (cs : List Value) (x : DataW H × List MemPlace), DataW.trod enc P w base spare held fuel t cs = some x → cs.length = ks.length → ∃ as, fitsL ks as ∧ VRs ρ as cs
  | 0, _, _, h, _, _, _, _, _ => by simp [cellK] at h
  | n + 1, t, ks, h, 0, cs, x, hx, _ => by simp [DataW.trod] at hx
  | n + 1, t, ks, h, fuel + 1, cs, x, hx, hl => by
    simp only [cellK] at h
    split at h
    · rename_i hu
      cases h
      obtain ⟨v, rfl⟩ := List.length_eq_one_iff.1 hl
      cases v <;> simp [DataW.trod, hu] at hx
      obtain ⟨⟨rfl, hw⟩, _⟩ := hx
      exact ⟨[.fl (cls _)], ⟨_, _, rfl, ⟨_, rfl⟩, rfl⟩, ⟨_, rfl, float_wf hw, rfl⟩, trivial⟩
    · rename_i k hu
      cases h
      obtain ⟨v, rfl⟩ := List.length_eq_one_iff.1 hl
      cases v <;> simp [DataW.trod, hu] at hx
      obtain ⟨⟨rfl, hw⟩, _⟩ := hx
      exact ⟨[.si _ _], ⟨_, _, rfl, ⟨_, okInt_wf hw, rfl⟩, rfl⟩, ⟨rfl, okInt_wf hw⟩, trivial⟩
    · rename_i hu
      cases h
      obtain ⟨v, rfl⟩ := List.length_eq_one_iff.1 hl
      cases v <;> simp [DataW.trod, hu] at hx
      exact ⟨[.sb _], ⟨_, _, rfl, ⟨_, rfl⟩, rfl⟩, rfl, trivial⟩
    · rename_i fs hu
      split at h
      · rename_i q hq
        split at h
        · cases h
          obtain ⟨xs, m, hm, rfl, hl2, hlen, hf⟩ := DataW.trod_struct hu hx
          cases hm
          have := cells_fields (ρ := ρ) (enc := enc) (w := w) (base := base) (spare := spare) (held := held) (fuel := fuel) (fun t' ks' h' cs' x' hx' hl' => cells_sound n t' ks' h' fuel cs' x' hx' hl') cs fs.toList [] ks (by simpa using hq) (by simpa using hl.symm) (fun f hf' => by
            obtain ⟨i, hi⟩ := List.getElem?_of_mem hf'
            have hi2 : i < xs.length := by
              have := (List.getElem?_eq_some_iff.1 hi).1
              rw [hlen]; simpa using this
            exact ⟨xs[i], (hf i f (by simpa using hi)).trans (List.getElem?_eq_getElem hi2)⟩)
          simpa using this
        · cases h
      · cases h
    · rename_i m e hu
      split at h
      · rename_i q hq
        split at h
        · rename_i hc
          simp only [Bool.and_eq_true, beq_iff_eq] at hc
          cases h
          simp only [DataW.trod, hu] at hx
          split at hx
          · rename_i hcl
            cases hmm : (List.range m).mapM (fun i => DataW.trod enc P w base spare held fuel e ((cs.drop (i * P.cellsOf e)).take (P.cellsOf e))) with
            | none => rw [hmm] at hx; cases hx
            | some ys =>
              have hall := mapM_some hmm
              have := cells_array (ρ := ρ) (enc := enc) (w := w) (base := base) (spare := spare) (held := held) (fuel := fuel) (t := e) (ks := q) (fun cs' x' hx' hl' => cells_sound n e q hq fuel cs' x' hx' hl') cs m 0 (by rw [Nat.zero_add, hcl, hc.2]) (fun j hj => by
                obtain ⟨y, hy⟩ := hall j (List.mem_range.2 (by omega))
                rw [hc.1] at hy
                exact ⟨y, hy⟩)
              simpa using this
          · cases hx
        · cases h
      · cases h
    · cases h

inductive AK where
  | one (k : CK)
  | agg (ks : List CK)

def AK.fits : AK → AV R → Prop
  | .one k, a => k.fits a
  | .agg ks, a => ∃ l, a = .agg l ∧ fitsL ks l

def argK1 (P : Program) (t : TypeId) : Option AK :=
  match P.underlying t with
  | some (.float .f64) => some (.one .f)
  | some (.int k) => some (.one (.z k))
  | some .bool => some (.one .b)
  | some (.struct _) | some (.array _ _) => match cellK P 6 t with
    | some ks => if P.cellsOf t == ks.length then some (.agg ks) else none
    | none => none
  | _ => none

def argKs (P : Program) : List TypeId → Option (List AK)
  | [] => some []
  | t :: r => match argK1 P t, argKs P r with
    | some k, some l => some (k :: l)
    | _, _ => none

def fitsA : List AK → List (AV R) → Prop
  | [], l => l = []
  | k :: ks, l => ∃ a r, l = a :: r ∧ k.fits a ∧ fitsA ks r

theorem open_arg {t : TypeId} {ak : AK} (h : argK1 P t = some ak) {r : Reach} {b0 : Nat} {v : Value} {d : DataW H} {ps : List MemPlace} (hval : Value.okWide P w r b0 t v) (hd : DataW.Trod enc P w base spare held t v d ps) : ∃ a, ak.fits a ∧ VR ρ a v := by
  have agg : ∀ (cs : Array Value), v = .agg cs → cs.size = P.cellsOf t → (match cellK P 6 t with | some ks => if P.cellsOf t == ks.length then some (AK.agg ks) else none | none => none) = some ak → ∃ a, ak.fits a ∧ VR ρ a v := by
    intro cs hv hsz hh
    subst hv
    split at hh
    · rename_i ks hk
      split at hh
      · rename_i hl
        cases hh
        obtain ⟨fuel, hf⟩ := hd
        obtain ⟨as, h1, h2⟩ := cells_sound (ρ := ρ) 6 t ks hk fuel cs.toList _ hf (by simpa [hsz] using hl)
        exact ⟨.agg as, ⟨as, rfl, h1⟩, ⟨cs, rfl, h2⟩⟩
      · cases hh
    · cases hh
  unfold argK1 at h
  split at h
  · rename_i hu
    cases h
    obtain ⟨b, rfl, _, _, hw⟩ := open_float hu hval hd
    exact ⟨.fl (cls b), ⟨_, rfl⟩, ⟨b, rfl, float_wf hw, rfl⟩⟩
  · rename_i k hu
    cases h
    obtain ⟨n, rfl, _, _, hw⟩ := open_int hu hval hd
    exact ⟨.si k n, ⟨n, okInt_wf hw, rfl⟩, ⟨rfl, okInt_wf hw⟩⟩
  · rename_i hu
    cases h
    obtain ⟨b, rfl, _⟩ := open_bool hu hval hd
    exact ⟨.sb b, ⟨b, rfl⟩, rfl⟩
  · rename_i fs hu
    simp only [Value.okWide, hu] at hval
    obtain ⟨cs, h1, h2, _⟩ := hval
    exact agg cs h1 h2 h
  · rename_i m e hu
    simp only [Value.okWide, hu] at hval
    obtain ⟨cs, h1, h2, _⟩ := hval
    exact agg cs h1 h2 h
  · cases h

theorem open_args : ∀ {ts : List TypeId} {aks : List AK}, argKs P ts = some aks → ∀ {vs : List Value} {ds : List (DataW H)} {ps : List MemPlace} {r : Reach} {b0 : Nat}, DataW.TrodAll enc P w base spare held ts vs ds ps →
    (∀ (j : Nat) t v, ts[j]? = some t → vs[j]? = some v → Value.okWide P w r b0 t v) → ∃ as, fitsA aks as ∧ VRs ρ as vs
  | [], aks, h, vs, ds, ps, r, b0, ht, _ => by
    simp only [argKs] at h; cases h
    cases vs with
    | nil => exact ⟨[], rfl, trivial⟩
    | cons v vs => exact (ht : False).elim
  | t :: ts, aks, h, vs, ds, ps, r, b0, ht, hv => by
    simp only [argKs] at h
    split at h
    · rename_i k l h1 h2
      cases h
      cases vs with
      | nil => exact (ht : False).elim
      | cons v vs =>
        cases ds with
        | nil => exact (ht : False).elim
        | cons d ds =>
          obtain ⟨p, q, g1, g2, _⟩ := ht
          obtain ⟨a, k1, k2⟩ := open_arg (ρ := ρ) h1 (hv 0 t v rfl rfl) g1
          obtain ⟨as, k3, k4⟩ := open_args h2 g2 (fun j t' v' e1 e2 => hv (j + 1) t' v' (by simpa using e1) (by simpa using e2))
          exact ⟨a :: as, ⟨a, as, rfl, k1, k3⟩, k2, k4⟩
    · cases h

theorem Old.below {W W' : World} (h : Old W W') : Below W.heap.size W W' := ⟨h.os, h.tape, h.output, h.size, h.same⟩

theorem trodAll_stays (hl : laidOutB P = true) {W W' : World} {sp' : Nat → Bool} : ∀ {ts : List TypeId} {vs : List Value} {ds : List (DataW H)} {ps : List MemPlace}, DataW.TrodAll enc P W base (fun _ => true) true ts vs ds ps →
    ts.all (fun t => P.readableRec t && decide (t < P.types.size)) = true → (∀ p ∈ ps, W.sameAt W' p) → (∀ p ∈ ps, sp' p.block = true) → DataW.TrodAll enc P W' base sp' true ts vs ds ps
  | [], [], [], ps, h, _, _, _ => h
  | t :: ts, v :: vs, d :: ds, ps, ⟨p, q, h1, h2, e⟩, hr, h3, h4 => by
    subst e
    simp only [List.all_cons, Bool.and_eq_true, decide_eq_true_eq] at hr
    exact ⟨p, q, WideElems.Trod_stays hl hr.1.1 hr.1.2 h1 (fun x hx => h3 x (List.mem_append_left _ hx)) (fun x hx => h4 x (List.mem_append_left _ hx)),
      trodAll_stays hl h2 hr.2 (fun x hx => h3 x (List.mem_append_right _ hx)) (fun x hx => h4 x (List.mem_append_right _ hx)), rfl⟩
  | [], [], _ :: _, _, h, _, _, _ => (h : False).elim
  | [], _ :: _, _, _, h, _, _, _ => (h : False).elim
  | _ :: _, [], _, _, h, _, _, _ => (h : False).elim
  | _ :: _, _ :: _, [], _, h, _, _, _ => (h : False).elim

/-- The post of a law: it returns true, and the arguments read as before. -/
theorem law_post {f : Func} {s : ChangeSpec} {apart fresh handsOn again : Bool} {W W' : World} {args : Array Value} {ds gs : List (DataW H)} {before : List MemPlace} {tb : TypeId}
    (hl : laidOutB P = true) (hr : f.params.toList.all (fun t => P.readableRec t && decide (t < P.types.size)) = true) (hres : f.resultTypes = #[tb]) (htb : P.underlying tb = some .bool) (hvars : s.vars = [])
    (hs : (s.fn H ds).results = [.lit (.bool true)] ∧ (s.fn H ds).args = ds ∧ (s.fn H ds).vars = [])
    (hW : DataW.Whole enc P f.params.toList s.vars apart W args.toList ds gs before) (ho : Old W W') : s.post enc P f apart fresh handsOn again W args (.bool true) W' := by
  have hlt := hW.lt
  obtain ⟨p, q, hA, hV, rfl, hz, hn⟩ := hW
  have hV' := hV
  rw [hvars] at hV'
  have hgs : gs = [] ∧ q = [] := by
    cases gs with
    | nil => exact ⟨rfl, hV'⟩
    | cons _ _ => exact (hV' : False).elim
  obtain ⟨rfl, rfl⟩ := hgs
  have same : ∀ x ∈ p, W.sameAt W' x := fun x hx => ho.below.same (by simpa using hlt x (List.mem_append_left _ hx))
  have hargs : ∀ sp : Nat → Bool, (∀ x ∈ p, sp x.block = true) → DataW.TrodAll enc P W' 0 sp true f.params.toList args.toList ds p := fun sp hsp => trodAll_stays hl hA hr same hsp
  have hbool : ∀ (b : Nat) (sp : Nat → Bool) (hd : Bool), DataW.TrodAll enc P W' b sp hd f.resultTypes.toList ((Value.bool true).resultList f.resultTypes.size) [.lit (.bool true)] [] := by
    intro b sp hd
    rw [hres]
    exact trodAll_mk1 (shut_bool htb true)
  have hvr : ∀ (w : World) (sp : Nat → Bool), DataW.TrodVars enc P w sp s.vars [] [] := by intro w sp; rw [hvars]; exact rfl
  have hsd : s.fn H (ds ++ []) = s.fn H ds := by rw [List.append_nil]
  have hfz : ∀ b off, MemPlace.cell b off ∈ p → W'.frozen? ⟨b, off, none⟩ = false := by
    intro b off hp
    have hb : b < W.heap.size := hlt (MemPlace.cell b off) (List.mem_append_left _ hp)
    have := ho.below.frozen (p := ⟨b, off, none⟩) hb
    rw [this]; exact hz b off (List.mem_append_left _ hp)
  refine ⟨ds, [], p ++ [], [], p, [], ⟨p, [], hA, hvr W _, rfl, hz, hn⟩, ?_, ?_, ?_, ?_, fun _ => ?_⟩
  · rw [hsd, hs.1]; exact hbool _ _ _
  · rw [hsd, hs.2.1]
    exact hargs _ fun x hx => by simpa using hlt x (List.mem_append_left _ hx)
  · rw [hsd, hs.2.2]; exact hvr _ _
  · exact World.keptBut_mono (fun _ h => False.elim h) (ho.below.frame (fun _ => False))
  · refine ⟨ok_one hres rfl (okWide_bool_mk htb true), .lit (.bool true) :: ds, [], p ++ [], ⟨[] ++ p, [], ?_, hvr _ _, rfl, ?_, ?_⟩, fun x hx _ => hx⟩
    · have h1 := hbool 0 (fun _ => true) true
      rw [hres] at h1 ⊢
      exact ⟨[], p, shut_bool htb true, hargs _ fun _ _ => rfl, rfl⟩
    · intro b off hp
      exact hfz b off (by simpa using hp)
    · intro ha
      simpa using hn ha

end

/-- A call, out of what the evaluator says of it. -/
theorem calls_of {P : Program} (hP : Prog P) {tbl : Tbl R} (ht : TblOK P tbl) {n : Nat} {f : FuncId} {args : List (AV R)} {ok : Option Bool} {v : AV R} (h : joinT (D := R) (evFn P tbl n f args) = .val ok v) (hok : ∀ o, ok = some o → o = true)
    {w : World} {vals : Array Value} (hv : VRs (fun _ => none) args vals.toList) : Calls P f vals w fun e w' => ∃ u, e = .returned u ∧ (∃ ρ', VR ρ' v u) ∧ Old w w' := by
  obtain ⟨r, hr, hle⟩ := joinT_sound _ _ _ h hok
  unfold evFn at hr
  obtain ⟨out, h1, h2⟩ := T.run_bind_some hr
  have := (Option.some.inj h2)
  subst this
  obtain ⟨_, hcalls⟩ := evFn_calls (evCode_sound hP.mixed hP.names ht n) h1 hv (HR.nil w) (Inj.none w) (fun _ _ _ => rfl)
  refine Calls.mono hcalls ?_
  rintro e w' ⟨u, rfl, ρ', g1, g2⟩
  exact ⟨u, rfl, ⟨ρ', hle _ _ g1⟩, ⟨g2.size, g2.os, g2.tape, g2.output, fun b hb => g2.frame b hb fun _ _ _ hc => by cases hc⟩⟩

/-- A law over plain data, lifted to its row's form. -/
theorem law_lifted {H : Type} {enc : TypeId × Value → H} {C : Checked} {os : Os} {f : FuncId} {fn : Func} {s : ChangeSpec} {conds : List PathCond} {apart fresh handsOn again : Bool} {aks : List AK} {tb : TypeId}
    (own : ownKnob C.prog.godebug = none) (started : os.Started) (noInit : C.prog.inits.idxOf? f = none) (hfn : C.prog.funcs[f]? = some fn)
    (witness : ∃ (w : World) (tape : Tape) (i : Input), w.os = os ∧ (w.forCall tape i).Shaped C.prog ∧ i.vars = [] ∧ Input.okWide C.prog (w.forCall tape i) .any w.heap.size f i ∧
      s.pre6 enc C.prog fn conds apart (w.forCall tape i).memory i.args ∧ ({} : Assume).holds C.prog (lone (Frame.enter C.prog f i.args .normal) [] (w.forCall tape i)))
    (hl : laidOutB C.prog = true) (hr : fn.params.toList.all (fun t => C.prog.readableRec t && decide (t < C.prog.types.size)) = true) (hres : fn.resultTypes = #[tb]) (htb : C.prog.underlying tb = some .bool) (hvars : s.vars = [])
    (hs : ∀ ds : List (DataW H), ds.length = fn.params.toList.length → (s.fn H ds).results = [.lit (.bool true)] ∧ (s.fn H ds).args = ds ∧ (s.fn H ds).vars = [])
    (hk : argKs C.prog fn.params.toList = some aks)
    (hlaw : ∀ as, fitsA aks as → ∀ (w : World) (vals : Array Value), VRs (fun _ => none) as vals.toList → Calls C.prog f vals w fun e w' => e = .returned (.bool true) ∧ Old w w') :
    ReturnsInHanded {} C os f .any (s.pre6 enc C.prog fn conds apart) (s.post enc C.prog fn apart fresh handsOn again) := by
  refine returnsInHanded_of_change own started noInit hfn witness ?_
  intro W base args ds gs before hval hW _ _
  have hW' := hW
  obtain ⟨p, q, hA, hV, e, hz, hn⟩ := hW
  obtain ⟨as, h1, h2⟩ := open_args (ρ := fun _ => none) hk hA (fun j t v e1 e2 => hval j t v (by simpa using e1) (by simpa using e2))
  have hlen : ds.length = fn.params.toList.length := by
    have key : ∀ (ts : List TypeId) (vs : List Value) (ds : List (DataW H)) (ps : List MemPlace), DataW.TrodAll enc C.prog W 0 (fun _ => true) true ts vs ds ps → ds.length = ts.length := by
      intro ts
      induction ts with
      | nil =>
        intro vs ds ps h
        cases vs with
        | nil => cases ds with
          | nil => rfl
          | cons _ _ => exact (h : False).elim
        | cons _ _ => exact (h : False).elim
      | cons t ts ih =>
        intro vs ds ps h
        cases vs with
        | nil => exact (h : False).elim
        | cons v vs => cases ds with
          | nil => exact (h : False).elim
          | cons d ds =>
            obtain ⟨_, _, _, h2, _⟩ := h
            simp [ih vs ds _ h2]
    exact key _ _ _ _ hA
  refine (hlaw as h1 W args h2).mono ?_
  rintro e W' ⟨rfl, ho⟩
  exact ⟨_, rfl, law_post hl hr hres htb hvars (hs ds hlen) hW' ho⟩

end Go.Ev
/- Facts on floats of 64 bits with one no-number, as the evaluator has them. -/
namespace Go.Ev

theorem R_bite (c x y : Bool) : R.bite c x y = (if c then x else y) := rfl
theorem R_fite (c : Bool) (x y : Fl) : R.fite c x y = (if c then x else y) := rfl
theorem R_zite (c : Bool) (x y : Int) : R.zite c x y = (if c then x else y) := rfl
theorem R_bc (b : Bool) : R.bc b = b := rfl
theorem R_bnot (b : Bool) : R.bnot b = !b := rfl
theorem R_band (a b : Bool) : R.band a b = (a && b) := rfl
theorem R_beq (a b : Bool) : R.beq a b = (a == b) := rfl
theorem R_zc (n : Int) : R.zc n = n := rfl
theorem R_zlt (a b : Int) : R.zlt a b = decide (a < b) := rfl
theorem R_zle (a b : Int) : R.zle a b = decide (a ≤ b) := rfl
theorem R_zeq (a b : Int) : R.zeq a b = (a == b) := rfl

/-- Comparison of what two data stand for. -/
theorem order_swap (x y : Ieee.Datum) : y.order x = (x.order y).map Ordering.swap := by
  cases x <;> cases y <;> simp only [Ieee.Datum.order, Option.map_none, Option.map_some]
  case number.number s m i t n j =>
    congr 1
    have e : min j i = min i j := by omega
    rw [e]
    generalize Ieee.signed s m _ = a
    generalize Ieee.signed t n _ = b
    simp only [compare, compareOfLessAndEq]
    split <;> split <;> (try split) <;> (try split) <;> first | rfl | omega
  case infinity.infinity s t => cases s <;> cases t <;> rfl
  case number.infinity s m i t => cases t <;> rfl
  case infinity.number s t n j => cases s <;> rfl

theorem order_self (x : Ieee.Datum) (h : x.isNaN = false) : x.order x = some .eq := by
  cases x <;> simp only [Ieee.Datum.order]
  case number s m i =>
    congr 1
    simp only [compare, compareOfLessAndEq]
    simp
  case infinity s => cases s <;> rfl
  case nan s f => cases h

theorem ford_swap (x y : Fl) : ford y x = (ford x y).map Ordering.swap := by
  cases x <;> cases y <;> first | rfl | exact order_swap _ _

/-- A float as the evaluator has them: a number's bits are no no-number's. -/
def Ok : Fl → Prop
  | some a => isNaN a = false ∧ a < 2 ^ 64
  | none => True

theorem fgt_flt (x y : Fl) : R.fgt x y = R.flt y x := by
  show (ford x y == some .gt) = (ford y x == some .lt)
  rw [ford_swap x y]
  cases ford x y with
  | none => rfl
  | some o => cases o <;> rfl

theorem fge_fle (x y : Fl) : R.fge x y = R.fle y x := by
  show (ford x y == some .gt || ford x y == some .eq) = (ford y x == some .lt || ford y x == some .eq)
  rw [ford_swap x y]
  cases ford x y with
  | none => rfl
  | some o => cases o <;> rfl

theorem feq_comm (x y : Fl) : R.feq x y = R.feq y x := by
  show (ford x y == some .eq) = (ford y x == some .eq)
  rw [ford_swap x y]
  cases ford x y with
  | none => rfl
  | some o => cases o <;> rfl

theorem ford_self (x : Fl) : ford x x = none ∨ ford x x = some .eq := by
  cases x with
  | none => exact .inl rfl
  | some a =>
    show (f64.read a).order (f64.read a) = none ∨ (f64.read a).order (f64.read a) = some .eq
    cases h : (f64.read a).isNaN with
    | false => exact .inr (order_self _ h)
    | true =>
      cases hr : f64.read a with
      | nan s f => exact .inl rfl
      | number s m p => rw [hr] at h; cases h
      | infinity s => rw [hr] at h; cases h

theorem order_none {x y : Ieee.Datum} (h : x.order y = none) : x.isNaN = true ∨ y.isNaN = true := by
  cases x <;> cases y <;> simp [Ieee.Datum.order, Ieee.Datum.isNaN] at h ⊢

theorem order_nan_self {x : Ieee.Datum} (h : x.isNaN = true) : x.order x = none := by
  cases x <;> first | rfl | cases h

theorem ford_none {x y : Fl} (h : ford x y = none) : ford x x = none ∨ ford y y = none := by
  cases x with
  | none => exact .inl rfl
  | some a =>
    cases y with
    | none => exact .inr rfl
    | some b =>
      rcases order_none (h : (f64.read a).order (f64.read b) = none) with h | h
      · exact .inl (order_nan_self h)
      · exact .inr (order_nan_self h)

theorem ford_some {x y : Fl} {o : Ordering} (h : ford x y = some o) : ford x x = some .eq ∧ ford y y = some .eq := by
  constructor
  · rcases ford_self x with e | e
    · exfalso
      cases x with
      | none => cases h
      | some a =>
        cases y with
        | none => cases h
        | some b =>
          have hn := order_none (e : (f64.read a).order (f64.read a) = none)
          have hn' : (f64.read a).isNaN = true := hn.elim id id
          have : f64.order a b = none := order_nan (.inl hn')
          rw [show ford (some a) (some b) = f64.order a b from rfl, this] at h
          cases h
    · exact e
  · rcases ford_self y with e | e
    · exfalso
      cases x with
      | none => cases h
      | some a =>
        cases y with
        | none => cases h
        | some b =>
          have hn := order_none (e : (f64.read b).order (f64.read b) = none)
          have hn' : (f64.read b).isNaN = true := hn.elim id id
          have : f64.order a b = none := order_nan (.inr hn')
          rw [show ford (some a) (some b) = f64.order a b from rfl, this] at h
          cases h
    · exact e

/-- The same numbers? (as the references ask it) -/
def same (x y : Fl) : Bool := if ford x y == some .eq then true else if !(ford x x == some .eq) then !(ford y y == some .eq) else false

theorem same_self (x : Fl) : same x x = true := by
  unfold same
  rcases ford_self x with h | h <;> rw [h] <;> rfl

theorem fle_or (x y : Fl) : R.fle x y = (R.flt x y || R.feq x y) := rfl

end Go.Ev
/- Facts on floats: products either way round, which numbers are finite, the order of numbers. -/
namespace Go.Ev
open Ieee

theorem product_comm (x y : Datum) : x.product y = y.product x := by
  cases x <;> cases y <;> simp only [Datum.product, Nat.mul_comm, Int.add_comm, Bool.xor_comm]

theorem fmul_comm (x y : Fl) : R.fmul x y = R.fmul y x := by
  cases x <;> cases y <;> first | rfl | skip
  rename_i a b
  show (match f64.mul a b with | some r => cls r | none => none) = (match f64.mul b a with | some r => cls r | none => none)
  have : f64.mul a b = f64.mul b a := by unfold Format.mul; rw [product_comm]
  rw [this]

theorem sum_comm (x y : Datum) : x.sum y = y.sum x := by
  cases x <;> cases y <;> simp only [Datum.sum]
  · rename_i s m i t n j
    rw [Int.min_comm j i, Int.add_comm (signed t n _), Bool.and_comm t s]
  · rename_i s t
    by_cases h : s = t
    · subst h; rfl
    · rw [if_neg h, if_neg (fun e => h e.symm)]

theorem fadd_comm (x y : Fl) : R.fadd x y = R.fadd y x := by
  cases x <;> cases y <;> first | rfl | skip
  rename_i a b
  show (match f64.add a b with | some r => cls r | none => none) = (match f64.add b a with | some r => cls r | none => none)
  have : f64.add a b = f64.add b a := by unfold Format.add; rw [sum_comm]
  rw [this]

/-- What a word that is a number reads as. -/
theorem read_number {b : Nat} {s : Bool} {m : Nat} {e : Int} (h : f64.read b = .number s m e) : m < 2 ^ 53 ∧ -1074 ≤ e ∧ e ≤ 971 := by
  have hb : f64.binade = 2 ^ 52 := rfl
  have hi : f64.infRung = 2047 * 2 ^ 52 := by decide +kernel
  have hl : f64.leastPlace = -1074 := by decide +kernel
  unfold Format.read at h
  simp only [hb, hi, hl] at h
  generalize b % f64.signWeight = r at h
  generalize (b / f64.signWeight % 2 == 1) = neg at h
  split at h
  · injection h with h1 h2 h3
    subst h2 h3
    omega
  · split at h
    · injection h with h1 h2 h3
      subst h2 h3
      have : r % 2 ^ 52 < 2 ^ 52 := Nat.mod_lt _ (by decide)
      omega
    · split at h <;> cases h

def topBits : Nat := 9218868437227405311
def lowBits : Nat := 18442240474082181119

theorem read_top : f64.read topBits = .number false (2 ^ 53 - 1) 971 := by decide +kernel
theorem read_low : f64.read lowBits = .number true (2 ^ 53 - 1) 971 := by decide +kernel
theorem cls_top : cls topBits = some topBits := by decide +kernel
theorem cls_low : cls lowBits = some lowBits := by decide +kernel
theorem cls_zero : cls 0 = some 0 := by decide +kernel
theorem read_zero : f64.read 0 = .number false 0 (-1074) := by decide +kernel

theorem signed_le {s : Bool} {m n : Nat} {k : Nat} (h : m ≤ n) : signed s m 0 ≤ signed false n k ∧ signed true n k ≤ signed s m 0 := by
  have hn : (m : Int) ≤ ((n <<< k : Nat) : Int) := by
    have : n ≤ n <<< k := by rw [Nat.shiftLeft_eq]; exact Nat.le_mul_of_pos_right _ (Nat.two_pow_pos _)
    omega
  cases s <;> simp only [signed, Nat.shiftLeft_zero, if_true, if_false, Bool.false_eq_true] <;> omega

theorem compare_def (a b : Int) : compare a b = if a < b then .lt else if a = b then .eq else .gt := rfl

theorem compare_le {a b : Int} (h : a ≤ b) : compare a b = .lt ∨ compare a b = .eq := by
  rw [compare_def]
  by_cases g : a < b
  · exact .inl (if_pos g)
  · rw [if_neg g, if_pos (by omega)]; exact .inr rfl

theorem compare_ge {a b : Int} (h : b ≤ a) : compare a b = .gt ∨ compare a b = .eq := by
  rw [compare_def, if_neg (by omega)]
  by_cases g : a = b
  · rw [if_pos g]; exact .inr rfl
  · rw [if_neg g]; exact .inl rfl

/-- A float between the ends of all floats is one whose difference with itself is nought. -/
theorem number_iff (x : Fl) : (if R.fge x (cls lowBits) then R.fle x (cls topBits) else false) = R.feq (R.fsub x x) (cls 0) := by
  rw [cls_top, cls_low, cls_zero]
  cases x with
  | none => rfl
  | some b =>
    show (if (f64.order b lowBits == some .gt || f64.order b lowBits == some .eq) then (f64.order b topBits == some .lt || f64.order b topBits == some .eq) else false)
      = (ford (match f64.sub b b with | some r => cls r | none => none) (some 0) == some .eq)
    unfold Format.order Format.sub
    rw [read_top, read_low]
    cases h : f64.read b with
    | nan s t => simp [Datum.order, Datum.sum, ford]
    | infinity s => cases s <;> simp [Datum.order, Datum.sum, Datum.opposite, ford]
    | number s m e =>
      obtain ⟨hm, he, hu⟩ := read_number h
      have h0 : f64.write (.number false 0 e) = 0 := rfl
      have hs : (Datum.number s m e).sum (Datum.number s m e).opposite = some (.number false 0 e) := by
        cases s <;> simp [Datum.opposite, Datum.sum, signed, Int.add_left_neg, Int.add_right_neg]
      rw [hs, Option.map_some, h0]
      have ho : (ford (match some 0 with | some r => cls r | none => none) (some 0) == some .eq) = true := by decide +kernel
      rw [ho]
      simp only [Datum.order]
      have hmin : min e 971 = e := by omega
      have h1 := compare_ge (signed_le (s := s) (m := m) (n := 2 ^ 53 - 1) (k := (971 - e).toNat) (by omega)).2
      have h2 := compare_le (signed_le (s := s) (m := m) (n := 2 ^ 53 - 1) (k := (971 - e).toNat) (by omega)).1
      simp only [hmin, Int.sub_self, Int.toNat_zero]
      rcases h1 with g | g <;> rcases h2 with l | l <;> simp only [g, l] <;> rfl

theorem zero_self : ford (cls 0) (cls 0) = some .eq := by kernel_rfl
theorem one_self : ford (cls 4607182418800017408) (cls 4607182418800017408) = some .eq := by kernel_rfl

/-- A draw within its bounds, asked either way. -/
theorem clean_eq (a : Fl) : (if (if R.fge a (cls 0) then R.flt a (cls 4607182418800017408) else false : Bool) then a else cls 0) =
    (if (if (if R.flt a (cls 0) then true else R.fge a (cls 4607182418800017408) : Bool) then true else R.bnot (R.feq a a) : Bool) then cls 0 else a) := by
  show (if (if (ford a (cls 0) == some .gt || ford a (cls 0) == some .eq) then (ford a (cls 4607182418800017408) == some .lt) else false : Bool) then a else cls 0) =
    (if (if (if (ford a (cls 0) == some .lt) then true else (ford a (cls 4607182418800017408) == some .gt || ford a (cls 4607182418800017408) == some .eq) : Bool) then true else !(ford a a == some .eq) : Bool) then cls 0 else a)
  cases h0 : ford a (cls 0) with
  | none =>
    have ha : ford a a = none := by
      rcases ford_none h0 with h | h
      · exact h
      · rw [zero_self] at h; cases h
    rw [ha]
    cases h1 : ford a (cls 4607182418800017408) with
    | none => rfl
    | some o => have := (ford_some h1).1; rw [ha] at this; cases this
  | some o =>
    have ha := (ford_some h0).1
    rw [ha]
    cases h1 : ford a (cls 4607182418800017408) with
    | none =>
      rcases ford_none h1 with h | h
      · rw [ha] at h; cases h
      · rw [one_self] at h; cases h
    | some o' => cases o <;> cases o' <;> rfl

end Go.Ev
/- Numbers in order: each float has a place among the whole numbers. -/
namespace Go.Ev
open Ieee

theorem exists_bound (K : Nat) : ∃ T : Nat, 0 < T ∧ ∀ m k : Nat, m < 2 ^ 53 → k ≤ K → m <<< k < T := by
  refine ⟨2 ^ (53 + K), Nat.two_pow_pos _, fun m k h1 hk => ?_⟩
  rw [Nat.shiftLeft_eq]
  refine Nat.lt_of_lt_of_le (Nat.mul_lt_mul_of_pos_right h1 (Nat.two_pow_pos k)) ?_
  rw [← Nat.pow_add]
  exact Nat.pow_le_pow_right (by decide) (by omega)

theorem exists_top : ∃ T : Nat, 0 < T ∧ ∀ m k : Nat, m < 2 ^ 53 → k ≤ 2045 → m <<< k < T := exists_bound 2045

/-- Above all numbers' places. -/
noncomputable def topNat : Nat := Classical.choose exists_top
theorem topNat_spec : 0 < topNat ∧ ∀ m k : Nat, m < 2 ^ 53 → k ≤ 2045 → m <<< k < topNat := Classical.choose_spec exists_top
noncomputable def topKey : Int := topNat

noncomputable def dkey : Datum → Option Int
  | .nan .. => none
  | .infinity s => some (if s then -topKey else topKey)
  | .number s m e => some (signed s m (e + 1074).toNat)

noncomputable def fkey : Fl → Option Int
  | some b => dkey (f64.read b)
  | none => none

theorem signed_shift (s : Bool) (m a b : Nat) : signed s m (a + b) = signed s m a * (2 ^ b : Nat) := by
  have h : m <<< (a + b) = (m <<< a) * 2 ^ b := by rw [Nat.shiftLeft_eq, Nat.shiftLeft_eq, Nat.pow_add, Nat.mul_assoc]
  unfold signed
  rw [h]
  cases s <;> simp [Int.neg_mul]

theorem compare_scale (a b : Int) (k : Nat) : compare (a * (2 ^ k : Nat)) (b * (2 ^ k : Nat)) = compare a b := by
  have hk : (0 : Int) < ((2 ^ k : Nat) : Int) := by have := Nat.two_pow_pos k; omega
  rw [compare_def, compare_def]
  by_cases h : a < b
  · rw [if_pos h, if_pos (Int.mul_lt_mul_of_pos_right h hk)]
  · rw [if_neg h, if_neg (fun g => h (Int.lt_of_mul_lt_mul_right g (Int.le_of_lt hk)))]
    by_cases e : a = b
    · rw [if_pos e, if_pos (by rw [e])]
    · rw [if_neg e, if_neg (fun g => e (Int.eq_of_mul_eq_mul_right (Int.ne_of_gt hk) g))]

theorem key_bound {b : Nat} {s : Bool} {m : Nat} {e : Int} (h : f64.read b = .number s m e) : signed s m (e + 1074).toNat < topKey ∧ -topKey < signed s m (e + 1074).toNat := by
  obtain ⟨h1, h2, h3⟩ := read_number h
  have hk : (e + 1074).toNat ≤ 2045 := by omega
  have hb := topNat_spec.2 m _ h1 hk
  unfold topKey signed
  generalize m <<< (e + 1074).toNat = M at hb ⊢
  cases s <;> simp only [if_true, if_false, Bool.false_eq_true] <;> omega

theorem topKey_pos : 0 < topKey := by
  have := topNat_spec.1
  unfold topKey
  omega

theorem ford_key (x y : Fl) : ford x y = match fkey x, fkey y with
    | some a, some b => some (compare a b)
    | _, _ => none := by
  cases x with
  | none => simp only [fkey]; rfl
  | some a =>
    cases y with
    | none => simp only [fkey]; cases dkey (f64.read a) <;> rfl
    | some b =>
      show (f64.read a).order (f64.read b) = _
      simp only [fkey]
      have tp := topKey_pos
      cases ha : f64.read a with
      | nan s t => simp only [dkey, Datum.order]
      | infinity s =>
        cases hb : f64.read b with
        | nan s t => simp only [dkey, Datum.order]
        | infinity t => cases s <;> cases t <;> simp only [dkey, Datum.order, compare_def, if_true, if_false, Bool.false_eq_true, Bool.toNat] <;> congr 1 <;> (repeat' split) <;> first | (exfalso; omega) | rfl
        | number t n j =>
          have := key_bound hb
          cases s <;> simp only [dkey, Datum.order, compare_def, if_true, if_false, Bool.false_eq_true] <;> congr 1 <;> (repeat' split) <;> first | (exfalso; omega) | rfl
      | number s m i =>
        cases hb : f64.read b with
        | nan s t => simp only [dkey, Datum.order]
        | infinity t =>
          have := key_bound ha
          cases t <;> simp only [dkey, Datum.order, compare_def, if_true, if_false, Bool.false_eq_true] <;> congr 1 <;> (repeat' split) <;> first | (exfalso; omega) | rfl
        | number t n j =>
          have h1 := (read_number ha).2.1
          have h2 := (read_number hb).2.1
          simp only [dkey, Datum.order]
          have e1 : (i + 1074).toNat = (i - min i j).toNat + (min i j + 1074).toNat := by omega
          have e2 : (j + 1074).toNat = (j - min i j).toNat + (min i j + 1074).toNat := by omega
          rw [e1, e2, signed_shift, signed_shift, compare_scale]

theorem flt_iff (x y : Fl) : (ford x y == some .lt) = true ↔ ∃ a b, fkey x = some a ∧ fkey y = some b ∧ a < b := by
  rw [ford_key]
  cases fkey x <;> cases fkey y <;> simp [compare_def]
  split <;> simp_all

theorem feq_iff (x y : Fl) : (ford x y == some .eq) = true ↔ ∃ a b, fkey x = some a ∧ fkey y = some b ∧ a = b := by
  rw [ford_key]
  cases fkey x <;> cases fkey y <;> simp [compare_def]
  split
  · simp; omega
  · split <;> simp_all

theorem fgt_iff (x y : Fl) : (ford x y == some .gt) = true ↔ ∃ a b, fkey x = some a ∧ fkey y = some b ∧ b < a := by
  rw [ford_key]
  cases fkey x <;> cases fkey y <;> simp [compare_def]
  split
  · simp; omega
  · split
    · simp; omega
    · simp; omega

theorem fle_iff (x y : Fl) : (ford x y == some .lt || ford x y == some .eq) = true ↔ ∃ a b, fkey x = some a ∧ fkey y = some b ∧ a ≤ b := by
  rw [Bool.or_eq_true, flt_iff, feq_iff]
  constructor
  · rintro (⟨a, b, h1, h2, h3⟩ | ⟨a, b, h1, h2, h3⟩) <;> exact ⟨a, b, h1, h2, by omega⟩
  · rintro ⟨a, b, h1, h2, h3⟩
    rcases Int.lt_or_eq_of_le h3 with h | h
    · exact .inl ⟨a, b, h1, h2, h⟩
    · exact .inr ⟨a, b, h1, h2, h⟩

theorem fge_iff (x y : Fl) : (ford x y == some .gt || ford x y == some .eq) = true ↔ ∃ a b, fkey x = some a ∧ fkey y = some b ∧ b ≤ a := by
  rw [Bool.or_eq_true, fgt_iff, feq_iff]
  constructor
  · rintro (⟨a, b, h1, h2, h3⟩ | ⟨a, b, h1, h2, h3⟩) <;> exact ⟨a, b, h1, h2, by omega⟩
  · rintro ⟨a, b, h1, h2, h3⟩
    rcases Int.lt_or_eq_of_le h3 with h | h
    · exact .inl ⟨a, b, h1, h2, h⟩
    · exact .inr ⟨a, b, h1, h2, h.symm⟩

end Go.Ev
/- Sizes of floats: what is taken from nought, and its sign. -/
namespace Go.Ev
open Ieee

theorem fkey_zero : fkey (cls 0) = some 0 := by
  rw [cls_zero]
  show dkey (f64.read 0) = some 0
  rw [read_zero]
  simp only [dkey, signed, Nat.zero_shiftLeft]
  rfl

theorem signed_nonneg {m k : Nat} : 0 ≤ signed false m k := by
  unfold signed
  generalize m <<< k = n
  simp only [Bool.false_eq_true, if_false]
  omega

/-- A word without a sign is not below nought. -/
theorem key_unsigned {r : Nat} (h : r < f64.signWeight) {k : Int} (hk : dkey (f64.read r) = some k) : 0 ≤ k := by
  have hn : (r / f64.signWeight % 2 == 1) = false := by rw [Nat.div_eq_of_lt h]; rfl
  have tp := topKey_pos
  unfold Format.read at hk
  simp only [hn] at hk
  split at hk
  · cases hk; exact signed_nonneg
  · split at hk
    · cases hk; exact signed_nonneg
    · split at hk
      · simp only [dkey, Bool.false_eq_true, if_false] at hk; cases hk; omega
      · simp only [dkey] at hk; cases hk

theorem infRung_lt' : f64.infRung < f64.signWeight := by decide +kernel

theorem nearest_unsigned (m : Nat) (e : Int) : f64.nearest false m e < f64.signWeight := by
  have := infRung_lt'
  unfold Format.nearest
  split
  · simp only [Format.word, Bool.false_eq_true, if_false]; omega
  · simp only [Format.word, Bool.false_eq_true, if_false]; omega

theorem cls_key {b : Nat} : fkey (cls b) = dkey (f64.read b) := by
  unfold cls isNaN
  cases h : f64.read b <;> simp only [Datum.isNaN, if_true, if_false, Bool.false_eq_true, fkey, dkey, h]

/-- Taken from nought, what is below nought is not below nought. -/
theorem key_from_zero {x : Fl} {k l : Int} (hx : fkey x = some k) (hk : k < 0) (hl : fkey (R.fsub (cls 0) x) = some l) : 0 ≤ l := by
  have tp := topKey_pos
  rw [cls_zero] at hl
  cases x with
  | none => cases hx
  | some b =>
    have hl' : fkey (match f64.sub 0 b with | some r => cls r | none => none) = some l := hl
    have hx' : dkey (f64.read b) = some k := hx
    unfold Format.sub at hl'
    rw [read_zero] at hl'
    cases h : f64.read b with
    | nan s t => rw [h] at hx'; simp [dkey] at hx'
    | infinity s =>
      rw [h] at hx' hl'
      cases s with
      | false => simp only [dkey, Bool.false_eq_true, if_false] at hx'; cases hx'; omega
      | true =>
        simp only [Datum.opposite, Datum.sum, Bool.not_true, Option.map_some, cls_key] at hl'
        exact key_unsigned (by decide +kernel) hl'
    | number s m e =>
      rw [h] at hx' hl'
      simp only [dkey, Option.some.injEq] at hx'
      cases s with
      | false => have : 0 ≤ signed false m (e + 1074).toNat := signed_nonneg; omega
      | true =>
        simp only [Datum.opposite, Datum.sum, Bool.not_true, Option.map_some, cls_key] at hl'
        have h0 : signed false 0 (-1074 - min (-1074) e).toNat = 0 := by simp [signed]
        have h1 : 0 ≤ signed false m (e - min (-1074) e).toNat := signed_nonneg
        rw [h0, Int.zero_add] at hl'
        have hneg : (if signed false m (e - min (-1074) e).toNat = 0 then (false && false) else decide (signed false m (e - min (-1074) e).toNat < 0)) = false := by
          split
          · rfl
          · simpa using h1
        rw [hneg] at hl'
        exact key_unsigned (nearest_unsigned _ _) hl'

/-- Not below nought, if it is a number at all. -/
def nn (x : Fl) : Prop := ∀ k, fkey x = some k → 0 ≤ k

theorem nn_none : nn none := fun k h => by cases h
theorem nn_zero : nn (cls 0) := fun k h => by rw [fkey_zero] at h; cases h; omega

theorem key_zero_word (neg : Bool) {k : Int} (h : dkey (f64.read (f64.word neg 0)) = some k) : k = 0 := by
  cases neg
  · have e : f64.read (f64.word false 0) = .number false 0 (-1074) := by decide +kernel
    rw [e] at h; simp [dkey, signed] at h; omega
  · have e : f64.read (f64.word true 0) = .number true 0 (-1074) := by decide +kernel
    rw [e] at h; simp [dkey, signed] at h; omega

theorem nearest_nn {neg : Bool} {m : Nat} {e : Int} (h : neg = true → m = 0) {k : Int} (hk : dkey (f64.read (f64.nearest neg m e)) = some k) : 0 ≤ k := by
  cases neg with
  | false => exact key_unsigned (nearest_unsigned _ _) hk
  | true =>
    have := h rfl
    subst this
    have e0 : f64.nearest true 0 e = f64.word true 0 := by unfold Format.nearest; rw [if_pos rfl]
    rw [e0] at hk
    rw [key_zero_word true hk]; omega

theorem write_inf : f64.write (.infinity false) < f64.signWeight := by
  have := infRung_lt'
  simpa [Format.write, Format.word] using this

theorem inf_nn {k : Int} (hk : dkey (f64.read (f64.write (.infinity false))) = some k) : 0 ≤ k := key_unsigned write_inf hk

theorem sign_of_nn {b : Nat} (h : nn (some b)) {s : Bool} {m : Nat} {e : Int} (hb : f64.read b = .number s m e) : s = true → m = 0 := by
  intro hs
  subst hs
  have := h (signed true m (e + 1074).toNat) (by show dkey (f64.read b) = _; rw [hb]; rfl)
  have h2 : 0 ≤ m <<< (e + 1074).toNat := Nat.zero_le _
  unfold signed at this
  simp only [if_true] at this
  have h3 : m <<< (e + 1074).toNat = 0 := by omega
  rw [Nat.shiftLeft_eq] at h3
  rcases Nat.mul_eq_zero.1 h3 with g | g
  · exact g
  · have := Nat.two_pow_pos (e + 1074).toNat; omega

theorem inf_of_nn {b : Nat} (h : nn (some b)) {s : Bool} (hb : f64.read b = .infinity s) : s = false := by
  cases s with
  | false => rfl
  | true =>
    have tp := topKey_pos
    have := h (-topKey) (by show dkey (f64.read b) = _; rw [hb]; rfl)
    omega

theorem nn_mul {x y : Fl} (hx : nn x) (hy : nn y) : nn (R.fmul x y) := by
  cases x with
  | none => exact fun k h => by cases h
  | some a =>
    cases y with
    | none => exact fun k h => by cases h
    | some b =>
      intro k hk
      have hk' : fkey (match f64.mul a b with | some r => cls r | none => none) = some k := hk
      unfold Format.mul at hk'
      cases ha : f64.read a with
      | nan s t => rw [ha] at hk'; cases h : f64.read b <;> rw [h] at hk' <;> simp [Datum.product, fkey] at hk'
      | infinity s =>
        have := inf_of_nn hx ha; subst this
        cases hb : f64.read b with
        | nan s t => rw [ha, hb] at hk'; simp [Datum.product, fkey] at hk'
        | infinity t =>
          have := inf_of_nn hy hb; subst this
          rw [ha, hb] at hk'
          simp only [Datum.product, Option.map_some, cls_key, Bool.xor_self] at hk'
          exact inf_nn hk'
        | number t n j =>
          have hs := sign_of_nn hy hb
          rw [ha, hb] at hk'
          simp only [Datum.product] at hk'
          by_cases hn : n = 0
          · rw [if_pos hn] at hk'; simp [fkey] at hk'
          · rw [if_neg hn] at hk'
            have : t = false := by cases t with
              | false => rfl
              | true => exact absurd (hs rfl) hn
            subst this
            simp only [Option.map_some, cls_key, Bool.xor_self] at hk'
            exact inf_nn hk'
      | number s m i =>
        have hs := sign_of_nn hx ha
        cases hb : f64.read b with
        | nan s t => rw [ha, hb] at hk'; simp [Datum.product, fkey] at hk'
        | infinity t =>
          have := inf_of_nn hy hb; subst this
          rw [ha, hb] at hk'
          simp only [Datum.product] at hk'
          by_cases hm : m = 0
          · rw [if_pos hm] at hk'; simp [fkey] at hk'
          · rw [if_neg hm] at hk'
            have : s = false := by cases s with
              | false => rfl
              | true => exact absurd (hs rfl) hm
            subst this
            simp only [Option.map_some, cls_key, Bool.xor_self] at hk'
            exact inf_nn hk'
        | number t n j =>
          have ht := sign_of_nn hy hb
          rw [ha, hb] at hk'
          simp only [Datum.product, Option.map_some, cls_key] at hk'
          refine nearest_nn (fun hxor => ?_) hk'
          cases s with
          | true => rw [hs rfl, Nat.zero_mul]
          | false =>
            cases t with
            | true => rw [ht rfl, Nat.mul_zero]
            | false => cases hxor

theorem signed_zero (s : Bool) (k : Nat) : signed s 0 k = 0 := by cases s <;> simp [signed]

theorem signed_nn {s : Bool} {m k : Nat} (h : s = true → m = 0) : 0 ≤ signed s m k := by
  cases s with
  | false => exact signed_nonneg
  | true => rw [h rfl, signed_zero]; omega

theorem nn_add {x y : Fl} (hx : nn x) (hy : nn y) : nn (R.fadd x y) := by
  cases x with
  | none => exact fun k h => by cases h
  | some a =>
    cases y with
    | none => exact fun k h => by cases h
    | some b =>
      intro k hk
      have hk' : fkey (match f64.add a b with | some r => cls r | none => none) = some k := hk
      unfold Format.add at hk'
      cases ha : f64.read a with
      | nan s t => rw [ha] at hk'; cases h : f64.read b <;> rw [h] at hk' <;> simp [Datum.sum, fkey] at hk'
      | infinity s =>
        have := inf_of_nn hx ha; subst this
        cases hb : f64.read b with
        | nan s t => rw [ha, hb] at hk'; simp [Datum.sum, fkey] at hk'
        | infinity t =>
          have := inf_of_nn hy hb; subst this
          rw [ha, hb] at hk'
          simp only [Datum.sum, if_true, Option.map_some, cls_key] at hk'
          exact inf_nn hk'
        | number t n j =>
          rw [ha, hb] at hk'
          simp only [Datum.sum, Option.map_some, cls_key] at hk'
          exact inf_nn hk'
      | number s m i =>
        have hs := sign_of_nn hx ha
        cases hb : f64.read b with
        | nan s t => rw [ha, hb] at hk'; simp [Datum.sum, fkey] at hk'
        | infinity t =>
          have := inf_of_nn hy hb; subst this
          rw [ha, hb] at hk'
          simp only [Datum.sum, Option.map_some, cls_key] at hk'
          exact inf_nn hk'
        | number t n j =>
          have ht := sign_of_nn hy hb
          rw [ha, hb] at hk'
          simp only [Datum.sum, Option.map_some, cls_key] at hk'
          have h1 : 0 ≤ signed s m (i - min i j).toNat := signed_nn hs
          have h2 : 0 ≤ signed t n (j - min i j).toNat := signed_nn ht
          have h3 : 0 ≤ signed s m (i - min i j).toNat + signed t n (j - min i j).toNat := by omega
          generalize signed s m (i - min i j).toNat + signed t n (j - min i j).toNat = T at hk' h3
          refine nearest_nn (fun hneg => ?_) hk'
          by_cases hT : T = 0
          · rw [hT]; rfl
          · rw [if_neg hT] at hneg
            have : T < 0 := by simpa using hneg
            omega

/-- A square is not below nought. -/
theorem nn_sq (x : Fl) : nn (R.fmul x x) := by
  cases x with
  | none => exact fun k h => by cases h
  | some a =>
    intro k hk
    have hk' : fkey (match f64.mul a a with | some r => cls r | none => none) = some k := hk
    unfold Format.mul at hk'
    cases ha : f64.read a with
    | nan s t => rw [ha] at hk'; simp [Datum.product, fkey] at hk'
    | infinity s =>
      rw [ha] at hk'
      simp only [Datum.product, Option.map_some, cls_key, Bool.xor_self] at hk'
      exact inf_nn hk'
    | number s m i =>
      rw [ha] at hk'
      simp only [Datum.product, Option.map_some, cls_key, Bool.xor_self] at hk'
      exact nearest_nn (fun h => by cases h) hk'

end Go.Ev
