/- Every operation that the evaluator knows comes to what the machine comes to. -/
import Derived.Laws.AppendOwn
import Derived.Laws.MakeOwn
import Derived.Test.YtachcmfgjjoimaaEv1
/- Loads, stores, and what is built. -/
namespace Go.Ev

variable {ρ : Nm}

theorem absS_VR {v : Value} {a : AV R} (h : absS R v = some a) : VR ρ a v := by
  unfold absS at h
  split at h
  · cases h; rfl
  · split at h
    · rename_i hk; cases h; exact ⟨rfl, hk⟩
    · cases h
  · split at h
    · rename_i hb; cases h; exact ⟨_, rfl, hb, rfl⟩
    · cases h
  · cases h; rfl
  · cases h; rfl
  · cases h; rfl
  · cases h

theorem absL_VRs : ∀ {vs : List Value} {as : List (AV R)}, absL R vs = some as → VRs ρ as vs
  | [], as, h => by simp only [absL] at h; cases h; trivial
  | v :: r, as, h => by
    simp only [absL] at h
    split at h
    · rename_i a l h1 h2
      cases h
      exact ⟨absS_VR h1, absL_VRs h2⟩
    · cases h

theorem absV_VR {v : Value} {a : AV R} (h : absV R v = some a) : VR ρ a v := by
  unfold absV at h
  split at h
  · rename_i cs
    cases hc : absL R cs.toList with
    | none => rw [hc] at h; cases h
    | some l => rw [hc] at h; cases h; exact ⟨cs, rfl, absL_VRs hc⟩
  · exact absS_VR h

theorem cells_VRs {a : AV R} {v : Value} (h : VR ρ a v) (hn : a.noBox = false) : VRs ρ a.cells v.cells.toList := by
  cases a
  case any => cases hn
  case arr n k l => cases hn
  case aptr n len => obtain ⟨p, b, h1, h2, h3, h4, rfl⟩ := h; exact ⟨⟨p, b, h1, h2, h3, h4, rfl⟩, trivial⟩
  case agg cs => obtain ⟨xs, rfl, hx⟩ := h; exact hx
  case undef => cases h; exact ⟨rfl, trivial⟩
  case fl x => obtain ⟨b, rfl, hb⟩ := h; exact ⟨⟨b, rfl, hb⟩, trivial⟩
  case kb b => cases h; exact ⟨rfl, trivial⟩
  case sb b => cases h; exact ⟨rfl, trivial⟩
  case ki k n => obtain ⟨rfl, hb⟩ := h; exact ⟨⟨rfl, hb⟩, trivial⟩
  case si k n => obtain ⟨rfl, hb⟩ := h; exact ⟨⟨rfl, hb⟩, trivial⟩
  case ptr n off => obtain ⟨b, hb, rfl⟩ := h; exact ⟨⟨b, hb, rfl⟩, trivial⟩
  case nilp => cases h; exact ⟨rfl, trivial⟩
  case slice n off l c => obtain ⟨b, hb, rfl⟩ := h; exact ⟨⟨b, hb, rfl⟩, trivial⟩
  case nils => cases h; exact ⟨rfl, trivial⟩
  case clo f x y => obtain ⟨xs, ys, rfl, h1⟩ := h; exact ⟨⟨xs, ys, rfl, h1⟩, trivial⟩
  case nilf => cases h; exact ⟨rfl, trivial⟩
  case tup cs => obtain ⟨xs, rfl, h1⟩ := h; exact ⟨⟨xs, rfl, h1⟩, trivial⟩
  case row ro ks l => exact (h : False).elim
  case sptr n z sz o => obtain ⟨p, b, h1, h2, h3, h4, rfl⟩ := h; exact ⟨⟨p, b, h1, h2, h3, h4, rfl⟩, trivial⟩
  case sslice n k off len sz => obtain ⟨p, base, cap, h1, rfl, h2⟩ := h; exact ⟨⟨p, base, cap, h1, rfl, h2⟩, trivial⟩
  case gh c l => exact (h : False).elim
  case optr c n o =>
    rcases h with ⟨e, b, hb, rfl⟩ | ⟨e, rfl⟩
    · exact ⟨.inl ⟨e, b, hb, rfl⟩, trivial⟩
    · exact ⟨.inr ⟨e, rfl⟩, trivial⟩

theorem absV_notAny {v : Value} {a : AV R} (h : absV R v = some a) : a.noBox = false := by
  cases a <;> first | rfl | skip
  all_goals
    exfalso
    unfold absV at h
    split at h
    · rename_i cs
      cases hc : absL R cs.toList with
      | none => rw [hc] at h; cases h
      | some l => rw [hc] at h; cases h
    · unfold absS at h
      split at h <;> first | (cases h; done) | skip
      all_goals (split at h <;> cases h)

theorem oneCell_of {a : AV R} {v : Value} (h : VR ρ a v) (hc : a.isCell = true) : v.oneCell' = true := by
  cases a <;> simp only [AV.isCell] at hc <;> first | (cases hc; done) | skip
  case fl x => obtain ⟨b, rfl, hb⟩ := h; rfl
  case kb b => cases h; rfl
  case sb b => cases h; rfl
  case ki k n => obtain ⟨rfl, hb⟩ := h; rfl
  case si k n => obtain ⟨rfl, hb⟩ := h; rfl
  case ptr n off => obtain ⟨b, hb, rfl⟩ := h; rfl
  case nilp => cases h; rfl
  case slice n off l c => obtain ⟨b, hb, rfl⟩ := h; rfl
  case nils => cases h; rfl
  case clo f x y => obtain ⟨xs, ys, rfl, h1⟩ := h; rfl
  case nilf => cases h; rfl
  case sptr n z sz o => obtain ⟨p, b, h1, h2, h3, h4, rfl⟩ := h; rfl
  case aptr n len => obtain ⟨p, b, h1, h2, h3, h4, rfl⟩ := h; rfl
  case sslice n k off len sz => obtain ⟨p, base, cap, h1, rfl, h2⟩ := h; rfl
  case optr c n o => rcases h with ⟨e, b, hb, rfl⟩ | ⟨e, rfl⟩ <;> rfl

theorem oneCells_of : ∀ {as : List (AV R)} {vs : List Value}, VRs ρ as vs → as.all AV.isCell = true → ∀ v ∈ vs, v.oneCell' = true
  | [], [], _, _, _, hv => by cases hv
  | a :: as, v :: vs, ⟨h1, h2⟩, hc, u, hu => by
    simp only [List.all_cons, Bool.and_eq_true] at hc
    rcases List.mem_cons.1 hu with rfl | hu
    · exact oneCell_of h1 hc.1
    · exact oneCells_of h2 hc.2 u hu

theorem add_at (b o j : Nat) : (⟨b, o, none⟩ : Addr).add j = ⟨b, o + j, none⟩ := by unfold Addr.add; split <;> simp_all

theorem load_sound {P : Program} {w : World} {t : TypeId} {b off : Nat} {cs : Array Value} {ty : TypeId} {fz : Nat × Nat} {blk : List (AV R)} {a : AV R} (hb : w.heap[b]? = some (.cells cs ty fz)) (hv : VRs ρ blk cs.toList)
    (h : loadV P t blk off = some a) : ∃ v, (loadVar t ⟨b, off, none⟩).run P w = .ok v w ∧ VR ρ a v := by
  have many : ∀ (d : TypeDesc) (i : TypeInfo), P.underlying t = some d → aggD d = true → P.info? t = some i →
      (if off + i.size ≤ blk.length then some (AV.agg ((blk.drop off).take i.size)) else none) = some a → ∃ v, (loadVar t ⟨b, off, none⟩).run P w = .ok v w ∧ VR ρ a v := by
    intro d i hu hd hi hh
    split at hh
    · rename_i hle
      cases hh
      have hlen : ((cs.toList.drop off).take i.size).length = i.size := by
        have := hv.length
        simp at this ⊢; omega
      have hl := run_loadCells_list (P := P) w ⟨b, off, none⟩ ((cs.toList.drop off).take i.size) (fun j v hj => by
        rw [add_at, cell_of_row w b (off + j) cs ty fz hb]
        rw [List.getElem?_take] at hj
        split at hj
        · rw [List.getElem?_drop] at hj; simpa using hj
        · cases hj)
      rw [hlen] at hl
      refine ⟨_, ?_, ⟨((cs.toList.drop off).take i.size).toArray, rfl, by simpa using VRs.take i.size (VRs.drop off hv)⟩⟩
      simp only [loadVar, Sem.run_bind, run_isAgg hu w, hd, if_true, Result.andThen_ok, run_size hi w, hl, Sem.run_pure]
    · cases hh
  unfold loadV at h
  split at h
  · rename_i fs hu
    split at h
    · rename_i i hi; exact many _ i hu rfl hi h
    · cases h
  · rename_i n e hu
    split at h
    · rename_i i hi; exact many _ i hu rfl hi h
    · cases h
  · rename_i d h1 h2 hu
    obtain ⟨v, hv1, hv2⟩ := hv.get h
    refine ⟨v, ?_, hv2⟩
    have hd : aggD d = false := by
      cases d <;> first | rfl | (exact (h1 _ rfl).elim) | (exact (h2 _ _ rfl).elim)
    have hcell : w.cell? ⟨b, off, none⟩ = some v := by rw [cell_of_row w b off cs ty fz hb]; simpa using hv1
    simp only [loadVar, Sem.run_bind, run_isAgg hu w, hd, Bool.false_eq_true, if_false, Result.andThen_ok]
    simp only [load, Sem.run, hcell]
  · cases h

theorem store_sound {P : Program} {w : World} {t : TypeId} {n b off : Nat} {cs : Array Value} {ty : TypeId} {blk blk' : List (AV R)} {x : AV R} {v : Value} {nx : Nat} {h0 : Heap R} (hH : HR ρ h0 w) (hI : Inj ρ w) (hn : ρ n = some b) (ho : ρ.st n = .own)
    (hb : w.heap[b]? = some (.cells cs ty (0, 0))) (hv : VRs ρ blk cs.toList) (hx : VR ρ x v)
    (h : storeV P t blk off x = some blk') : ∃ w', (storeVar t ⟨b, off, none⟩ v).run P w = .ok () w' ∧ Step ρ ρ w w' nx nx [(n, blk')] h0 := by
  unfold storeV at h
  split at h
  · rename_i i hi
    split at h
    · rename_i hc
      simp only [Bool.and_eq_true, decide_eq_true_eq] at hc
      obtain ⟨⟨h1, h2⟩, h3⟩ := hc
      cases h
      have hna : x.noBox = false := by cases x <;> first | rfl | (exfalso; simp [AV.cells, AV.isCell] at h3)
      have hxc := cells_VRs hx hna
      have hsz : v.cells.size = i.size := by rw [← h1]; simpa using hxc.length.symm
      have hlen : blk.length = cs.size := by simpa using hv.length
      have hst := run_storeCells_at P b off ty v.cells.toList 0 cs w hb (by simp; omega) (oneCells_of hxc h3)
      refine ⟨w.setRow b (cs.toList.take (off + 0) ++ v.cells.toList ++ cs.toList.drop (off + 0 + v.cells.toList.length)).toArray, ?_, ?_⟩
      · unfold storeVar
        simp only [Sem.run_bind, run_size hi w, Result.andThen_ok, hsz, ne_eq, not_true_eq_false, if_false]
        exact hst
      · refine .set hH hI hn ho ?_ (setRow_heap w b cs _ ty (0, 0) hb) (setRow_size ..) (fun c hc => setRow_other w b c _ hc) rfl rfl rfl
        simp only [Nat.add_zero, Array.length_toList, hsz]
        rw [List.append_assoc]
        exact VRs.append (VRs.take off hv) (VRs.append hxc (VRs.drop _ hv))
    · cases h
  · cases h

theorem zero_sound {P : Program} {t : TypeId} {z : List (AV R)} (h : zeroV R P t = some z) : ∃ v, (∀ w, (zeroValue t).run P w = .ok v w) ∧ VRs ρ z v.cells.toList := by
  unfold zeroV at h
  split at h
  · rename_i i hi
    split at h
    · rename_i v hz
      cases ha : absV R v with
      | none => rw [ha] at h; cases h
      | some a =>
        rw [ha] at h; cases h
        refine ⟨v, fun w => ?_, cells_VRs (absV_VR ha) (absV_notAny ha)⟩
        simp [zeroValue, run_info hi w, hz]
    · cases h
  · cases h

theorem zipIdx_shift (off : Nat) : ∀ (l : List Value) (k : Nat), l.zipIdx (off + k) = (l.zipIdx k).map (fun p => (p.1, off + p.2))
  | [], _ => rfl
  | v :: l, k => by
    have := zipIdx_shift off l (k + 1)
    simp only [List.zipIdx_cons, List.map_cons]
    rw [Nat.add_assoc, this]

theorem foldl_set_splice : ∀ (l : List Value) (k : Nat) (arr : Array Value), k + l.length ≤ arr.size →
    ((l.zipIdx k).foldl (fun a (p : Value × Nat) => a.setIfInBounds p.2 p.1) arr).toList = arr.toList.take k ++ (l ++ arr.toList.drop (k + l.length)) := by
  intro l
  induction l with
  | nil => intro k arr _; simp
  | cons v l ih =>
    intro k arr h
    simp only [List.zipIdx_cons, List.foldl_cons]
    rw [ih (k + 1) _ (by simp at h ⊢; omega)]
    have e := list_seg_step arr.toList k v l (by simp at h ⊢; omega)
    simp only [List.length_cons] at e ⊢
    simp only [Array.toList_setIfInBounds]
    simpa [Nat.add_assoc, Nat.add_comm 1] using e

theorem fill_sound (place : Nat → Option (Nat × Nat)) : ∀ (parts : List (Nat × AV R)) (rparts : List (Nat × Value)) (cells : List (AV R)) (real : Array Value) (out : List (AV R)),
    VRs ρ cells real.toList → parts.map (·.1) = rparts.map (·.1) → VRs ρ (parts.map (·.2)) (rparts.map (·.2)) → fillV place cells parts = some out →
    ∃ r, Instr.fill place real rparts = some r ∧ VRs ρ out r.toList
  | [], [], cells, real, out, hc, _, _, h => by
    simp only [fillV] at h; cases h; exact ⟨real, rfl, hc⟩
  | [], _ :: _, _, _, _, _, h1, _, _ => by simp at h1
  | _ :: _, [], _, _, _, _, h1, _, _ => by simp at h1
  | (i, a) :: ps, (j, v) :: rs, cells, real, out, hc, h1, h2, h => by
    simp only [List.map_cons, List.cons.injEq] at h1
    obtain ⟨rfl, h1⟩ := h1
    obtain ⟨ha, h2⟩ := h2
    simp only [fillV] at h
    simp only [Instr.fill]
    split at h
    · cases h
    · rename_i off size hp
      split at h
      · rename_i hcnd
        simp only [Bool.and_eq_true, decide_eq_true_eq] at hcnd
        have hac := cells_VRs ha (by simpa using hcnd.2)
        have hcnd := hcnd.1
        have hsz : v.cells.size = size := by rw [← hcnd.1]; simpa using hac.length.symm
        have hlen : cells.length = real.size := by simpa using hc.length
        have hcond : (decide (v.cells.size ≠ size) || decide (off + v.cells.size > real.size)) = false := by
          simp; omega
        simp only [hp, hcond, Bool.false_eq_true, if_false]
        have hfold : (v.cells.zipIdx.foldl (fun cs (x : Value × Nat) => cs.setIfInBounds (off + x.2) x.1) real).toList = real.toList.take off ++ (v.cells.toList ++ real.toList.drop (off + size)) := by
          have := foldl_set_splice v.cells.toList off real (by simp; omega)
          rw [← Array.foldl_toList, Array.toList_zipIdx]
          have e : v.cells.toList.zipIdx off = (v.cells.toList.zipIdx 0).map (fun p => (p.1, off + p.2)) := zipIdx_shift off _ 0
          rw [e, List.foldl_map] at this
          simpa [hsz] using this
        exact fill_sound place ps rs _ _ out (by
          rw [hfold]
          exact VRs.append (VRs.take off hc) (VRs.append hac (VRs.drop _ hc))) h1 h2 h
      · cases h

theorem places_sound {P : Program} (w : World) : ∀ (fs : List Field) (ps : List (Nat × Nat)), placesL P fs = some ps → (fs.mapM fun f => (do pure (f.offset, ← sizeOf f.type) : Sem (Nat × Nat))).run P w = .ok ps w
  | [], ps, h => by simp only [placesL] at h; cases h; rfl
  | f :: r, ps, h => by
    simp only [placesL] at h
    split at h
    · rename_i j l hj hl
      cases h
      have ih := places_sound w r l hl
      rw [List.mapM_cons]
      simp only [Sem.run_bind, run_size hj w, Result.andThen_ok, Sem.run_pure, ih]
    · cases h

theorem build_sound {P : Program} {w : World} {t : TypeId} {parts : List (Nat × AV R)} {rparts : Array (Nat × Value)} {a : AV R} (h1 : parts.map (·.1) = rparts.toList.map (·.1)) (h2 : VRs ρ (parts.map (·.2)) (rparts.toList.map (·.2)))
    (h : buildV P t parts = some a) : ∃ v, (Instr.build t rparts).run P w = .ok v w ∧ VR ρ a v := by
  unfold buildV at h
  split at h
  · cases h
  · rename_i zero hz
    obtain ⟨z, hzr, hzv⟩ := zero_sound (ρ := ρ) hz
    split at h
    · rename_i fields hu
      split at h
      · rename_i ps hps
        split at h
        · rename_i cs hf
          cases h
          obtain ⟨r, hr, hrv⟩ := fill_sound (fun i => ps[i]?) parts rparts.toList zero z.cells cs hzv h1 h2 hf
          refine ⟨.agg r, ?_, ⟨r, rfl, hrv⟩⟩
          have hm : (fields.mapM fun f => (do pure (f.offset, ← sizeOf f.type) : Sem (Nat × Nat))).run P w = .ok ps.toArray w := by
            rw [Array.mapM_eq_mapM_toList]
            simp only [Sem.run_map, places_sound w _ _ hps, Result.andThen_ok]
          unfold Instr.build
          simp only [Sem.run_bind, hzr w, Result.andThen_ok, run_underlying hu, hm]
          have : (fun i : Nat => ps.toArray[i]?) = (fun i => ps[i]?) := by funext i; simp
          rw [this, hr]
          rfl
        · cases h
      · cases h
    · rename_i n elem hu
      split at h
      · rename_i j hj
        split at h
        · rename_i cs hf
          cases h
          obtain ⟨r, hr, hrv⟩ := fill_sound _ parts rparts.toList zero z.cells cs hzv h1 h2 hf
          refine ⟨.agg r, ?_, ⟨r, rfl, hrv⟩⟩
          unfold Instr.build
          simp only [Sem.run_bind, hzr w, Result.andThen_ok, run_underlying hu, run_size hj w]
          rw [hr]
          rfl
        · cases h
      · cases h
    · cases h

end Go.Ev
/- Every operation. -/
namespace Go.Ev

variable {ρ : Nm}

theorem unOp_sound (P : Program) (w : World) (nx : Nat) (op : UnOp) {x : AV R} {vx : Value} (hx : VR ρ x vx) (out : Out R) (h : (unOpV nx op x).run = some out) : Pure1 P (Op.unary op vx) w ρ nx out := by
  unfold unOpV at h
  split at h
  · cases hx; exact .mk h rfl rfl (.refl w)
  · cases hx; exact .mk h rfl rfl (.refl w)
  · obtain ⟨b, rfl, hb, rfl⟩ := hx
    have := neg_cls b hb
    exact .mk h rfl ⟨_, rfl, this.2, this.1⟩ (.refl w)
  · obtain ⟨rfl, hb⟩ := hx
    exact .mk h (by simp only [Op.unary, Op.intArith]; rfl) ⟨rfl, okInt_wrap _ _⟩ (.refl w)
  · obtain ⟨rfl, hb⟩ := hx
    exact .mk h (by simp only [Op.unary, Op.intArith]; rfl) ⟨rfl, okInt_wrap _ _⟩ (.refl w)
  · cases h

theorem conv_int {P : Program} {w : World} {src dst : TypeId} {d : TypeDesc} {k j : IntKind} {n : Int} (hs : P.underlying src = some d) (hd : P.underlying dst = some (.int k)) :
    (convert src dst (.int j n)).run P w = .ok (.int k (k.wrap n)) w := by
  unfold convert
  simp only [Sem.run_bind, run_underlying hs, run_underlying hd, Result.andThen_ok]
  rfl

theorem conv_intFloat {P : Program} {w : World} {src dst : TypeId} {d : TypeDesc} {j : IntKind} {n : Int} (hs : P.underlying src = some d) (hd : P.underlying dst = some (.float .f64)) :
    (convert src dst (.int j n)).run P w = .ok (.float .f64 (FloatKind.f64.nearest n)) w := by
  unfold convert
  simp only [Sem.run_bind, run_underlying hs, run_underlying hd, Result.andThen_ok]
  rfl

theorem conv_floatFloat {P : Program} {w : World} {src dst : TypeId} {d : TypeDesc} {b : Nat} (hs : P.underlying src = some d) (hd : P.underlying dst = some (.float .f64)) :
    (convert src dst (.float .f64 b)).run P w = .ok (.float .f64 b) w :=
  run_convert_float_float w src dst .f64 .f64 b b (by rw [hs]; rfl) hd rfl

theorem conv_sound (P : Program) (w : World) (nx : Nat) (src dst : TypeId) {x : AV R} {vx : Value} (hx : VR ρ x vx) (out : Out R) (h : (convV P nx src dst x).run = some out) : Pure1 P (convert src dst vx) w ρ nx out := by
  unfold convV at h
  split at h
  · rename_i d k j n hs hd
    obtain ⟨rfl, hb⟩ := hx
    exact .mk h (conv_int hs hd) ⟨rfl, okInt_wrap _ _⟩ (.refl w)
  · rename_i d k j n hs hd
    obtain ⟨rfl, hb⟩ := hx
    exact .mk h (conv_int hs hd) ⟨rfl, okInt_wrap _ _⟩ (.refl w)
  · rename_i d j n hs hd
    obtain ⟨rfl, hb⟩ := hx
    exact .mk h (conv_intFloat hs hd) ⟨_, rfl, nearest_lt' n, rfl⟩ (.refl w)
  · rename_i d j n hs hd
    obtain ⟨rfl, hb⟩ := hx
    exact .mk h (conv_intFloat hs hd) ⟨_, rfl, nearest_lt' n, rfl⟩ (.refl w)
  · rename_i d k y hs hd
    obtain ⟨b, rfl, hb, rfl⟩ := hx
    rcases run_choose_some h with ⟨hok, h⟩ | ⟨_, h⟩
    · have e : flint (cls b) = (f64.read b).toInt .zero := flint_cls
      simp only at hok
      cases hi : flint (cls b) with
      | none => rw [hi] at hok; cases hok
      | some n =>
        rw [hi] at hok
        have hr : k.min ≤ n ∧ n ≤ k.max := of_decide_eq_true hok
        have hf : floatToIntVal .f64 b k = some n := by
          unfold floatToIntVal
          have : (FloatKind.f64.decode b).toInt .zero = some n := by rw [← hi, e]; rfl
          rw [this]; simp only [hr, and_self, if_true]
        refine .mk h (run_convert_float_int w src dst .f64 k b n (by rw [hs]; rfl) hd hf) ⟨?_, ?_⟩ (.refl w)
        · show Value.int k n = Value.int k ((flint (cls b)).getD 0)
          rw [hi]; rfl
        · show okInt k ((flint (cls b)).getD 0)
          rw [hi]; exact hr
    · cases h
  · rename_i d y hs hd
    obtain ⟨b, rfl, hb, rfl⟩ := hx
    exact .mk h (conv_floatFloat hs hd) ⟨b, rfl, hb, rfl⟩ (.refl w)
  · cases h

theorem part_sound {P : Program} {w : World} {t : TypeId} {blk : List (AV R)} {cs : Array Value} {off : Nat} {a : AV R} (hv : VRs ρ blk cs.toList) (h : partV P t blk off = some a) :
    ∃ v, (part t cs off).run P w = .ok v w ∧ VR ρ a v := by
  have many : ∀ (d : TypeDesc) (i : TypeInfo), P.underlying t = some d → aggD d = true → P.info? t = some i →
      (if off + i.size ≤ blk.length then some (AV.agg ((blk.drop off).take i.size)) else none) = some a → ∃ v, (part t cs off).run P w = .ok v w ∧ VR ρ a v := by
    intro d i hu hd hi hh
    split at hh
    · rename_i hle
      cases hh
      have hlen : blk.length = cs.size := by simpa using hv.length
      have hp := run_part hu hi cs off (by omega) (by rw [hd]; simp) w
      refine ⟨_, hp, ?_⟩
      unfold mkV
      rw [hd]
      exact ⟨_, rfl, by simpa using VRs.take i.size (VRs.drop off hv)⟩
    · cases hh
  unfold partV loadV at h
  split at h
  · rename_i fs hu
    split at h
    · rename_i i hi; exact many _ i hu rfl hi h
    · cases h
  · rename_i n e hu
    split at h
    · rename_i i hi; exact many _ i hu rfl hi h
    · cases h
  · rename_i d h1 h2 hu
    obtain ⟨v, hv1, hv2⟩ := hv.get h
    refine ⟨v, ?_, hv2⟩
    have hd : aggD d = false := by
      cases d <;> first | rfl | (exact (h1 _ rfl).elim) | (exact (h2 _ _ rfl).elim)
    have hv1' : cs[off]? = some v := by simpa using hv1
    unfold part
    simp only [Sem.run_bind, run_isAgg hu w, hd, Bool.false_eq_true, if_false, Result.andThen_ok, hv1', Sem.run_pure]
  · cases h

theorem field_sound (P : Program) (w : World) (nx : Nat) (t : TypeId) (f : Nat) {x : AV R} {vx : Value} (hx : VR ρ x vx) (out : Out R) (h : (valO nx "field" (fieldV P t x f)).run = some out) : Pure1 P (Instr.field t vx f) w ρ nx out := by
  refine .mkO h (fun b hb => ?_) (.refl w)
  unfold fieldV at hb
  split at hb
  · rename_i fields cs hu
    split at hb
    · rename_i fd hfd
      obtain ⟨xs, rfl, hxs⟩ := hx
      obtain ⟨v, h1, h2⟩ := part_sound (w := w) hxs hb
      refine ⟨v, ?_, h2⟩
      unfold Instr.field
      simp only [Sem.run_bind, run_underlying hu, Result.andThen_ok, hfd, asAgg, Sem.run_pure, h1]
    · cases hb
  · cases hb

theorem fieldAddr_sound (P : Program) (w : World) (nx : Nat) (t : TypeId) (f : Nat) {x : AV R} {vx : Value} (hx : VR ρ x vx) (out : Out R) (h : (valO nx "fieldAddr" (fieldAddrV P t x f)).run = some out) : Pure1 P (Instr.fieldAt t vx f) w ρ nx out := by
  refine .mkO h (fun b hb => ?_) (.refl w)
  unfold fieldAddrV at hb
  split at hb
  · rename_i fields n z sz o hu
    split at hb
    · rename_i fd hfd
      split at hb
      · rename_i i hi
        split at hb
        · rename_i hsz
          cases hb
          obtain ⟨p, c, h1, h2, h3, h4, rfl⟩ := hx
          refine ⟨.pointer (some ⟨c, p.off + z.toNat * sz + o + fd.offset, none⟩), ?_, ⟨p, c, h1, h2, h3, h4, by rw [Nat.add_assoc (p.off + _)]⟩⟩
          unfold Instr.fieldAt
          simp only [Sem.run_bind, run_underlying hu, Result.andThen_ok, hfd, Instr.sureAddr, Sem.run_pure, fieldPlace, run_size hi w, hsz, if_false, add_at]
        · cases hb
      · cases hb
    · cases hb
  · rename_i fields n off hu
    split at hb
    · rename_i fd hfd
      split at hb
      · rename_i i hi
        split at hb
        · rename_i hsz
          cases hb
          obtain ⟨c, hc, rfl⟩ := hx
          refine ⟨.pointer (some ⟨c, off + fd.offset, none⟩), ?_, ⟨c, hc, rfl⟩⟩
          unfold Instr.fieldAt
          simp only [Sem.run_bind, run_underlying hu, Result.andThen_ok, hfd, Instr.sureAddr, Sem.run_pure, fieldPlace, run_size hi w, hsz, if_false, add_at]
        · cases hb
      · cases hb
    · cases hb
  · cases hb

/-- A chain of tests picks the one that fits. -/
theorem pickAt_sound (nx : Nat) (z : Int) (f : Nat → Option (AV R)) (out : Out R) : ∀ (n i : Nat), (pickAt (D := R) nx z f n i).run = some out → ∃ m, i ≤ m ∧ m < i + n ∧ z = (m : Int) ∧ (valO nx "index" (f m)).run = some out
  | 0, i, h => by cases h
  | n + 1, i, h => by
    simp only [pickAt] at h
    rcases run_choose_some h with ⟨hz, h⟩ | ⟨_, h⟩
    · exact ⟨i, Nat.le_refl _, by omega, by simpa [R] using hz, h⟩
    · obtain ⟨m, h1, h2, h3, h4⟩ := pickAt_sound nx z f out n (i + 1) h
      exact ⟨m, by omega, by omega, h3, h4⟩

theorem run_index {P : Program} {w : World} {t elem : TypeId} {len : Nat} {j : TypeInfo} {cs : Array Value} {k : IntKind} {n : Int} {v : Value} (hu : P.underlying t = some (.array len elem)) (hj : P.info? elem = some j)
    (hn : 0 ≤ n ∧ n < len) (hp : (part elem cs (n.toNat * j.size)).run P w = .ok v w) : (Instr.index t (.agg cs) (.int k n)).run P w = .ok v w := by
  unfold Instr.index
  simp only [Sem.run_bind, asIntOf, Sem.run_pure, Result.andThen_ok, run_underlying hu, hn, and_self, if_true, run_size hj w, hp]

theorem index_sound (P : Program) (w : World) (nx : Nat) (t : TypeId) {x i : AV R} {vx vi : Value} (hx : VR ρ x vx) (hi : VR ρ i vi) (out : Out R) (h : (indexV P nx t x i).run = some out) : Pure1 P (Instr.index t vx vi) w ρ nx out := by
  unfold indexV at h
  split at h
  · rename_i len elem cs hu
    obtain ⟨xs, rfl, hxs⟩ := hx
    split at h
    · rename_i j hj
      split at h
      · rename_i k n
        obtain ⟨rfl, _⟩ := hi
        split at h
        · rename_i hn
          refine .mkO h (fun b hb => ?_) (.refl w)
          obtain ⟨v, h1, h2⟩ := part_sound (w := w) hxs hb
          exact ⟨v, run_index hu hj hn h1, h2⟩
        · cases h
      · rename_i k z
        obtain ⟨rfl, _⟩ := hi
        obtain ⟨m, _, h2, h3, h4⟩ := pickAt_sound nx z _ out len 0 h
        refine .mkO h4 (fun b hb => ?_) (.refl w)
        obtain ⟨v, g1, g2⟩ := part_sound (w := w) hxs hb
        have h3' : (z : Int) = (m : Int) := h3
        refine ⟨v, run_index (n := z) hu hj (by rw [h3']; omega) ?_, g2⟩
        rw [h3']; exact g1
      · cases h
    · cases h
  · rename_i len elem m k l hu
    obtain ⟨hl, xs, rfl, hr⟩ := hx
    split at h
    · rename_i len' k' j kk z hb hj hz
      obtain ⟨rfl, hok⟩ := VR.z_inv hi hz
      split at h
      · rename_i hc
        obtain ⟨rfl, rfl⟩ := hc
        rcases run_choose_some h with ⟨hc, h⟩ | ⟨_, h⟩
        · have hc' : (decide ((0 : Int) ≤ z) && decide (z < ((m : Nat) : Int))) = true := hc
          simp only [Bool.and_eq_true, decide_eq_true_eq] at hc'
          obtain ⟨z0, z1⟩ := hc'
          obtain ⟨e, ji, ii, q1, q2, q3, q4, q5, q6, q7⟩ := bigT_spec hb
          rw [hu] at q1; cases q1
          rw [hj] at q3; cases q3
          obtain ⟨c, v, a1, a2, a3⟩ := rowR_get hr (i := z.toNat) (by omega)
          cases c <;> first | (exact (a3 : False).elim) | skip
          rename_i x
          obtain ⟨rfl, hx⟩ := a3
          have hz0 : ((z.toNat : Nat) : Int) = z := Int.toNat_of_nonneg z0
          have hlz : R.lz l z 0 = x := by rw [← hz0]; exact lz_cell a1
          refine .mk h (v := .int k x) (run_index (n := z) hu hj ⟨z0, z1⟩ ?_) ⟨by rw [hlz], by rw [hlz]; exact hx⟩ (.refl w)
          have hv1' : xs[z.toNat * j.size]? = some (.int k x) := by rw [q4, Nat.mul_one, ← Array.getElem?_toList]; exact a2
          have hag : aggD (.int k) = false := rfl
          unfold part
          simp only [Sem.run_bind, run_isAgg q2 w, hag, Bool.false_eq_true, if_false, Result.andThen_ok, hv1', Sem.run_pure]
        · cases h
      · cases h
    · cases h
  · cases h

theorem run_indexAt_arr {P : Program} {w : World} {t elem : TypeId} {len : Nat} {j : TypeInfo} {k : IntKind} {n : Int} {c off : Nat} (hu : P.underlying t = some (.array len elem)) (hj : P.info? elem = some j)
    (hn : 0 ≤ n ∧ n < len) : (Instr.indexAt t (.pointer (some ⟨c, off, none⟩)) (.int k n)).run P w = .ok (.pointer (some ⟨c, off + n.toNat * j.size, none⟩)) w := by
  unfold Instr.indexAt
  simp only [Sem.run_bind, asIntOf, Sem.run_pure, Result.andThen_ok, run_underlying hu, Instr.sureAddr, hn, and_self, if_true, run_size hj w, add_at]

theorem run_indexAt_slice {P : Program} {w : World} {t elem : TypeId} {len cap : Nat} {j : TypeInfo} {k : IntKind} {n : Int} {c off : Nat} (hu : P.underlying t = some (.slice elem)) (hj : P.info? elem = some j)
    (hn : 0 ≤ n ∧ n < len) : (Instr.indexAt t (.slice (some ⟨c, off, none⟩) len cap) (.int k n)).run P w = .ok (.pointer (some ⟨c, off + n.toNat * j.size, none⟩)) w := by
  unfold Instr.indexAt
  simp only [Sem.run_bind, asIntOf, Sem.run_pure, Result.andThen_ok, run_underlying hu, hn, and_self, if_true, run_size hj w, add_at]

theorem i64_room {n : Int} (h0 : -9223372036854775808 ≤ n) (h1 : n ≤ 9223372036854775807) : IntKind.i64.wrap n = n := by
  have e : (IntKind.i64.bits : Nat) = 64 := rfl
  have s : IntKind.i64.signed = true := rfl
  unfold IntKind.wrap
  simp only [e, s]
  split <;> simp_all <;> omega

theorem indexAddr_sound (P : Program) (w : World) (nx : Nat) (t : TypeId) {x i : AV R} {vx vi : Value} (hx : VR ρ x vx) (hi : VR ρ i vi) (out : Out R) (h : (indexAddrV P nx t x i).run = some out) : Pure1 P (Instr.indexAt t vx vi) w ρ nx out := by
  unfold indexAddrV at h
  split at h
  · rename_i len elem n off k m hu
    obtain ⟨c, hc, rfl⟩ := hx
    obtain ⟨rfl, _⟩ := hi
    split at h
    · rename_i j hj
      split at h
      · rename_i hn
        exact .mk h (run_indexAt_arr hu hj hn) ⟨c, hc, rfl⟩ (.refl w)
      · cases h
    · cases h
  · rename_i len elem n off k z hu
    obtain ⟨c, hc, rfl⟩ := hx
    obtain ⟨rfl, _⟩ := hi
    split at h
    · rename_i j hj
      obtain ⟨m, _, h2, h3, h4⟩ := pickAt_sound nx z _ out len 0 h
      have h3' : (z : Int) = (m : Int) := h3
      refine .mkO h4 (fun b hb => ?_) (.refl w)
      cases hb
      refine ⟨_, run_indexAt_arr (n := z) hu hj (by rw [h3']; omega), ⟨c, hc, ?_⟩⟩
      rw [h3']; rfl
    · cases h
  · rename_i elem n off len cap k m hu
    obtain ⟨c, hc, rfl⟩ := hx
    obtain ⟨rfl, _⟩ := hi
    split at h
    · rename_i j hj
      split at h
      · rename_i hn
        exact .mk h (run_indexAt_slice hu hj hn) ⟨c, hc, rfl⟩ (.refl w)
      · cases h
    · cases h
  · rename_i elem n off len cap k z hu
    obtain ⟨c, hc, rfl⟩ := hx
    obtain ⟨rfl, _⟩ := hi
    split at h
    · rename_i j hj
      obtain ⟨m, _, h2, h3, h4⟩ := pickAt_sound nx z _ out len 0 h
      have h3' : (z : Int) = (m : Int) := h3
      refine .mkO h4 (fun b hb => ?_) (.refl w)
      cases hb
      refine ⟨_, run_indexAt_slice (n := z) hu hj (by rw [h3']; omega), ⟨c, hc, ?_⟩⟩
      rw [h3']; rfl
    · cases h
  · rename_i elem n k off len sz hu
    obtain ⟨p, base, cap, hp, rfl, hs⟩ := hx
    split at h
    · rename_i j kk z hj hz
      obtain ⟨rfl, hok⟩ := VR.z_inv hi hz
      split at h
      · rename_i hsz
        rcases run_choose_some h with ⟨hc, h⟩ | ⟨_, h⟩
        · have hc' : (decide ((0 : Int) ≤ z) && decide (z < len)) = true := hc
          simp only [Bool.and_eq_true, decide_eq_true_eq] at hc'
          obtain ⟨z0, z1⟩ := hc'
          have hbase := hs.base (.inr (by omega))
          have hf := hs.fits
          have hb := hs.lenb
          have ho := hs.off0
          cases hpb : p.b with
          | none =>
            rw [hpb] at hbase
            have := hs.nil hbase
            have := hs.cap1
            omega
          | some b =>
            rw [hpb] at hbase
            subst hbase
            have hadd : (addO (D := R) off z).toNat = (off.getD 0).toNat + z.toNat ∧ 0 ≤ addO (D := R) off z := by
              cases off with
              | none => exact ⟨by simp [addO], z0⟩
              | some o =>
                have e : addO (D := R) (some o) z = o + z := i64_room (by simp at ho; omega) (by simp at hf ho; omega)
                rw [e]
                simp at ho ⊢
                omega
            refine .mk h (v := .pointer (some ⟨b, p.off + (addO (D := R) off z).toNat * sz + 0, none⟩)) ?_ ⟨p, b, hp, hpb, hadd.2, by rw [hadd.1]; omega, rfl⟩ (.refl w)
            have := run_indexAt_slice (w := w) (len := len.toNat) (cap := cap) (k := kk) (n := z) (c := b) (off := p.off + (off.getD 0).toNat * sz) hu hj ⟨z0, by omega⟩
            rw [Option.map_some, this, hadd.1, hsz, Nat.add_mul, Nat.add_assoc, Nat.add_zero]
        · cases h
      · cases h
    · cases h
  · rename_i len elem n m hu
    obtain ⟨p, b, h1, h2, h3, h4, rfl⟩ := hx
    split at h
    · rename_i j kk z hj hz
      obtain ⟨rfl, hok⟩ := VR.z_inv hi hz
      split at h
      · rename_i hc
        obtain ⟨hsz, rfl⟩ := hc
        rcases run_choose_some h with ⟨hc, h⟩ | ⟨_, h⟩
        · have hc' : (decide ((0 : Int) ≤ z) && decide (z < ((m : Nat) : Int))) = true := hc
          simp only [Bool.and_eq_true, decide_eq_true_eq] at hc'
          obtain ⟨z0, z1⟩ := hc'
          refine .mk h (run_indexAt_arr (n := z) hu hj ⟨z0, z1⟩) ⟨p, b, h1, h2, z0, by omega, ?_⟩ (.refl w)
          rw [h3, hsz, Nat.add_zero]
        · cases h
      · cases h
    · cases h
  · cases h

theorem okInt_if {k : IntKind} {x y : Int} {c : Prop} [Decidable c] (hx : okInt k x) (hy : okInt k y) : okInt k (if c then x else y) := by split <;> assumption

theorem okInt_zmax {k : IntKind} {a b : Int} (ha : okInt k a) (hb : okInt k b) : okInt k (R.zmax a b) := by
  show okInt k (if b > a then b else a)
  exact okInt_if hb ha
theorem okInt_zmin {k : IntKind} {a b : Int} (ha : okInt k a) (hb : okInt k b) : okInt k (R.zmin a b) := by
  show okInt k (if b < a then b else a)
  exact okInt_if hb ha

theorem minmax_sound (P : Program) (nx : Nat) (isMax : Bool) (out : Out R) : ∀ (r : List (AV R)) (rs : List Value) (x : AV R) (v : Value) (w : World), VR ρ x v → VRs ρ r rs → (minmaxV isMax nx x r).run = some out →
    Pure1 P (rs.foldlM (if isMax then Builtin.max2 else Builtin.min2) v) w ρ nx out
  | [], [], x, v, w, hx, _, h => by
    unfold minmaxV at h
    exact .mk h (by simp only [List.foldlM_nil, Sem.run_pure]) hx (.refl w)
  | y :: r, u :: rs, x, v, w, hx, ⟨hy, hr⟩, h => by
    have go : ∀ (z : AV R) (vz : Value) (w' : World), ((if isMax then Builtin.max2 else Builtin.min2) v u).run P w = .ok vz w' → VR ρ z vz → SameW w w' → (minmaxV isMax nx z r).run = some out →
        Pure1 P ((u :: rs).foldlM (if isMax then Builtin.max2 else Builtin.min2) v) w ρ nx out := by
      intro z vz w' h1 h2 h3 h4
      obtain ⟨p1, p2, v2, w2, p3, p4, p5⟩ := minmax_sound P nx isMax out r rs z vz w' h2 hr h4
      refine ⟨p1, p2, v2, w2, ?_, p4, ⟨p5.heap.trans h3.heap, p5.os.trans h3.os, p5.tape.trans h3.tape, p5.output.trans h3.output⟩⟩
      rw [List.foldlM_cons, Sem.run_bind, h1]; exact p3
    unfold minmaxV at h
    split at h
    · rename_i he; cases he
    · rename_i a b r' he
      cases he
      obtain ⟨p, rfl, hp, rfl⟩ := hx
      obtain ⟨q, rfl, hq, rfl⟩ := hy
      cases isMax with
      | true =>
        obtain ⟨s, w', h1, h2, h3, h4⟩ := run_max2 P w p q hp hq
        exact go (.fl (flmax (cls p) (cls q))) _ w' h1 ⟨s, rfl, h2, h3⟩ h4 h
      | false =>
        obtain ⟨s, w', h1, h2, h3, h4⟩ := run_min2 P w p q hp hq
        exact go (.fl (flmin (cls p) (cls q))) _ w' h1 ⟨s, rfl, h2, h3⟩ h4 h
    · rename_i k a j b r' he
      cases he
      obtain ⟨rfl, hp⟩ := hx
      obtain ⟨rfl, hq⟩ := hy
      split at h
      · rename_i hk; subst hk
        cases isMax with
        | true => exact go (.ki k (if b > a then b else a)) _ w rfl ⟨rfl, okInt_if hq hp⟩ (.refl w) h
        | false => exact go (.ki k (if b < a then b else a)) _ w rfl ⟨rfl, okInt_if hq hp⟩ (.refl w) h
      · cases h
    · rename_i y' r' h1 h2 he
      cases he
      split at h
      · rename_i k a j b e1 e2
        obtain ⟨rfl, hp⟩ := VR.z_inv hx e1
        obtain ⟨rfl, hq⟩ := VR.z_inv hy e2
        split at h
        · rename_i hk; subst hk
          cases isMax with
          | true => exact go (.si k (R.zmax a b)) _ w rfl ⟨rfl, okInt_zmax hp hq⟩ (.refl w) h
          | false => exact go (.si k (R.zmin a b)) _ w rfl ⟨rfl, okInt_zmin hp hq⟩ (.refl w) h
        · cases h
      · cases h

end Go.Ev
/- Rows: looks into them and what is laid there. -/
namespace Go.Ev

theorem fitE_length : ∀ {ks : List CK} {e : List Cell}, fitE ks e → e.length = ks.length
  | [], [], _ => rfl
  | _ :: _, _ :: _, ⟨_, h⟩ => by simp [fitE_length h]
  | [], _ :: _, h => (h : False).elim
  | _ :: _, [], h => (h : False).elim

theorem fitE_drop : ∀ {ks : List CK} {e : List Cell} (o : Nat), fitE ks e → fitE (ks.drop o) (e.drop o)
  | _, _, 0, h => by simpa using h
  | [], [], _ + 1, _ => trivial
  | _ :: _, _ :: _, o + 1, ⟨_, h⟩ => fitE_drop o h
  | [], _ :: _, _ + 1, h => (h : False).elim
  | _ :: _, [], _ + 1, h => (h : False).elim

theorem fitE_take : ∀ {ks : List CK} {e : List Cell} (o : Nat), fitE ks e → fitE (ks.take o) (e.take o)
  | _, _, 0, _ => by simp [fitE]
  | [], [], _ + 1, _ => trivial
  | _ :: _, _ :: _, o + 1, ⟨h1, h⟩ => ⟨h1, fitE_take o h⟩
  | [], _ :: _, _ + 1, h => (h : False).elim
  | _ :: _, [], _ + 1, h => (h : False).elim

theorem fitE_append : ∀ {ks js : List CK} {e f : List Cell}, fitE ks e → fitE js f → fitE (ks ++ js) (e ++ f)
  | [], _, [], _, _, h => h
  | _ :: _, _, _ :: _, _, ⟨h1, h⟩, g => ⟨h1, fitE_append h g⟩
  | [], _, _ :: _, _, h, _ => (h : False).elim
  | _ :: _, _, [], _, h, _ => (h : False).elim

theorem elemA_length {ks : List CK} {e : List Cell} (h : fitE ks e) : (elemA ks e).length = ks.length := by
  simp [elemA, fitE_length h]

theorem rowA_length {ks : List CK} : ∀ {l : Row}, (∀ e ∈ l, fitE ks e) → (rowA ks l).length = l.length * ks.length
  | [], _ => by simp [rowA]
  | e :: l, h => by
    have := rowA_length (l := l) fun x hx => h x (List.mem_cons_of_mem _ hx)
    have e1 : rowA ks (e :: l) = elemA ks e ++ rowA ks l := by simp [rowA]
    rw [e1, List.length_append, this, elemA_length (h e List.mem_cons_self), List.length_cons, Nat.succ_mul, Nat.add_comm]

theorem rowA_append (ks : List CK) (l m : Row) : rowA ks (l ++ m) = rowA ks l ++ rowA ks m := by simp [rowA]

theorem rowA_take {ks : List CK} : ∀ {l : Row} (i : Nat), (∀ e ∈ l, fitE ks e) → (rowA ks l).take (i * ks.length) = rowA ks (l.take i)
  | [], i, _ => by simp [rowA]
  | e :: l, 0, _ => by simp [rowA]
  | e :: l, i + 1, h => by
    have := rowA_take (l := l) i fun x hx => h x (List.mem_cons_of_mem _ hx)
    have e1 : rowA ks (e :: l) = elemA ks e ++ rowA ks l := by simp [rowA]
    have e2 : rowA ks ((e :: l).take (i + 1)) = elemA ks e ++ rowA ks (l.take i) := by simp [rowA]
    have hl := elemA_length (h e List.mem_cons_self)
    rw [e1, e2, ← this, List.take_append, hl, List.take_of_length_le (by rw [hl, Nat.succ_mul]; omega)]
    congr 2
    rw [Nat.succ_mul]; omega

theorem rowA_drop {ks : List CK} : ∀ {l : Row} (i : Nat), (∀ e ∈ l, fitE ks e) → (rowA ks l).drop (i * ks.length) = rowA ks (l.drop i)
  | [], i, _ => by simp [rowA]
  | e :: l, 0, _ => by simp [rowA]
  | e :: l, i + 1, h => by
    have := rowA_drop (l := l) i fun x hx => h x (List.mem_cons_of_mem _ hx)
    have e1 : rowA ks (e :: l) = elemA ks e ++ rowA ks l := by simp [rowA]
    have hl := elemA_length (h e List.mem_cons_self)
    rw [e1, List.drop_succ_cons, ← this, List.drop_append, hl, List.drop_eq_nil_of_le (by rw [hl, Nat.succ_mul]; omega), List.nil_append]
    congr 1
    rw [Nat.succ_mul]; omega

/-- One element of a row. -/
theorem rowA_at {ks : List CK} {l : Row} {i : Nat} {e : List Cell} (h : ∀ e ∈ l, fitE ks e) (he : l[i]? = some e) : ((rowA ks l).drop (i * ks.length)).take ks.length = elemA ks e := by
  have hl : i < l.length := (List.getElem?_eq_some_iff.1 he).1
  have e0 : l.drop i = e :: l.drop (i + 1) := by
    rw [List.drop_eq_getElem_cons hl]
    congr 1
    exact (List.getElem?_eq_some_iff.1 he).2
  rw [rowA_drop i h, e0]
  have e1 : rowA ks (e :: l.drop (i + 1)) = elemA ks e ++ rowA ks (l.drop (i + 1)) := by simp [rowA]
  have hl := elemA_length (h e (List.mem_of_getElem? he))
  rw [e1, List.take_append, hl, Nat.sub_self, List.take_zero, List.append_nil, List.take_of_length_le (by omega)]

theorem rowCells_eq {l : Row} {z : Int} {e : List Cell} (he : l[z.toNat]? = some e) : ∀ (ks : List CK) (j : Nat), fitE ks (e.drop j) → rowCells (D := R) l z ks j = elemA ks (e.drop j)
  | [], j, h => by simp [rowCells, elemA]
  | k :: ks, j, h => by
    cases hd : e.drop j with
    | nil => rw [hd] at h; exact (h : False).elim
    | cons c r =>
      rw [hd] at h
      have hj : e[j]? = some c := by
        have := congrArg List.head? hd
        simpa [List.head?_drop] using this
      have hr : e.drop (j + 1) = r := by
        have := congrArg List.tail hd
        simpa [List.tail_drop] using this
      have hc : Row.cell l z j = some c := by simp [Row.cell, he, hj]
      have ih := rowCells_eq he ks (j + 1) (by rw [hr]; exact h.2)
      rw [hr] at ih
      simp only [rowCells, ih, elemA, List.zipWith_cons_cons]
      congr 1
      have hk := h.1
      cases k <;> cases c <;> first | (exact (hk : False).elim) | (simp only [rowCell, cellA, Row.fl, Row.bl, Row.int, hc])

/-- The cells of a row's element, at the machine. -/
theorem RowAt.elem {ρ : Nm} {ks : List CK} {l : Row} {p : Plc} {w : World} (h : RowAt ks l p w) {b : Nat} (hb : p.b = some b) {i : Nat} (hi : i < p.len) :
    ∃ e cs ty fz, l[i]? = some e ∧ fitE ks e ∧ w.heap[b]? = some (.cells cs ty fz) ∧ p.off + p.room * ks.length ≤ cs.size ∧ VRs ρ (elemA ks e) ((cs.toList.drop (p.off + i * ks.length)).take ks.length) := by
  rcases h.at' with ⟨g, _⟩ | ⟨b', cs, ty, fz, g1, g2, g3, g4⟩
  · rw [hb] at g; cases g
  rw [hb] at g1; cases g1
  have hl := h.len
  have hi' : i < l.length := by omega
  have he : l[i]? = some l[i] := List.getElem?_eq_getElem hi'
  refine ⟨l[i], cs, ty, fz, he, h.fit _ (List.mem_of_getElem? he), g2, g3, ?_⟩
  have := VRs.take ks.length (VRs.drop (i * ks.length) g4)
  rw [rowA_at h.fit he, List.drop_take, List.take_take, List.drop_drop, Nat.min_eq_left] at this
  · refine VRs.noPtr _ _ ?_ this
    have : ∀ (ks : List CK) (e : List Cell), noPtrs (elemA ks e) = true := by
      intro ks
      induction ks with
      | nil => intro e; simp [elemA, noPtrs]
      | cons k ks ih =>
        intro e
        cases e with
        | nil => simp [elemA, noPtrs]
        | cons c e =>
          have := ih e
          simp only [elemA, List.zipWith_cons_cons, noPtrs, Bool.and_eq_true]
          refine ⟨?_, this⟩
          cases k <;> cases c <;> rfl
    exact this _ _
  · rw [← Nat.sub_mul]
    exact Nat.le_mul_of_pos_left _ (by omega)

/-- A look into a row. -/
theorem loadRow_sound {ρ : Nm} {P : Program} {w : World} {t : TypeId} {ks : List CK} {l : Row} {p : Plc} {b sz o : Nat} {z : Int} {u : AV R} (h : RowAt ks l p w) (hb : p.b = some b) (_h0 : 0 ≤ z) (hz : z.toNat < p.len) (hks : ks.length = sz)
    (hu : loadRow (D := R) P t ks l z o = some u) : ∃ v, (loadVar t ⟨b, p.off + z.toNat * sz + o, none⟩).run P w = .ok v w ∧ VR ρ u v := by
  subst hks
  obtain ⟨e, cs, ty, fz, h1, h2, h3, h4, h5⟩ := h.elem (ρ := ρ) hb hz
  have hc := rowCells_eq h1 ks 0 (by simpa using h2)
  rw [List.drop_zero] at hc
  have hin : p.off + z.toNat * ks.length + ks.length ≤ cs.size := by
    have : z.toNat * ks.length + ks.length ≤ p.room * ks.length := by
      rw [← Nat.succ_mul]
      exact Nat.mul_le_mul_right _ (by have := h.le; omega)
    omega
  let A := p.off + z.toNat * ks.length
  have hblk : VRs ρ (List.replicate A AV.any ++ (elemA ks e ++ List.replicate (cs.size - (A + ks.length)) AV.any)) cs.toList := by
    have hsplit : cs.toList = cs.toList.take A ++ ((cs.toList.drop A).take ks.length ++ cs.toList.drop (A + ks.length)) := by
      conv => lhs; rw [← List.take_append_drop A cs.toList, ← List.take_append_drop ks.length (cs.toList.drop A), List.drop_drop]
    rw [hsplit]
    have anys : ∀ (vs : List Value) (n : Nat), vs.length = n → VRs ρ (List.replicate n (AV.any : AV R)) vs := by
      intro vs
      induction vs with
      | nil => intro n hn; cases hn; trivial
      | cons v vs ih => intro n hn; cases hn; exact ⟨trivial, ih _ rfl⟩
    refine VRs.append (anys _ _ ?_) (VRs.append h5 (anys _ _ ?_))
    · simp; omega
    · simp
  refine load_sound h3 hblk (off := p.off + z.toNat * ks.length + o) ?_
  have hlen := elemA_length h2
  have many : ∀ i : TypeInfo, (if o + i.size ≤ ks.length then some (AV.agg (((rowCells (D := R) l z ks 0).drop o).take i.size)) else none) = some u →
      (if p.off + z.toNat * ks.length + o + i.size ≤ (List.replicate A AV.any ++ (elemA ks e ++ List.replicate (cs.size - (A + ks.length)) (AV.any : AV R))).length then some (AV.agg (((List.replicate A AV.any ++ (elemA ks e ++ List.replicate (cs.size - (A + ks.length)) (AV.any : AV R))).drop (p.off + z.toNat * ks.length + o)).take i.size)) else none) = some u := by
    intro i hi
    split at hi
    · rename_i hle
      cases hi
      rw [if_pos (by simp [hlen, A]; omega)]
      congr 2
      rw [hc, List.drop_append, List.length_replicate, List.drop_eq_nil_of_le (by simp [A]; try omega), List.nil_append]
      have : p.off + z.toNat * ks.length + o - A = o := by simp only [A]; omega
      rw [this, List.drop_append, List.take_append, hlen, List.length_drop, hlen, Nat.sub_eq_zero_of_le (by omega), List.take_zero, List.append_nil]
    · cases hi
  unfold loadRow at hu
  unfold loadV
  split at hu
  · rename_i fs hty
    split at hu
    · rename_i i hi
      exact many i hu
    · cases hu
  · rename_i n et hty
    split at hu
    · rename_i i hi
      exact many i hu
    · cases hu
  · rename_i d h1' h2' hty
    have hget : (List.replicate A AV.any ++ (elemA ks e ++ List.replicate (cs.size - (A + ks.length)) (AV.any : AV R)))[p.off + z.toNat * ks.length + o]? = some u := by
      rw [hc] at hu
      have ho : o < ks.length := by
        have := (List.getElem?_eq_some_iff.1 hu).1
        omega
      rw [List.getElem?_append_right (by simp [A]; try omega), List.length_replicate]
      have : p.off + z.toNat * ks.length + o - A = o := by simp only [A]; omega
      rw [this, List.getElem?_append_left (by omega)]
      exact hu
    first
      | exact hget
      | (cases d <;> first | exact hget | exact (h1' _ rfl).elim | exact (h2' _ _ rfl).elim)
  · cases hu

theorem toCV_inv {ρ ρ' : Nm} {k : CK} {a : AV R} {c : Cell} {u : Value} (h : toCV (D := R) k a = some c) (hu : VR ρ a u) : k.fitC c ∧ VR ρ' (cellA k c) u ∧ a.isCell = true := by
  cases k <;> cases a <;> simp only [toCV] at h <;> first | (cases h; done) | skip
  · cases h; exact ⟨trivial, hu, rfl⟩
  · cases h; exact ⟨trivial, hu, rfl⟩
  · cases h; exact ⟨trivial, hu, rfl⟩
  · split at h
    · rename_i e; subst e; cases h; exact ⟨hu.2, hu, rfl⟩
    · cases h
  · split at h
    · rename_i e; subst e; cases h; exact ⟨hu.2, hu, rfl⟩
    · cases h

theorem toCVs_inv {ρ ρ' : Nm} : ∀ {ks : List CK} {as : List (AV R)} {cs : List Cell} {us : List Value}, toCVs (D := R) ks as = some cs → VRs ρ as us → fitE ks cs ∧ VRs ρ' (elemA ks cs) us ∧ as.all AV.isCell = true
  | [], [], cs, us, h, hu => by
    simp only [toCVs] at h; cases h
    have := hu.nil_inv; subst this
    exact ⟨trivial, trivial, rfl⟩
  | k :: ks, a :: as, cs, us, h, hu => by
    simp only [toCVs] at h
    split at h
    · rename_i c l h1 h2
      cases h
      obtain ⟨v, ws, rfl, g1, g2⟩ := hu.cons_inv
      obtain ⟨a1, a2, a3⟩ := toCV_inv (ρ' := ρ') h1 g1
      obtain ⟨b1, b2, b3⟩ := toCVs_inv (ρ' := ρ') h2 g2
      exact ⟨⟨a1, b1⟩, ⟨a2, b2⟩, by simp [a3, b3]⟩
    · cases h
  | [], _ :: _, _, _, h, _ => by simp [toCVs] at h
  | _ :: _, [], _, _, h, _ => by simp [toCVs] at h

theorem elemA_append {ks js : List CK} {e f : List Cell} (h : e.length = ks.length) : elemA (ks ++ js) (e ++ f) = elemA ks e ++ elemA js f := by
  unfold elemA
  exact List.zipWith_append h.symm

theorem layOn_fit {ks : List CK} {e cs : List Cell} {o n : Nat} (he : fitE ks e) (ho : o + n ≤ ks.length) (hc : fitE ((ks.drop o).take n) cs) : fitE ks (layOn o cs e) ∧ elemA ks (layOn o cs e) = (elemA ks e).take o ++ (elemA ((ks.drop o).take n) cs ++ (elemA ks e).drop (o + n)) := by
  have hn : cs.length = n := by rw [fitE_length hc]; simp; omega
  have hk : ks = ks.take o ++ ((ks.drop o).take n ++ ks.drop (o + n)) := by
    conv => lhs; rw [← List.take_append_drop o ks, ← List.take_append_drop n (ks.drop o), List.drop_drop]
  have el := fitE_length he
  have f1 := fitE_take o he
  have f2 := fitE_drop (o + n) he
  unfold layOn
  rw [hn]
  refine ⟨by rw [hk]; exact fitE_append f1 (fitE_append hc f2), ?_⟩
  conv => lhs; rw [hk]
  rw [elemA_append (by simp [el]), elemA_append (by rw [hn]; simp; omega)]
  unfold elemA
  rw [List.take_zipWith, List.drop_zipWith]

theorem rowA_put {ks : List CK} {l : Row} {z : Int} {o n : Nat} {cs : List Cell} (hf : ∀ e ∈ l, fitE ks e) (hz : z.toNat < l.length) (ho : o + n ≤ ks.length) (hc : fitE ((ks.drop o).take n) cs) :
    (∀ e ∈ Row.put l z o cs, fitE ks e) ∧ (Row.put l z o cs).length = l.length ∧
      rowA ks (Row.put l z o cs) = (rowA ks l).take (z.toNat * ks.length + o) ++ (elemA ((ks.drop o).take n) cs ++ (rowA ks l).drop (z.toNat * ks.length + o + n)) := by
  have he : l[z.toNat]? = some l[z.toNat] := List.getElem?_eq_getElem hz
  have fe := hf _ (List.mem_of_getElem? he)
  obtain ⟨g1, g2⟩ := layOn_fit fe ho hc
  have hm : Row.put l z o cs = l.take z.toNat ++ (layOn o cs l[z.toNat] :: l.drop (z.toNat + 1)) := by
    unfold Row.put
    exact List.modify_eq_take_cons_drop hz
  have hl : l = l.take z.toNat ++ (l[z.toNat] :: l.drop (z.toNat + 1)) := by
    rw [← List.drop_eq_getElem_cons hz, List.take_append_drop]
  refine ⟨fun e h => ?_, by unfold Row.put; simp, ?_⟩
  · rw [hm] at h
    rcases List.mem_append.1 h with h | h
    · exact hf e (List.mem_of_mem_take h)
    · rcases List.mem_cons.1 h with rfl | h
      · exact g1
      · exact hf e (List.mem_of_mem_drop h)
  · have r1 : rowA ks (Row.put l z o cs) = rowA ks (l.take z.toNat) ++ (elemA ks (layOn o cs l[z.toNat]) ++ rowA ks (l.drop (z.toNat + 1))) := by rw [hm]; simp [rowA]
    have r2 : rowA ks l = rowA ks (l.take z.toNat) ++ (elemA ks l[z.toNat] ++ rowA ks (l.drop (z.toNat + 1))) := by
      have := congrArg (rowA ks) hl
      rw [rowA_append] at this
      exact this
    have l1 : (rowA ks (l.take z.toNat)).length = z.toNat * ks.length := by
      rw [rowA_length fun e h => hf e (List.mem_of_mem_take h)]
      congr 1
      simp; omega
    have l2 := elemA_length fe
    rw [r1, r2, g2]
    generalize rowA ks (l.take z.toNat) = A at *
    generalize elemA ks l[z.toNat] = E at *
    generalize rowA ks (l.drop (z.toNat + 1)) = Q at *
    have e1 : (A ++ (E ++ Q)).take (z.toNat * ks.length + o) = A ++ E.take o := by
      rw [List.take_append, l1, List.take_of_length_le (by omega), Nat.add_sub_cancel_left, List.take_append, l2, Nat.sub_eq_zero_of_le (by omega), List.take_zero, List.append_nil]
    have e2 : (A ++ (E ++ Q)).drop (z.toNat * ks.length + o + n) = E.drop (o + n) ++ Q := by
      rw [List.drop_append, l1, List.drop_eq_nil_of_le (by omega), List.nil_append, Nat.add_assoc, Nat.add_sub_cancel_left, List.drop_append, l2, Nat.sub_eq_zero_of_le (by omega), List.drop_zero]
    rw [e1, e2]
    simp

theorem take_splice {α : Type} {X V : List α} {A s M : Nat} (hV : V.length = s) (h1 : A + s ≤ M) (h2 : M ≤ X.length) : (X.take A ++ V ++ X.drop (A + s)).take M = (X.take M).take A ++ (V ++ (X.take M).drop (A + s)) := by
  rw [List.append_assoc, List.take_append, List.length_take, Nat.min_eq_left (by omega), List.take_take, List.take_append, hV, List.take_take, Nat.min_eq_right (by omega), Nat.min_eq_left (by omega),
    List.take_of_length_le (l := V) (by omega), List.drop_take, Nat.sub_sub]

/-- What is laid into a row. -/
theorem storeRow_sound {ρ : Nm} {P : Program} {w : World} {t : TypeId} {n nx : Nat} {ks : List CK} {l l' : Row} {p : Plc} {b sz o : Nat} {z : Int} {x : AV R} {v : Value} {h0 : Heap R} (hH : HR ρ h0 w) (hI : Inj ρ w) (hg : hget h0 n = some [.row false ks l])
    (hp : ρ.pl n = some p) (hb : p.b = some b) (_hz0 : 0 ≤ z) (hz : z.toNat < p.len) (hks : ks.length = sz) (hx : VR ρ x v) (h : storeRow (D := R) P t ks l z o x = some l') :
    ∃ w', (storeVar t ⟨b, p.off + z.toNat * sz + o, none⟩ v).run P w = .ok () w' ∧ Step ρ ρ w w' nx nx [(n, [.row false ks l'])] h0 := by
  subst hks
  obtain ⟨p', k1, k2, k3, k4⟩ := (hH n _ hg).openRow
  rw [hp] at k1; cases k1
  obtain ⟨k5, k6⟩ := k3 rfl
  have hclr := (hH n _ hg).clear hp
  rcases k4.at' with ⟨g, _⟩ | ⟨b', cs, ty, fz, g1, g2, g3, g4⟩
  · rw [hb] at g; cases g
  rw [hb] at g1; cases g1
  have hfz := hclr b cs ty fz hb g2
  subst hfz
  unfold storeRow at h
  split at h
  · rename_i i hi
    split at h
    · rename_i hc
      simp only [Bool.and_eq_true, decide_eq_true_eq] at hc
      split at h
      · rename_i cv hcv
        cases h
        have hna : x.noBox = false := by
          cases x <;> first | rfl | skip
          all_goals
            exfalso
            simp only [AV.cells] at hcv
            cases hk : (ks.drop o).take i.size with
            | nil => rw [hk] at hcv; simp [toCVs] at hcv
            | cons k r => rw [hk] at hcv; cases k <;> simp [toCVs, toCV] at hcv
        have hxc := cells_VRs hx hna
        obtain ⟨f1, f2, f3⟩ := toCVs_inv (ρ' := Nm.nil) hcv hxc
        have hsz : v.cells.size = i.size := by rw [← hc.1]; simpa using hxc.length.symm
        have hlen := k4.len
        obtain ⟨r1, r2, r3⟩ := rowA_put (z := z) k4.fit (by omega) hc.2 f1
        have hroom : z.toNat * ks.length + ks.length ≤ p.len * ks.length := by
          rw [← Nat.succ_mul]
          exact Nat.mul_le_mul_right _ (by omega)
        have hroom2 : p.len * ks.length ≤ p.room * ks.length := Nat.mul_le_mul_right _ k4.le
        have hst := run_storeCells_at P b (p.off + z.toNat * ks.length + o) ty v.cells.toList 0 cs w g2 (by simp; omega) (oneCells_of hxc f3)
        refine ⟨w.setRow b (cs.toList.take (p.off + z.toNat * ks.length + o + 0) ++ v.cells.toList ++ cs.toList.drop (p.off + z.toNat * ks.length + o + 0 + v.cells.toList.length)).toArray, ?_, ?_⟩
        · unfold storeVar
          simp only [Sem.run_bind, run_size hi w, Result.andThen_ok, hsz, ne_eq, not_true_eq_false, if_false]
          exact hst
        · refine .set' hH hI (Nm.bl_of hp hb) k6 ?_ (setRow_size ..) (fun c hc => setRow_other w b c _ hc) rfl rfl rfl
          refine .row hp k2 k3 { len := r2.trans hlen, fit := r1, le := k4.le, at' := .inr ⟨b, _, ty, _, hb, setRow_heap w b cs _ ty (0, 0) g2, ?_, ?_⟩ } fun _ => Clear.of hb (setRow_heap w b cs _ ty (0, 0) g2)
          · simp only [Nat.add_zero, Array.length_toList, List.size_toArray, List.length_append, List.length_take, List.length_drop]
            omega
          · simp only [Nat.add_zero, Array.length_toList, hsz]
            rw [k5, List.drop_zero, Nat.zero_add, take_splice (by simpa using hsz) (by omega) (by simp; omega), r3]
            rw [k5, List.drop_zero] at g4
            exact VRs.append (VRs.take _ g4) (VRs.append f2 (VRs.drop _ g4))
      · cases h
    · cases h
  · cases h

end Go.Ev
/- Rows that are made, grown and cut: a new name, and it may be that an old one dies. -/
namespace Go.Ev

def Nm.kill (ρ : Nm) (n : Nat) : Nm := ⟨ρ.pl, fun m => if m = n then .dead else ρ.st m⟩

/-- The names where one may die and one is new. -/
def Nm.bring (ρ : Nm) (k : Option Nat) (nx : Nat) (p : Plc) : Nm := ⟨fun m => if m = nx then some p else ρ.pl m, fun m => if m = nx then .own else if k = some m then .dead else ρ.st m⟩

def deadOf : Option Nat → Heap R
  | none => []
  | some n => [(n, [])]

section
variable {ρ : Nm} {k : Option Nat} {nx : Nat} {p : Plc}

theorem Nm.bring_pl : (ρ.bring k nx p).pl nx = some p := if_pos rfl
theorem Nm.bring_st : (ρ.bring k nx p).st nx = .own := if_pos rfl
theorem Nm.bring_pl_ne {m : Nat} (h : m ≠ nx) : (ρ.bring k nx p).pl m = ρ.pl m := if_neg h
theorem Nm.bring_st_ne {m : Nat} (h : m ≠ nx) : (ρ.bring k nx p).st m = if k = some m then .dead else ρ.st m := if_neg h
theorem Nm.bring_knows (h : ρ.pl nx = none) : Knows ρ (ρ.bring k nx p) := fun m q hq => by
  have : m ≠ nx := fun e => by subst e; rw [h] at hq; cases hq
  rw [Nm.bring_pl_ne this]; exact hq

theorem hget_dead {m : Nat} : hget (deadOf k) m = if k = some m then some [] else none := by
  cases k with
  | none => simp [deadOf, hget]
  | some n =>
    simp only [deadOf, hget]
    by_cases e : n = m
    · subst e; simp
    · have : (n == m) = false := by simpa using e
      simp [this, e]

/-- A name is brought: for a new block, for none, or for the block of one that dies. -/
theorem Step.bring {w w' : World} {h : Heap R} (hH : HR ρ h w) (hI : Inj ρ w) (hF : ρ.pl nx = none) {blk : List (AV R)}
    (hk : ∀ n, k = some n → ρ.st n = .own) (hb : ∀ b, p.b = some b → b < w'.heap.size ∧ (w.heap.size ≤ b ∨ ∃ n, k = some n ∧ ρ n = some b))
    (hsz : w.heap.size ≤ w'.heap.size) (hoth : ∀ c, c < w.heap.size → (∀ n, k = some n → ρ n ≠ some c) → w'.heap[c]? = w.heap[c]?)
    (h1 : w'.os = w.os) (h2 : w'.tape = w.tape) (h3 : w'.output = w.output) (hv : BlkR (ρ.bring k nx p) nx w' blk) :
    Step ρ (ρ.bring k nx p) w w' nx (nx + 1) ((nx, blk) :: deadOf k) h := by
  have hbl : ∀ {n b : Nat}, n ≠ nx → (ρ.bring k nx p) n = some b → ρ n = some b := fun hn hb => by
    rw [Nm.bl_congr (Nm.bring_pl_ne hn)] at hb; exact hb
  have hnx : ∀ {b : Nat}, (ρ.bring k nx p) nx = some b → p.b = some b := fun hb => by
    obtain ⟨q, q1, q2⟩ := Nm.pl_of hb
    rw [Nm.bring_pl] at q1; cases q1; exact q2
  have nameless : ∀ n b, ρ n = some b → n ≠ nx := fun n b hb e => by subst e; rw [Nm.bl_none hF] at hb; cases hb
  have dget : ∀ m, m ≠ nx → hget ((nx, blk) :: deadOf k) m = if k = some m then some [] else none := fun m hm => by
    have : (nx == m) = false := by simpa using fun e => hm e.symm
    simp only [hget, this, Bool.false_eq_true, if_false]
    exact hget_dead
  exact {
    inj := by
      constructor
      · intro n b hn
        by_cases e : n = nx
        · subst e; exact (hb b (hnx hn)).1
        · have := hI.lt n b (hbl e hn); omega
      · intro n m b hn hm s1 s2
        by_cases e : n = nx
        · by_cases e' : m = nx
          · rw [e, e']
          · exfalso
            subst e
            have hm' := hbl e' hm
            rw [Nm.bring_st_ne e'] at s2
            rcases (hb b (hnx hn)).2 with g | ⟨q, g1, g2⟩
            · have := hI.lt m b hm'; omega
            · by_cases hkm : k = some m
              · rw [if_pos hkm] at s2; exact s2 rfl
              · rw [if_neg hkm] at s2
                have := hI.inj q m b g2 hm' (hk q g1) s2
                subst this
                exact hkm g1
        · have hn' := hbl e hn
          rw [Nm.bring_st_ne e] at s1
          have hkn : k ≠ some n := fun hkn => by rw [if_pos hkn] at s1; cases s1
          rw [if_neg hkn] at s1
          by_cases e' : m = nx
          · exfalso
            subst e'
            rcases (hb b (hnx hm)).2 with g | ⟨q, g1, g2⟩
            · have := hI.lt n b hn'; omega
            · have := hI.inj n q b hn' g2 s1 (by rw [hk q g1]; simp)
              subst this
              exact hkn g1
          · rw [Nm.bring_st_ne e'] at s2
            by_cases hkm : k = some m
            · rw [if_pos hkm] at s2; exact absurd rfl s2
            · rw [if_neg hkm] at s2
              exact hI.inj n m b hn' (hbl e' hm) s1 s2
    hr := by
      intro m bl hg
      rw [hget_append] at hg
      by_cases e : m = nx
      · subst e
        simp [hget] at hg
        subst hg
        exact hv
      · rw [dget m e] at hg
        by_cases hkm : k = some m
        · rw [if_pos hkm] at hg
          simp at hg
          subst hg
          exact .nothing
        · rw [if_neg hkm] at hg
          have hg' : hget h m = some bl := by simpa using hg
          have kk := hH m bl hg'
          rcases kk.deadOr with hnd | hv
          · refine kk.keep (Nm.bring_knows hF) (by rw [Nm.bring_st_ne e, if_neg hkm]) fun b hbm => hoth b (hI.lt m b hbm) fun n hn hnb => hkm ?_
            rw [hn, hI.inj n m b hnb hbm (hk n hn) hnd]
          · exact hv _ _
    old := fun n hn => Nm.bring_pl_ne (by omega)
    st := fun n hn => by
      have e : n ≠ nx := by omega
      rw [Nm.bring_st_ne e, dget n e]
      by_cases hkn : k = some n
      · rw [if_pos hkn]; exact .inr ⟨rfl, hk n hkn, by rw [if_pos hkn]; rfl⟩
      · rw [if_neg hkn]; exact .inl rfl
    new := fun n b c1 c2 hn => by
      have : n = nx := by omega
      subst this
      rcases (hb b (hnx hn)).2 with g | ⟨q, g1, g2⟩
      · exact .inl g
      · exact .inr ⟨q, g2, hk q g1, by rw [dget q (nameless q b g2), if_pos g1]; rfl⟩
    own := fun n hn => by
      by_cases e : n = nx
      · exact .inl (by omega)
      · rw [dget n e] at hn
        by_cases hkn : k = some n
        · exact .inr (hk n hkn)
        · rw [if_neg hkn] at hn; cases hn
    size := hsz
    os := h1
    tape := h2
    output := h3
    frame := fun b hb0 hno => hoth b hb0 fun n hn => by
      intro hnb
      have e := nameless n b hnb
      exact hno n [] (by rw [dget n e, if_pos hn]) hnb
    le := Nat.le_succ _ }

end
theorem cellsRep_length (z : List (AV R)) : ∀ n, (cellsRep n z).length = n * z.length
  | 0 => by simp [cellsRep]
  | n + 1 => by simp [cellsRep, cellsRep_length z n, Nat.succ_mul, Nat.add_comm]

theorem cellsRep_VRs {ρ : Nm} {z : List (AV R)} {vs : List Value} (hz : VRs ρ z vs) (hl : vs.length ≠ 0) : ∀ n, VRs ρ (cellsRep n z) ((List.range (n * vs.length)).map fun i => vs.toArray[i % vs.length]!)
  | 0 => by simp [cellsRep, VRs]
  | n + 1 => by
    have ih := cellsRep_VRs hz hl n
    have e : (List.range ((n + 1) * vs.length)).map (fun i => vs.toArray[i % vs.length]!) = vs ++ (List.range (n * vs.length)).map fun i => vs.toArray[i % vs.length]! := by
      rw [Nat.succ_mul, Nat.add_comm, List.range_add, List.map_append]
      congr 1
      · apply List.ext_getElem
        · simp
        · intro i h1 h2
          simp at h1
          simp [Nat.mod_eq_of_lt h1, h1]
      · rw [List.map_map]
        apply List.map_congr_left
        intro i _
        simp
    rw [e]
    exact VRs.append hz ih

theorem zero_open {ρ : Nm} {P : Program} {t : TypeId} {i : TypeInfo} {z : List (AV R)} (hi : P.info? t = some i) (h : zeroV R P t = some z) : ∃ v, i.zero = some v ∧ VRs ρ z v.cells.toList := by
  unfold zeroV at h
  rw [hi] at h
  simp only at h
  split at h
  · rename_i v hz
    cases ha : absV R v with
    | none => rw [ha] at h; cases h
    | some a =>
      rw [ha] at h; cases h
      exact ⟨v, hz, cells_VRs (absV_VR ha) (absV_notAny ha)⟩
  · cases h

theorem rowA_rep (ks : List CK) (c : List Cell) : ∀ n, rowA ks (List.replicate n c) = cellsRep n (elemA ks c)
  | 0 => by simp [rowA, cellsRep]
  | n + 1 => by
    have := rowA_rep ks c n
    rw [List.replicate_succ, cellsRep, ← this]
    simp [rowA]

theorem rowAt_some {h : Heap R} {n : Nat} {ro : Bool} {ks : List CK} {l : Row} (hg : rowAt h n = some (ro, ks, l)) : hget h n = some [.row ro ks l] := by
  unfold rowAt at hg
  split at hg
  · rename_i e; cases hg; exact e
  · cases hg

section
variable {ρ : Nm} {P : Program} {w : World} {nx : Nat} {h : Heap R} {out : Out R}

theorem empty_sound {t : TypeId} (hr : (emptyV (D := R) P nx t).run = some out) (hH : HR ρ h w) (hI : Inj ρ w) (hF : ρ.pl nx = none) :
    ∃ v w' ρ', (Instr.buildSlice t 0 #[]).run P w = .ok v w' ∧ VR ρ' out.v v ∧ Step ρ ρ' w w' nx out.nx out.d h := by
  unfold emptyV at hr
  split at hr
  · rename_i e hu
    split at hr
    · rename_i j z hj hz
      split at hr
      · split at hr
        · rename_i ks hks
          have := (Option.some.inj hr).symm
          subst this
          let q : Plc := ⟨some w.heap.size, 0, 0, 0⟩
          refine ⟨.slice (some ⟨w.heap.size, 0, none⟩) 0 0, w.alloc (.cells #[] e), ρ.bring none nx q, ?_, ⟨q, _, 0, Nm.bring_pl, rfl, ?_⟩, ?_⟩
          · unfold Instr.buildSlice
            simp [run_underlying hu, run_size hj w, Instr.fill, newRow, Array.range_zero']
          · exact ⟨by show (0 : Int) ≤ 0; omega, by simp, by show 0 ≤ 2 ^ 63 - 1; decide, by simp [q], by simp, by decide, by simp, fun _ => ⟨rfl, rfl, Nat.le_refl _⟩, fun h => (by cases h), fun _ => by simp [q]⟩
          · refine Step.bring hH hI hF (fun n hn => by cases hn) (fun b hb => ?_) (by simp) (fun c hc _ => ?_) rfl rfl rfl ?_
            · cases hb; exact ⟨by simp, .inl (Nat.le_refl _)⟩
            · exact heap_alloc_old w _ hc
            · refine .row Nm.bring_pl (by rw [Nm.bring_st]; simp) (fun _ => ⟨rfl, Nm.bring_st⟩) ⟨rfl, by simp, Nat.le_refl _, .inr ⟨w.heap.size, #[], e, _, rfl, heap_alloc_new w _, by simp [q], ?_⟩⟩ fun _ => Clear.of (b := w.heap.size) rfl (heap_alloc_new w _)
              simp [rowA, VRs]
        · cases hr
      · cases hr
    · cases hr
  · cases hr

theorem make_sound {t : TypeId} {x : AV R} {vx : Value} (hx : VR ρ x vx) (hr : (makeSliceV (D := R) P nx t x).run = some out) (hH : HR ρ h w) (hI : Inj ρ w) (hF : ρ.pl nx = none) :
    ∃ v w' ρ', (Instr.makeSlice t vx vx).run P w = .ok v w' ∧ VR ρ' out.v v ∧ Step ρ ρ' w w' nx out.nx out.d h := by
  unfold makeSliceV at hr
  split at hr
  · rename_i e hu
    split at hr
    · rename_i j z k n hj hz hn
      split at hr
      · rename_i hc
        obtain ⟨c1, c2, c3, c4⟩ := hc
        split at hr
        · rename_i ks hks
          split at hr
          · rename_i cs hcs
            rcases run_choose_some hr with ⟨hb, hr⟩ | ⟨_, hr⟩
            · have hb' : (decide ((0 : Int) ≤ n) && decide ((n : Int) ≤ 1073741824)) = true := hb
              simp only [Bool.and_eq_true, decide_eq_true_eq] at hb'
              obtain ⟨n0, n1⟩ := hb'
              have := (Option.some.inj hr).symm
              subst this
              obtain ⟨rfl, hok⟩ := VR.z_inv hx hn
              obtain ⟨zv, hzz, hzv⟩ := zero_open (ρ := ρ) hj hz
              obtain ⟨f1, f2, _⟩ := toCVs_inv (ρ' := Nm.nil) hcs hzv
              have hzl : zv.cells.toList.length = j.size := by rw [← c4]; exact hzv.length.symm
              have hkl : ks.length = j.size := by
                have := f2.length
                rw [elemA_length f1, hzl] at this
                exact this
              have hby : (j.bytes : Int) * n ≤ 281474976710656 := by
                have h1 : (j.bytes : Int) ≤ 1024 := by omega
                have := Int.mul_le_mul h1 n1 n0 (by omega)
                omega
              let q : Plc := ⟨some w.heap.size, 0, n.toNat, n.toNat⟩
              refine ⟨_, _, ρ.bring none nx q, run_make w t e j zv hu hj hzz k k n n n0 (Int.le_refl _) hby (by omega), ⟨q, _, n.toNat, Nm.bring_pl, rfl, ?_⟩, ?_⟩
              · exact ⟨n0, by simp, by show n.toNat ≤ 2 ^ 63 - 1; omega, by simp [q], Nat.le_refl _, by omega, by simp, fun _ => ⟨rfl, rfl, Nat.le_refl _⟩, fun h => (by cases h), fun _ => by simp [q]⟩
              · refine Step.bring hH hI hF (fun n hn => by cases hn) (fun b hb => ?_) (by simp) (fun c hc _ => ?_) rfl rfl rfl ?_
                · cases hb; exact ⟨by simp, .inl (Nat.le_refl _)⟩
                · exact heap_alloc_old w _ hc
                · refine .row Nm.bring_pl (by rw [Nm.bring_st]; simp) (fun _ => ⟨rfl, Nm.bring_st⟩) ⟨by show (List.replicate n.toNat cs).length = n.toNat; simp, ?_, Nat.le_refl _, .inr ⟨w.heap.size, _, e, _, rfl, heap_alloc_new w _, ?_, ?_⟩⟩ fun _ => Clear.of (b := w.heap.size) rfl (heap_alloc_new w _)
                  · intro e' he'
                    have : e' = cs := (List.mem_replicate.1 he').2
                    rw [this]; exact f1
                  · rw [size_madeCells, hkl]; simp [q]
                  · have hrep := cellsRep_VRs f2 (by rw [hzl]; omega) n.toNat
                    rw [hzl] at hrep
                    show VRs Nm.nil (rowA ks (List.replicate n.toNat cs)) _
                    rw [rowA_rep, List.drop_zero]
                    have e1 : (madeCells zv.cells (n.toNat * j.size)).toList = (List.range (n.toNat * j.size)).map fun i => zv.cells.toList.toArray[i % j.size]! := by
                      have : zv.cells.size = j.size := by simpa using hzl
                      simp [madeCells, this]
                    rw [e1, List.take_of_length_le (by simp [q, hkl])]
                    exact hrep
            · cases hr
          · cases hr
        · cases hr
      · cases hr
    · cases hr
  · cases hr

end
end Go.Ev
/- Parts of rows. -/
namespace Go.Ev

section
variable {ρ : Nm} {P : Program} {w : World} {nx : Nat} {h : Heap R} {out : Out R}

theorem bound_run {vx : Value} {k : IntKind} {n : Int} (y : Nat) (c : BoundsCode) (hv : vx = .int k n) (h0 : 0 ≤ n) (h1 : n ≤ y) : (Instr.sliceBound vx y c).run P w = .ok n.toNat w := by
  subst hv
  unfold Instr.sliceBound
  simp only [Sem.run_bind, asIntOf, Sem.run_pure, Result.andThen_ok, h0, h1, and_self, if_true]

/-- The machine's word for a part of a slice, its bounds known. -/
theorem slice_run {t e : TypeId} {j : TypeInfo} (hu : P.underlying t = some (.slice e)) (hj : P.info? e = some j) {base : Option Addr} {len cap l hh m : Nat} {low high max : Option Value}
    (hb : (Instr.sliceBounds true len cap low high max).run P w = .ok (l, hh, m) w) :
    (Instr.slice t (.slice base len cap) low high max).run P w = .ok (.slice (if m = l then base else base.map (·.add (l * j.size))) (hh - l) (m - l)) w := by
  unfold Instr.slice
  simp only [Sem.run_bind, run_underlying hu, Result.andThen_ok, hb, run_size hj w, Sem.run_pure]

theorem part_SR {p : Plc} {k : SK} {off : Option Int} {len : Int} {sz : Nat} {base : Option Addr} {cap : Nat} (hs : SR p k off len sz base cap) {lo hi : Int} {m : Nat} (h0 : 0 ≤ lo) (h1 : lo ≤ hi) (h2 : hi ≤ len) (h3 : hi ≤ m) (h4 : m ≤ cap) (off' : Option Int) (ho : off'.getD 0 = off.getD 0 + lo) :
    SR p .part off' (hi - lo) sz (if m = lo.toNat then base else base.map (·.add (lo.toNat * sz))) (m - lo.toNat) where
  len0 := by omega
  off0 := by have := hs.off0; omega
  lenb := hs.lenb
  fits := by have := hs.fits; have := hs.off0; have := hs.len0; omega
  cap1 := by omega
  cap2 := by have := hs.cap2; omega
  nil hb := by
    split at hb
    · omega
    · cases base with
      | none => have := hs.nil rfl; omega
      | some a => cases hb
  whole hk := by cases hk
  live hk := by cases hk
  base hk := by
    have hl : 0 < hi - lo := by
      rcases hk with hk | hk
      · cases hk
      · exact hk
    rw [if_neg (by omega), hs.base (.inr (by omega)), ho]
    cases p.b with
    | none => rfl
    | some b =>
      simp only [Option.map_some]
      congr 1
      rw [add_at]
      congr 1
      have := hs.off0
      rw [Int.toNat_add this h0, Nat.add_mul, Nat.add_assoc]

theorem addO_getD {off : Option Int} {lo : Int} (h0 : 0 ≤ off.getD 0) (h1 : 0 ≤ lo) (h2 : off.getD 0 + lo ≤ 9223372036854775807) : ((some (addO (D := R) off lo) : Option Int)).getD 0 = off.getD 0 + lo := by
  cases off with
  | none => simp [addO]
  | some o =>
    show IntKind.i64.wrap (o + lo) = o + lo
    simp at h0 h2
    exact i64_room (by omega) h2

theorem slice_sound {t : TypeId} {x : AV R} {vx : Value} {low high max : Option (AV R)} {lv hv mv : Option Value} (hx : VR ρ x vx) (hl : ∀ a, low = some a → ∃ v, lv = some v ∧ VR ρ a v) (hl0 : low = none → lv = none)
    (hh : ∀ a, high = some a → ∃ v, hv = some v ∧ VR ρ a v) (hh0 : high = none → hv = none) (hm : ∀ a, max = some a → ∃ v, mv = some v ∧ VR ρ a v) (hm0 : max = none → mv = none)
    (hr : (sliceV (D := R) P nx t x low high max).run = some out) : Pure1 P (Instr.slice t vx lv hv mv) w ρ nx out := by
  unfold sliceV at hr
  split at hr
  · rename_i e n k off len sz hu
    split at hr
    · rename_i j hj
      split at hr
      · rename_i hsz
        subst hsz
        obtain ⟨p, base, cap, hp, rfl, hs⟩ := hx
        have c1 := hs.cap1
        have l0 := hs.len0
        have f1 := hs.fits
        have f2 := hs.lenb
        have o0 := hs.off0
        split at hr
        · -- to 'high'
          rename_i v
          obtain rfl := hl0 rfl
          obtain rfl := hm0 rfl
          obtain ⟨vh, rfl, gh⟩ := hh _ rfl
          split at hr
          · rename_i kk hi hz
            obtain ⟨rfl, _⟩ := VR.z_inv gh hz
            rcases run_choose_some hr with ⟨hb, hr⟩ | ⟨_, hr⟩
            · have hb' : (decide ((0 : Int) ≤ hi) && decide (hi ≤ len)) = true := hb
              simp only [Bool.and_eq_true, decide_eq_true_eq] at hb'
              have e := part_SR hs (lo := 0) (hi := hi) (m := cap) (Int.le_refl _) hb'.1 hb'.2 (by omega) (Nat.le_refl _) off (by simp)
              rw [Int.sub_zero] at e
              refine .mk hr (slice_run hu hj (l := 0) (hh := hi.toNat) (m := cap) ?_) ⟨p, _, _, hp, ?_, e⟩ (.refl w)
              · unfold Instr.sliceBounds
                simp only [Sem.run_bind, Sem.run_pure, Result.andThen_ok, if_true, bound_run (P := P) (w := w) cap .sliceAcap rfl hb'.1 (by omega)]
              · simp
            · cases hr
          · cases hr
        · -- from 'low'
          rename_i v
          obtain rfl := hh0 rfl
          obtain rfl := hm0 rfl
          obtain ⟨vl, rfl, gl⟩ := hl _ rfl
          split at hr
          · rename_i kk lo hz
            obtain ⟨rfl, _⟩ := VR.z_inv gl hz
            rcases run_choose_some hr with ⟨hb, hr⟩ | ⟨_, hr⟩
            · have hb' : (decide ((0 : Int) ≤ lo) && decide (lo ≤ len)) = true := hb
              simp only [Bool.and_eq_true, decide_eq_true_eq] at hb'
              have e1 : R.zsub .i64 len lo = len - lo := i64_room (by omega) (by omega)
              refine .mk hr (slice_run hu hj (l := lo.toNat) (hh := len.toNat) (m := cap) ?_) ⟨p, _, _, hp, ?_, (by rw [e1]; exact part_SR hs hb'.1 hb'.2 (Int.le_refl _) (by omega) (Nat.le_refl _) _ (addO_getD o0 hb'.1 (by omega)))⟩ (.refl w)
              · unfold Instr.sliceBounds
                simp only [Sem.run_bind, Sem.run_pure, Result.andThen_ok, Option.isSome_none, Bool.false_eq_true, if_false, bound_run (P := P) (w := w) len.toNat .sliceB rfl hb'.1 (by omega)]
              · rw [e1]
                congr 1
                omega
            · cases hr
          · cases hr
        · -- both
          rename_i a v
          obtain rfl := hm0 rfl
          obtain ⟨vl, rfl, gl⟩ := hl _ rfl
          obtain ⟨vh, rfl, gh⟩ := hh _ rfl
          split at hr
          · rename_i k1 lo k2 hi z1 z2
            obtain ⟨rfl, _⟩ := VR.z_inv gl z1
            obtain ⟨rfl, _⟩ := VR.z_inv gh z2
            rcases run_choose_some hr with ⟨hb, hr⟩ | ⟨_, hr⟩
            · have hb' : (decide ((0 : Int) ≤ lo) && (decide (lo ≤ hi) && decide (hi ≤ len))) = true := hb
              simp only [Bool.and_eq_true, decide_eq_true_eq] at hb'
              obtain ⟨b1, b2, b3⟩ := hb'
              have e1 : R.zsub .i64 hi lo = hi - lo := i64_room (by omega) (by omega)
              refine .mk hr (slice_run hu hj (l := lo.toNat) (hh := hi.toNat) (m := cap) ?_) ⟨p, _, _, hp, ?_, (by rw [e1]; exact part_SR hs b1 b2 b3 (by omega) (Nat.le_refl _) _ (addO_getD o0 b1 (by omega)))⟩ (.refl w)
              · unfold Instr.sliceBounds
                simp only [Sem.run_bind, Sem.run_pure, Result.andThen_ok, if_true, Option.isSome_none, Bool.false_eq_true, if_false, bound_run (P := P) (w := w) cap .sliceAcap (rfl : Value.int k2 hi = _) (by omega) (by omega), bound_run (P := P) (w := w) hi.toNat .sliceB (rfl : Value.int k1 lo = _) b1 (by omega)]
              · rw [e1]
                congr 1
                omega
            · cases hr
          · cases hr
        · -- all three
          rename_i a v m
          obtain ⟨vl, rfl, gl⟩ := hl _ rfl
          obtain ⟨vh, rfl, gh⟩ := hh _ rfl
          obtain ⟨vm, rfl, gm⟩ := hm _ rfl
          split at hr
          · rename_i k1 lo k2 hi k3 mx z1 z2 z3
            obtain ⟨rfl, _⟩ := VR.z_inv gl z1
            obtain ⟨rfl, _⟩ := VR.z_inv gh z2
            obtain ⟨rfl, _⟩ := VR.z_inv gm z3
            rcases run_choose_some hr with ⟨hb, hr⟩ | ⟨_, hr⟩
            · have hb' : ((decide ((0 : Int) ≤ lo) && decide (lo ≤ hi)) && (decide (hi ≤ mx) && decide (mx ≤ len))) = true := hb
              simp only [Bool.and_eq_true, decide_eq_true_eq] at hb'
              obtain ⟨⟨b1, b2⟩, b3, b4⟩ := hb'
              have e1 : R.zsub .i64 hi lo = hi - lo := i64_room (by omega) (by omega)
              refine .mk hr (slice_run hu hj (l := lo.toNat) (hh := hi.toNat) (m := mx.toNat) ?_) ⟨p, _, _, hp, ?_, (by rw [e1]; exact part_SR (m := mx.toNat) hs b1 b2 (by omega) (by omega) (by omega) _ (addO_getD o0 b1 (by omega)))⟩ (.refl w)
              · unfold Instr.sliceBounds
                simp only [Sem.run_bind, Sem.run_pure, Result.andThen_ok, if_true, Option.isSome_some, bound_run (P := P) (w := w) cap .slice3Acap (rfl : Value.int k3 mx = _) (by omega) (by omega),
                  bound_run (P := P) (w := w) mx.toNat .slice3B (rfl : Value.int k2 hi = _) (by omega) (by omega), bound_run (P := P) (w := w) hi.toNat .slice3C (rfl : Value.int k1 lo = _) b1 (by omega)]
              · rw [e1]
                congr 1
                omega
            · cases hr
          · cases hr
        · cases hr
      · cases hr
    · cases hr
  · cases hr

theorem cut_sound {t : TypeId} {x v m : AV R} {vx vv vm : Value} (hx : VR ρ x vx) (gv : VR ρ v vv) (gm : VR ρ m vm) (hr : (cutV (D := R) P h nx t x v m).run = some out) (hH : HR ρ h w) (hI : Inj ρ w) (hF : ρ.pl nx = none) :
    ∃ u w' ρ', (Instr.slice t vx none (some vv) (some vm)).run P w = .ok u w' ∧ VR ρ' out.v u ∧ Step ρ ρ' w w' nx out.nx out.d h := by
  unfold cutV at hr
  split at hr
  · rename_i e n len sz hu
    split at hr
    · rename_i j ks l k1 hi k2 mx hj hg z1 z2
      split at hr
      · rename_i hc
        obtain ⟨hsz, hks⟩ := hc
        subst hsz
        obtain ⟨rfl, _⟩ := VR.z_inv gv z1
        obtain ⟨rfl, _⟩ := VR.z_inv gm z2
        rcases run_choose_some hr with ⟨hb, hr2⟩ | ⟨_, hr2⟩
        · have hb' : (((hi : Int) == mx) && (decide ((0 : Int) ≤ hi) && decide (hi ≤ len))) = true := hb
          simp only [Bool.and_eq_true, decide_eq_true_eq, beq_iff_eq] at hb'
          obtain ⟨rfl, b1, b2⟩ := hb'
          have := (Option.some.inj hr2).symm
          subst this
          obtain ⟨p, base, cap, hp, rfl, hs⟩ := hx
          obtain ⟨p', k1', k2', k3', k4'⟩ := (hH n _ (rowAt_some hg)).openRow
          rw [hp] at k1'; cases k1'
          obtain ⟨o0, own⟩ := k3' rfl
          obtain ⟨_, wl, wr⟩ := hs.whole rfl
          have c1 := hs.cap1
          have l0 := hs.len0
          have hbase := hs.base (.inl rfl)
          have hle := k4'.le
          let q : Plc := ⟨p.b, 0, hi.toNat, hi.toNat⟩
          have hbase' : (if hi.toNat = 0 then base else base.map (·.add (0 * j.size))) = q.b.map fun b => ⟨b, 0, none⟩ := by
            have : base.map (·.add (0 * j.size)) = base := by
              rw [hbase]
              cases p.b with
              | none => rfl
              | some b => simp [add_at]
            rw [this, ite_self, hbase]
            simp [q, o0]
          refine ⟨_, w, ρ.bring (some n) nx q, slice_run hu hj (l := 0) (hh := hi.toNat) (m := hi.toNat) ?_, ⟨q, q.b.map fun b => ⟨b, 0, none⟩, hi.toNat, Nm.bring_pl, ?_, ?_⟩, ?_⟩
          · unfold Instr.sliceBounds
            simp only [Sem.run_bind, Sem.run_pure, Result.andThen_ok, if_true, bound_run (P := P) (w := w) cap .slice3Acap (rfl : Value.int k2 hi = _) b1 (by omega), bound_run (P := P) (w := w) hi.toNat .slice3B (rfl : Value.int k1 hi = _) b1 (by omega)]
          · rw [hbase']; simp
          · refine ⟨b1, by simp, by show hi.toNat ≤ _; have := hs.cap2; omega, by simp [q], Nat.le_refl _, by have := hs.cap2; omega, fun hn => ?_, fun _ => ⟨rfl, rfl, Nat.le_refl _⟩, fun h => (by cases h), fun _ => by simp [q]⟩
            cases hpb : p.b with
            | none => rw [hpb] at hbase; have := hs.nil hbase; omega
            | some b => simp [q, hpb] at hn
          · have hroom : hi.toNat ≤ l.length := by rw [k4'.len]; omega
            have hlt : (R.lsub l (R.zc 0) hi : Row) = l.take hi.toNat := by
              show (l.drop (0 : Int).toNat).take (hi - 0).toNat = _
              simp
            refine Step.bring hH hI hF (fun m hm => by cases hm; exact own) (fun b hb => ?_) (Nat.le_refl _) (fun c _ _ => rfl) rfl rfl rfl ?_
            · have hb' : p.b = some b := hb
              have := Nm.bl_of hp hb'
              exact ⟨hI.lt n b this, .inr ⟨n, rfl, this⟩⟩
            · refine .row Nm.bring_pl (by rw [Nm.bring_st]; simp) (fun _ => ⟨rfl, Nm.bring_st⟩) ⟨?_, ?_, Nat.le_refl _, ?_⟩ fun _ b cs ty fz e1 e2 => ((hH n _ (rowAt_some hg)).clear hp) b cs ty fz e1 e2
              · rw [hlt]; show (l.take hi.toNat).length = hi.toNat; rw [List.length_take]; omega
              · rw [hlt]; exact fun e he => k4'.fit e (List.mem_of_mem_take he)
              · rcases k4'.at' with ⟨g1, g2⟩ | ⟨b, cs, ty, fz, g1, g2, g3, g4⟩
                · exact .inl ⟨g1, by show hi.toNat = 0; omega⟩
                · refine .inr ⟨b, cs, ty, fz, g1, g2, ?_, ?_⟩
                  · have : hi.toNat * ks.length ≤ p.room * ks.length := Nat.mul_le_mul_right _ (by omega)
                    show 0 + hi.toNat * ks.length ≤ _
                    omega
                  · rw [hlt, ← rowA_take _ k4'.fit]
                    have := VRs.take (hi.toNat * ks.length) g4
                    rw [List.take_take, Nat.min_eq_left (Nat.mul_le_mul_right _ (by omega)), o0] at this
                    exact this
        · cases hr2
      · cases hr
    · cases hr
  · cases hr

end
end Go.Ev
/- What is appended. -/
namespace Go.Ev

theorem cellA_isCell {k : CK} {c : Cell} (h : k.fitC c) : (cellA k c).isCell = true := by
  cases k <;> cases c <;> first | rfl | exact (h : False).elim

theorem elemA_isCell : ∀ {ks : List CK} {e : List Cell}, fitE ks e → (elemA ks e).all AV.isCell = true
  | [], [], _ => rfl
  | k :: ks, c :: e, ⟨h1, h2⟩ => by
    have := elemA_isCell h2
    simp only [elemA, List.zipWith_cons_cons, List.all_cons, Bool.and_eq_true] at this ⊢
    exact ⟨cellA_isCell h1, this⟩
  | [], _ :: _, h => (h : False).elim
  | _ :: _, [], h => (h : False).elim

theorem rowA_isCell {ks : List CK} : ∀ {l : Row}, (∀ e ∈ l, fitE ks e) → (rowA ks l).all AV.isCell = true
  | [], _ => rfl
  | e :: l, h => by
    have e1 : rowA ks (e :: l) = elemA ks e ++ rowA ks l := by simp [rowA]
    rw [e1, List.all_append, elemA_isCell (h e List.mem_cons_self), rowA_isCell fun x hx => h x (List.mem_cons_of_mem _ hx)]
    rfl

/-- A slice's value that holds these elements. -/
def News (w : World) (ks : List CK) (es : Row) (vx : Value) : Prop :=
  ∃ ab c news, vx = .slice ab es.length c ∧ (∀ e ∈ es, fitE ks e) ∧ VRs Nm.nil (rowA ks es) news ∧ (0 < es.length → ∃ a, ab = some a ∧ ∀ (j : Nat) u, news[j]? = some u → w.cell? (a.add j) = some u)

/-- What is appended, at the machine. -/
def AppR (w : World) (sz : Nat) (vx : Value) : App R → Prop
  | .none => vx = .slice none 0 0
  | .els ks _ es => ks.length = sz ∧ News w ks es vx
  | .row ks l => ks.length = sz ∧ News w ks l vx

/-- The elements of a part of a row. -/
theorem news_of {w : World} {ks : List CK} {l : Row} {p : Plc} {k : SK} {off : Option Int} {len : Int} {sz : Nat} {base : Option Addr} {cap : Nat} (k4 : RowAt ks l p w) (hs : SR p k off len sz base cap) (hks : ks.length = sz) :
    News w ks ((l.drop (off.getD 0).toNat).take len.toNat) (.slice base len.toNat cap) := by
  have l0 := hs.len0
  have o0 := hs.off0
  have f1 := hs.fits
  have hl := k4.len
  generalize hes : (l.drop (off.getD 0).toNat).take len.toNat = es
  have hes := hes.symm
  have hlen : es.length = len.toNat := by rw [hes, List.length_take, List.length_drop]; omega
  have hfit : ∀ e ∈ es, fitE ks e := fun e he => k4.fit e (List.mem_of_mem_drop (List.mem_of_mem_take (hes ▸ he)))
  by_cases hz : 0 < len
  · have hbase := hs.base (.inr hz)
    rcases k4.at' with ⟨g1, _⟩ | ⟨b, cs, ty, fz, g1, g2, g3, g4⟩
    · rw [g1] at hbase
      have := hs.nil hbase
      have := hs.cap1
      omega
    · rw [g1] at hbase
      have hv := VRs.take (len.toNat * ks.length) (VRs.drop ((off.getD 0).toNat * ks.length) g4)
      have hroom : (off.getD 0).toNat * ks.length + len.toNat * ks.length ≤ p.len * ks.length := by
        rw [← Nat.add_mul]; exact Nat.mul_le_mul_right _ f1
      rw [rowA_drop _ k4.fit, rowA_take _ fun e he => k4.fit e (List.mem_of_mem_drop he), ← hes] at hv
      refine ⟨base, cap, _, by rw [hlen], hfit, hv, fun _ => ⟨_, hbase, fun j u hj => ?_⟩⟩
      rw [add_at, cell_of_row w b _ cs ty fz g2]
      rw [List.getElem?_take] at hj
      split at hj
      · rename_i hj1
        rw [List.getElem?_drop, List.getElem?_take] at hj
        split at hj
        · rw [List.getElem?_drop] at hj
          rw [← Array.getElem?_toList, ← hj, ← hks, Nat.add_assoc]
        · cases hj
      · cases hj
  · have : len.toNat = 0 := by omega
    have hes0 : es = [] := List.eq_nil_of_length_eq_zero (by omega)
    subst hes0
    exact ⟨base, cap, [], by rw [this]; rfl, by simp, trivial, fun hh => by simp at hh⟩

section
variable {ρ : Nm} {P : Program} {w : World} {nx : Nat} {h : Heap R} {out : Out R}

theorem elems_inv {ks : List CK} : ∀ {n : Nat} {as : List (AV R)} {es : Row} {us : List Value}, elems (D := R) ks n as = some es → VRs ρ as us → es.length = n ∧ (∀ e ∈ es, fitE ks e) ∧ VRs Nm.nil (rowA ks es) us
  | 0, [], es, us, h, hu => by
    simp only [elems] at h; cases h
    have := hu.nil_inv; subst this
    exact ⟨rfl, by simp, trivial⟩
  | 0, _ :: _, _, _, h, _ => by simp [elems] at h
  | n + 1, as, es, us, h, hu => by
    simp only [elems] at h
    split at h
    · rename_i c r h1 h2
      cases h
      obtain ⟨f1, f2, _⟩ := toCVs_inv (ρ' := Nm.nil) h1 (VRs.take ks.length hu)
      obtain ⟨g1, g2, g3⟩ := elems_inv h2 (VRs.drop ks.length hu)
      refine ⟨by simp [g1], fun e he => ?_, ?_⟩
      · rcases List.mem_cons.1 he with rfl | he
        · exact f1
        · exact g2 e he
      · have e1 : rowA ks (c :: r) = elemA ks c ++ rowA ks r := by simp [rowA]
        rw [e1, ← List.take_append_drop ks.length us]
        exact VRs.append f2 g3
    · cases h

theorem appOf_sound {sz : Nat} {x : AV R} {vx : Value} {b : App R} (hx : VR ρ x vx) (hH : HR ρ h w) (hb : appOf (D := R) h sz x = some b) :
    AppR w sz vx b := by
  unfold appOf at hb
  split at hb
  · cases hb; exact hx
  · rename_i m off k c
    split at hb
    · rename_i blk hg
      split at hb
      · cases hb
      · rename_i hsh
        split at hb
        · rename_i ks hks
          split at hb
          · rename_i hc
            obtain ⟨c1, c2, c3, c4⟩ := hc
            split at hb
            · rename_i es he
              cases hb
              obtain ⟨b, hb, rfl⟩ := hx
              obtain ⟨b', cs, ty, k1, _, k2, k3⟩ := (hH m blk hg).open (by simpa using hsh)
              rw [hb] at k1; cases k1
              obtain ⟨g1, g2, g3⟩ := elems_inv he (VRs.take (k * sz) (VRs.drop off k3))
              refine ⟨c1, some ⟨b, off, none⟩, c, _, by rw [g1], g2, g3, fun _ => ⟨_, rfl, fun j u hj => ?_⟩⟩
              rw [add_at, cell_of_row w b (off + j) cs ty (0, 0) k2]
              rw [List.getElem?_take] at hj
              split at hj
              · rw [List.getElem?_drop] at hj; simpa using hj
              · cases hj
            · cases hb
          · cases hb
        · cases hb
    · cases hb
  · rename_i m k off len q
    split at hb
    · rename_i ro ks l hg
      split at hb
      · rename_i hc
        obtain ⟨rfl, hks⟩ := hc
        obtain ⟨p, base, cap, hp, rfl, hs⟩ := hx
        obtain ⟨p', k1, _, _, k4⟩ := (hH m _ (rowAt_some hg)).openRow
        rw [hp] at k1; cases k1
        have l0 : (0 : Int) ≤ len := hs.len0
        have o0 := hs.off0
        have f1 := hs.fits
        have hl := k4.len
        have key : ∀ es : Row, es = (l.drop (Int.toNat (Option.getD off 0))).take (Int.toNat len) → News w ks es (.slice base (Int.toNat len) cap) := fun es hes => hes ▸ news_of k4 hs hks
        split at hb
        · cases hb
          obtain ⟨w1, w2, _⟩ := hs.whole rfl
          subst w1
          refine ⟨hks, key l ?_⟩
          show l = (l.drop 0).take len.toNat
          rw [List.drop_zero, List.take_of_length_le (by omega)]
        · cases hb
          refine ⟨hks, key _ ?_⟩
          have hb2 := hs.lenb
          cases off with
          | none =>
            show (l.drop (0 : Int).toNat).take (len - 0).toNat = _
            simp
          | some o =>
            simp only [Option.getD_some] at o0 f1
            have e1 : addO (D := R) (some o) len = o + len := i64_room (by omega) (by omega)
            show (l.drop o.toNat).take (addO (D := R) (some o) len - o).toNat = _
            rw [e1]
            simp only [Option.getD_some]
            congr 1
            omega
      · cases hb
    · cases hb
  · cases hb

theorem append_zero {t e : TypeId} {i : TypeInfo} (ty : TypeId) (ht : P.underlying t = some (.slice e)) (hi : P.info? e = some i) {base ab : Option Addr} {n cap c : Nat} (hc : n ≤ cap) :
    (Builtin.append_ #[t, t] ty #[.slice base n cap, .slice ab 0 c]).run P w = .ok (.slice base n cap) w := by
  have hf : (Builtin.firstCells i.size 0 (.slice ab 0 c)).run P w = .ok #[] w := by
    cases ab with
    | none => exact run_firstCells_none w i.size 0 0 c
    | some a => exact run_firstCells_some w i.size 0 a 0 c [] (by simp) (by simp)
  cases base with
  | none => simp [Builtin.append_, run_underlying ht, sizeOf, typeInfo, hi, Builtin.lenOf, hc, hf]
  | some b => simp [Builtin.append_, run_underlying ht, sizeOf, typeInfo, hi, Builtin.lenOf, hc, hf, storeCells]


/-- What is appended to, at the machine: nil, or a row of one's own. -/
inductive Olds (ρ : Nm) (w : World) (ks : List CK) (l : Row) (k : Option Nat) (v : Value) : Prop where
  | nil (hv : v = .slice none 0 0) (hl : l = []) (hk : ∀ n, k = some n → ρ.st n = .own)
  | row {n b cap : Nat} {p : Plc} (hk : k = some n) (hp : ρ.pl n = some p) (hb : p.b = some b) (ho : ρ.st n = .own) (h0 : p.off = 0) (ha : RowAt ks l p w) (hv : v = .slice (some ⟨b, 0, none⟩) p.len cap) (hc : p.len ≤ cap) (hr : cap ≤ p.room) (hm : cap ≤ 2 ^ 63 - 1) (hclr : Clear p w)

theorem append_core {t e : TypeId} {i : TypeInfo} {z : Value} {ks : List CK} {l es : Row} {k : Option Nat} {v vx : Value} (ty : TypeId) (ht : P.underlying t = some (.slice e)) (hi : P.info? e = some i) (hz : i.zero = some z) (hks : ks.length = i.size) (hzl : z.cells.size = i.size)
    (hby : i.bytes ≤ 1024) (ho : Olds ρ w ks l k v) (hn : News w ks es vx) (hlen : l.length + es.length ≤ 1073741824) (hH : HR ρ h w) (hI : Inj ρ w) (hF : ρ.pl nx = none) :
    ∃ u w' ρ', (Builtin.append_ #[t, t] ty #[v, vx]).run P w = .ok u w' ∧ VR ρ' (.sslice nx .whole none (((l ++ es).length : Nat) : Int) i.size) u ∧ Step ρ ρ' w w' nx (nx + 1) ((nx, [.row false ks (l ++ es)]) :: deadOf k) h := by
  obtain ⟨ab, m, news, rfl, nf, nv, na⟩ := hn
  have nl : news.length = es.length * i.size := by rw [← nv.length, rowA_length nf, hks]
  have n1 : ∀ u ∈ news, u.oneCell' = true := oneCells_of nv (rowA_isCell nf)
  have by1 : (l.length + es.length) * i.bytes ≤ 140737488355328 := by
    have := Nat.mul_le_mul hlen hby; omega
  have tn : (((l ++ es).length : Nat) : Int).toNat = (l ++ es).length := Int.toNat_natCast _
  have ll : (l ++ es).length = l.length + es.length := List.length_append
  -- a place for what comes out
  have SR0 : ∀ (q : Plc) (cap : Nat), q.off = 0 → q.len = (l ++ es).length → q.len ≤ cap → cap ≤ q.room → cap ≤ 2 ^ 63 - 1 → (q.b = none → cap = 0) → SR q .whole none (((l ++ es).length : Nat) : Int) i.size (q.b.map fun b => ⟨b, 0, none⟩) cap := by
    intro q cap c0 c1 c2 c3 c4 c5
    refine ⟨Int.natCast_nonneg _, Int.le_refl _, by omega, by rw [tn, c1]; exact Nat.le_of_eq (Nat.zero_add _), by rw [tn, ← c1]; exact c2, c4, fun hb => ?_, fun _ => ⟨rfl, by rw [tn, c1], c3⟩, fun h => (by cases h), fun _ => by simp [c0]⟩
    cases hq : q.b with
    | none => exact c5 hq
    | some b => rw [hq] at hb; cases hb
  -- a grown row
  have grown : ∀ (olds : List Value) (old cap : Nat), cap = grownCap w (l.length + es.length) old e → VRs Nm.nil (rowA ks l) olds → (∀ x ∈ l, fitE ks x) → (∀ n, k = some n → ρ.st n = .own) →
      ∃ ρ', VR ρ' (.sslice nx .whole none (((l ++ es).length : Nat) : Int) i.size) (.slice (some ⟨w.heap.size, 0, none⟩) (l.length + es.length) cap) ∧
        Step ρ ρ' w (w.drew.alloc (.cells (olds.toArray ++ news.toArray ++ Builtin.zeroCells z.cells (cap - (l.length + es.length))) e)) nx (nx + 1) ((nx, [.row false ks (l ++ es)]) :: deadOf k) h := by
    intro olds old cap hcap ov of okk
    have hge : l.length + es.length ≤ cap := by rw [hcap]; exact grownCap_ge ..
    have hle : cap ≤ 2 ^ 63 - 1 := by rw [hcap]; exact grownCap_le_maxLen w _ old e (by simp only [maxLen]; omega)
    let q : Plc := ⟨some w.heap.size, 0, (l ++ es).length, cap⟩
    have ol : olds.length = l.length * i.size := by rw [← ov.length, rowA_length of, hks]
    refine ⟨ρ.bring k nx q, ⟨q, _, cap, Nm.bring_pl, ?_, SR0 q cap rfl rfl (by simpa [q] using hge) (Nat.le_refl _) hle (fun hq => by cases hq)⟩, ?_⟩
    · rw [tn, ll]; rfl
    · refine Step.bring hH hI hF okk (fun b hb => ?_) (by simp) (fun c hc _ => ?_) rfl rfl rfl ?_
      · cases hb; exact ⟨by simp, .inl (Nat.le_refl _)⟩
      · exact heap_alloc_old w.drew _ hc
      · refine .row Nm.bring_pl (by rw [Nm.bring_st]; simp) (fun _ => ⟨rfl, Nm.bring_st⟩) ⟨rfl, fun x hx => ?_, by simpa [q] using hge, .inr ⟨w.heap.size, _, e, _, rfl, heap_alloc_new w.drew _, ?_, ?_⟩⟩ fun _ => Clear.of (b := w.heap.size) rfl (heap_alloc_new w.drew _)
        · rcases List.mem_append.1 hx with hx | hx
          · exact of x hx
          · exact nf x hx
        · show 0 + cap * ks.length ≤ _
          simp only [Array.size_append, List.size_toArray, size_zeroCells, hzl, ol, nl, hks, ← Nat.add_mul]
          rw [Nat.zero_add]
          exact Nat.mul_le_mul_right _ (by omega)
        · rw [rowA_append, List.drop_zero]
          simp only [Array.toList_append, List.append_assoc]
          rw [← List.append_assoc, List.take_left' (by simp [q, ol, nl, hks, Nat.add_mul])]
          exact VRs.append ov nv
  by_cases hm : es.length = 0
  · -- nothing comes
    have he : es = [] := List.eq_nil_of_length_eq_zero hm
    subst he
    simp only [List.append_nil, List.length_nil] at *
    cases ho with
    | nil hv hl hk =>
      subst hv; subst hl
      let q : Plc := ⟨none, 0, 0, 0⟩
      refine ⟨_, w, ρ.bring k nx q, append_zero ty ht hi (Nat.le_refl _), ⟨q, _, 0, Nm.bring_pl, ?_, SR0 q 0 rfl rfl (Nat.le_refl _) (Nat.le_refl _) (by omega) (fun _ => rfl)⟩, ?_⟩
      · simp [q]
      · refine Step.bring hH hI hF hk (fun b hb => by cases hb) (Nat.le_refl _) (fun c _ _ => rfl) rfl rfl rfl ?_
        exact .row Nm.bring_pl (by rw [Nm.bring_st]; simp) (fun _ => ⟨rfl, Nm.bring_st⟩) ⟨rfl, by simp, Nat.le_refl _, .inl ⟨rfl, rfl⟩⟩ fun _ => Clear.none rfl
    | @row n b cap p hk hp hb ho h0 ha hv hc hr hm2 hclr =>
      subst hv
      have hl := ha.len
      refine ⟨_, w, ρ.bring k nx p, append_zero ty ht hi hc, ⟨p, _, cap, Nm.bring_pl, ?_, SR0 p cap h0 hl.symm hc hr hm2 (fun hq => by rw [hb] at hq; cases hq)⟩, ?_⟩
      · rw [hb, hl]; simp
      · refine Step.bring hH hI hF (fun m hm => by rw [hk] at hm; cases hm; exact ho) (fun b' hb' => ?_) (Nat.le_refl _) (fun c _ _ => rfl) rfl rfl rfl ?_
        · have := Nm.bl_of hp hb'
          exact ⟨hI.lt n b' this, .inr ⟨n, hk, this⟩⟩
        · exact .row Nm.bring_pl (by rw [Nm.bring_st]; simp) (fun _ => ⟨h0, Nm.bring_st⟩) ha fun _ => hclr
  · obtain ⟨a, rfl, ha⟩ := na (by omega)
    cases ho with
    | nil hv hl hk =>
      subst hv; subst hl
      simp only [List.length_nil, Nat.zero_add] at *
      obtain ⟨ρ', g1, g2⟩ := grown [] 0 _ rfl trivial (by simp) hk
      refine ⟨_, _, ρ', run_append_nil w t ty e i z ht hi hz a es.length m news nl ha (by omega) (by omega) (by omega), g1, ?_⟩
      simpa using g2
    | @row n b cap p hk hp hb ho h0 har hv hc hr hm2 hclr =>
      subst hv
      have hl := har.len
      rcases har.at' with ⟨g, _⟩ | ⟨b', cs, ty', fz, g1, g2, g3, g4⟩
      · rw [hb] at g; cases g
      rw [hb] at g1; cases g1
      have hfz := hclr b cs ty' fz hb g2
      subst hfz
      rw [h0, Nat.zero_add] at g3
      rw [h0, List.drop_zero] at g4
      have hsz : p.len * ks.length ≤ p.room * ks.length := Nat.mul_le_mul_right _ har.le
      by_cases hroom : p.len + es.length ≤ cap
      · -- in place
        have hsz2 : (p.len + es.length) * ks.length ≤ p.room * ks.length := Nat.mul_le_mul_right _ (by omega)
        have hf := run_firstCells_some (P := P) w i.size es.length a es.length m news nl ha
        have hst := run_storeCells_at P b (p.len * i.size) ty' news 0 cs w g2 (by rw [nl, Nat.add_zero, ← Nat.add_mul, ← hks]; omega) n1
        simp only [Nat.add_zero] at hst
        have hrun : (Builtin.append_ #[t, t] ty #[.slice (some ⟨b, 0, none⟩) p.len cap, .slice (some a) es.length m]).run P w =
            .ok (.slice (some ⟨b, 0, none⟩) (p.len + es.length) cap) (w.setRow b (cs.toList.take (p.len * i.size) ++ news ++ cs.toList.drop (p.len * i.size + news.length)).toArray) := by
          simp [Builtin.append_, run_underlying ht, sizeOf, typeInfo, hi, Builtin.lenOf, hroom, hf, Addr.add_lit, hst]
        let q : Plc := ⟨some b, 0, (l ++ es).length, p.room⟩
        have hql : q.len = p.len + es.length := by simp [q, hl]
        refine ⟨_, _, ρ.bring k nx q, hrun, ⟨q, _, cap, Nm.bring_pl, ?_, SR0 q cap rfl rfl (by omega) hr hm2 (fun hq => by cases hq)⟩, ?_⟩
        · rw [tn, ll, hl]; rfl
        · refine Step.bring hH hI hF (fun m hm => by rw [hk] at hm; cases hm; exact ho) (fun b' hb' => ?_) (by rw [setRow_size]; exact Nat.le_refl _) (fun c hcl hcn => setRow_other w b c _ fun e => hcn n hk (e ▸ Nm.bl_of hp hb)) rfl rfl rfl ?_
          · cases hb'
            have := Nm.bl_of hp hb
            exact ⟨by rw [setRow_size]; exact hI.lt n b this, .inr ⟨n, hk, this⟩⟩
          · refine .row Nm.bring_pl (by rw [Nm.bring_st]; simp) (fun _ => ⟨rfl, Nm.bring_st⟩) ⟨rfl, fun x hx => ?_, by show q.len ≤ p.room; omega, .inr ⟨b, _, ty', _, rfl, setRow_heap w b cs _ ty' (0, 0) g2, ?_, ?_⟩⟩ fun _ => Clear.of (b := b) rfl (setRow_heap w b cs _ ty' (0, 0) g2)
            · rcases List.mem_append.1 hx with hx | hx
              · exact har.fit x hx
              · exact nf x hx
            · show 0 + p.room * ks.length ≤ _
              have hcl : cs.toList.length = cs.size := Array.length_toList
              have hA : p.len * ks.length + es.length * ks.length ≤ cs.size := by rw [← Nat.add_mul]; omega
              simp only [List.size_toArray, List.length_append, List.length_take, List.length_drop, hcl, nl, ← hks]
              rw [Nat.min_eq_left (by omega)]
              omega
            · rw [rowA_append, List.drop_zero, hql]
              show VRs Nm.nil _ (((cs.toList.take (p.len * i.size) ++ news ++ cs.toList.drop (p.len * i.size + news.length))).take ((p.len + es.length) * ks.length))
              rw [List.take_left' (by
                have hcl : cs.toList.length = cs.size := Array.length_toList
                rw [List.length_append, List.length_take, hcl, nl, ← hks, Nat.add_mul, Nat.min_eq_left (by omega)])]
              rw [← hks]
              exact VRs.append g4 nv
      · -- grown
        have ol : (cs.toList.take (p.len * i.size)).length = p.len * i.size := by
          have hcl : cs.toList.length = cs.size := Array.length_toList
          rw [List.length_take, hcl, ← hks]; omega
        have hr := run_append_grow (P := P) w t ty e i z ht hi hz ⟨b, 0, none⟩ p.len cap (cs.toList.take (p.len * i.size)) ol (fun j u hj => by
          rw [add_at, cell_of_row w b _ cs ty' (0, 0) g2, Nat.zero_add]
          rw [List.getElem?_take] at hj
          split at hj
          · simpa using hj
          · cases hj) a es.length m news nl ha (by omega) (by omega) (growslice_fits (by omega) (by rw [← hl]; exact by1))
        rw [← hl] at hr ⊢
        rw [← hks, hl] at hr
        obtain ⟨ρ', k1, k2⟩ := grown (cs.toList.take (p.len * ks.length)) cap _ rfl g4 har.fit (fun m hm => by rw [hk] at hm; cases hm; exact ho)
        rw [hl] at k1 k2 ⊢
        exact ⟨_, _, ρ', hr, k1, k2⟩


def OldsO (ρ : Nm) (w : World) (sz : Nat) (k : Option Nat) (v : Value) : Option (List CK × Row) → Prop
  | none => ∀ ks, Olds ρ w ks [] k v
  | some (ks, l) => ks.length = sz ∧ Olds ρ w ks l k v

theorem appTo_sound {sz : Nat} {s : AV R} {v : Value} {a : Option (List CK × Row)} {dead : Heap R} (hs : VR ρ s v) (hH : HR ρ h w) (ha : appTo (D := R) h sz s = some (a, dead)) :
    ∃ k, dead = deadOf k ∧ OldsO ρ w sz k v a := by
  unfold appTo at ha
  split at ha
  · cases ha
    exact ⟨none, rfl, fun ks => .nil hs rfl fun n hn => by cases hn⟩
  · rename_i n len q
    split at ha
    · rename_i ks l hg
      split at ha
      · rename_i hc
        cases ha
        obtain ⟨rfl, hks⟩ := hc
        obtain ⟨p, base, cap, hp, rfl, hs⟩ := hs
        obtain ⟨p', k1, _, k3, k4⟩ := (hH n _ (rowAt_some hg)).openRow
        rw [hp] at k1; cases k1
        obtain ⟨o0, own⟩ := k3 rfl
        obtain ⟨_, w2, w3⟩ := hs.whole rfl
        have hbase := hs.base (.inl rfl)
        have hle := k4.le
        have hll := k4.len
        refine ⟨some n, rfl, hks, ?_⟩
        rcases k4.at' with ⟨g1, g2⟩ | ⟨b, cs, ty, fz, g1, g2, g3, g4⟩
        · rw [g1] at hbase
          subst hbase
          have hcap := hs.nil rfl
          have hl0 : l = [] := List.eq_nil_of_length_eq_zero (by omega)
          refine .nil ?_ hl0 fun m hm => by cases hm; exact own
          rw [hcap, w2]
          congr 1
          omega
        · rw [g1] at hbase
          refine .row rfl hp g1 own o0 k4 ?_ (by rw [← w2]; exact hs.cap1) w3 hs.cap2 ((hH n _ (rowAt_some hg)).clear hp)
          rw [hbase, w2]
          simp [o0]
      · cases ha
    · cases ha
  · cases ha

theorem append_sound (argTypes : Array TypeId) (ty : TypeId) {vs : List (AV R)} {vals : Array Value} (hv : VRs ρ vs vals.toList) (hr : (appendV (D := R) P h nx argTypes.toList vs).run = some out) (hH : HR ρ h w) (hI : Inj ρ w) (hF : ρ.pl nx = none) :
    ∃ u w' ρ', (Builtin.append_ argTypes ty vals).run P w = .ok u w' ∧ VR ρ' out.v u ∧ Step ρ ρ' w w' nx out.nx out.d h := by
  unfold appendV at hr
  split at hr
  · rename_i t t2 s x hts
    split at hr
    · rename_i htt
      subst htt
      have hat : argTypes = #[t, t] := by rw [← Array.toArray_toList (xs := argTypes), hts]
      obtain ⟨v, ws, e1, h1, h2⟩ := hv.cons_inv
      obtain ⟨vx, ws2, rfl, h3, h4⟩ := h2.cons_inv
      have := h4.nil_inv; subst this
      have hvals : vals = #[v, vx] := by rw [← Array.toArray_toList (xs := vals), e1]
      subst hat hvals
      split at hr
      · rename_i e hu
        split at hr
        · rename_i j z hj hz
          split at hr
          · rename_i hc
            obtain ⟨c1, c2, c3, c4⟩ := hc
            split at hr
            · rename_i a dead b ha hb
              split at hr
              · rename_i ks l hjn
                rcases run_choose_some hr with ⟨hlen, hr2⟩ | ⟨_, hr2⟩
                · have hlen' : decide (((l.length : Nat) : Int) ≤ 1073741824) = true := hlen
                  have hlen'' := of_decide_eq_true hlen'
                  have := (Option.some.inj hr2).symm
                  subst this
                  obtain ⟨zv, hzz, hzv⟩ := zero_open (ρ := ρ) hj hz
                  have hzl : zv.cells.size = j.size := by rw [← c4]; simpa using hzv.length.symm
                  obtain ⟨k, hdead, ho⟩ := appTo_sound h1 hH ha
                  subst hdead
                  have hx := appOf_sound h3 hH hb
                  -- all together
                  have key : ∀ (l0 es : Row), ks.length = j.size → Olds ρ w ks l0 k v → News w ks es vx → l = l0 ++ es →
                      ∃ u w' ρ', (Builtin.append_ #[t, t] ty #[v, vx]).run P w = .ok u w' ∧ VR ρ' (.sslice nx .whole none (((l : Row).length : Nat) : Int) j.size) u ∧ Step ρ ρ' w w' nx (nx + 1) ((nx, [.row false ks l]) :: deadOf k) h := by
                    intro l0 es q1 q2 q3 q4
                    subst q4
                    exact append_core ty hu hj hzz q1 hzl c3 q2 q3 (by rw [List.length_append] at hlen''; omega) hH hI hF
                  cases b with
                  | none =>
                    cases a with
                    | none => simp [appJoin] at hjn
                    | some q =>
                      obtain ⟨ks', l'⟩ := q
                      simp only [appJoin] at hjn
                      cases hjn
                      have hx' : vx = .slice none 0 0 := hx
                      subst hx'
                      exact key l [] ho.1 ho.2 ⟨none, 0, [], rfl, by simp, trivial, fun hh => by simp at hh⟩ (List.append_nil _).symm
                  | els js k' es =>
                    have hx' : js.length = j.size ∧ News w js es vx := hx
                    cases a with
                    | none =>
                      simp only [appJoin] at hjn
                      cases hjn
                      exact key [] es hx'.1 (ho ks) hx'.2 rfl
                    | some q =>
                      obtain ⟨ks', l'⟩ := q
                      simp only [appJoin] at hjn
                      split at hjn
                      · rename_i hkk
                        subst hkk
                        cases hjn
                        exact key l' es ho.1 ho.2 hx'.2 rfl
                      · cases hjn
                  | row js m =>
                    have hx' : js.length = j.size ∧ News w js m vx := hx
                    cases a with
                    | none =>
                      simp only [appJoin] at hjn
                      cases hjn
                      exact key [] l hx'.1 (ho ks) hx'.2 rfl
                    | some q =>
                      obtain ⟨ks', l'⟩ := q
                      simp only [appJoin] at hjn
                      split at hjn
                      · rename_i hkk
                        subst hkk
                        cases hjn
                        exact key l' m ho.1 ho.2 hx'.2 rfl
                      · cases hjn
                · cases hr2
              · cases hr
            · cases hr
          · cases hr
        · cases hr
      · cases hr
    · cases hr
  · cases hr

end
end Go.Ev
/- Great arrays in memory: a block that is one row. -/
namespace Go.Ev

section
variable {ρ : Nm} {P : Program} {w : World} {nx : Nat} {h : Heap R}

/-- The place of a new array. -/
def arrP (b len : Nat) : Plc := ⟨some b, 0, len, len⟩

theorem Step.newArr (hH : HR ρ h w) (hI : Inj ρ w) (hF : ρ.pl nx = none) {k : CK} {l : Row} {cs : Array Value} {ty : TypeId} (hr : rowR k l cs.toList) :
    Step ρ (ρ.put nx (arrP w.heap.size l.length) .own) w { w with heap := w.heap.push (.cells cs ty (0, 0)) } nx (nx + 1) [(nx, [.row false [k] l])] h := by
  obtain ⟨h1, h2⟩ := rowR_rowA (ρ := Nm.nil) hr
  have hlen := rowR_len hr
  have hget : ({ w with heap := w.heap.push (.cells cs ty (0, 0)) } : World).heap[w.heap.size]? = some (.cells cs ty (0, 0)) := by simp
  refine Step.alloc' hH hI hF (p := arrP w.heap.size l.length) rfl rfl rfl rfl rfl ?_
  refine .row (Nm.put_pl ..) (by rw [Nm.put_st]; simp) (fun _ => ⟨rfl, Nm.put_st ..⟩) ⟨rfl, h1, Nat.le_refl _, .inr ⟨w.heap.size, cs, ty, _, rfl, hget, ?_, ?_⟩⟩ fun _ => Clear.of (b := w.heap.size) rfl hget
  · simp only [arrP, List.length_cons, List.length_nil]
    have : cs.toList.length = cs.size := Array.length_toList
    omega
  · have : ((cs.toList.drop 0).take (l.length * 1)) = cs.toList := by rw [List.drop_zero, Nat.mul_one, List.take_of_length_le (by omega)]
    show VRs Nm.nil (rowA [k] l) ((cs.toList.drop 0).take (l.length * 1))
    rw [this]; exact h2

/-- A whole array, looked at. -/
theorem loadArr_sound {t : TypeId} {len : Nat} {k : IntKind} (hb : bigT P t = some (len, k)) {l : Row} {p : Plc} {b : Nat} (hr : RowAt [.z k] l p w) (hp : p.b = some b) (ho : p.off = 0) (hl : p.len = len) :
    ∃ v, (loadVar t ⟨b, 0, none⟩).run P w = .ok v w ∧ VR ρ (.arr len (.z k) l) v := by
  obtain ⟨e, j, i, q1, q2, q3, q4, q5, q6, q7⟩ := bigT_spec hb
  have hlen := hr.len
  rcases hr.at' with ⟨g, _⟩ | ⟨b', cs, ty, fz, g1, g2, g3, g4⟩
  · rw [hp] at g; cases g
  rw [hp] at g1; cases g1
  rw [ho, List.drop_zero, List.length_singleton, Nat.mul_one] at g4
  have hle := hr.le
  rw [ho, List.length_singleton, Nat.mul_one, Nat.zero_add] at g3
  have hcs : cs.toList.length = cs.size := Array.length_toList
  have anys : ∀ (vs : List Value) (n : Nat), vs.length = n → VRs Nm.nil (List.replicate n (AV.any : AV R)) vs := by
    intro vs
    induction vs with
    | nil => intro n hn; cases hn; trivial
    | cons v vs ih => intro n hn; cases hn; exact ⟨trivial, ih _ rfl⟩
  have ral : (rowA [.z k] l).length = len := by rw [g4.length, List.length_take]; omega
  have hblk : VRs Nm.nil (rowA [.z k] l ++ List.replicate (cs.size - p.len) AV.any) cs.toList := by
    rw [← List.take_append_drop p.len cs.toList]
    refine VRs.append g4 (anys _ _ ?_)
    rw [List.length_drop]; omega
  obtain ⟨v, h1, h2⟩ := load_sound (P := P) (t := t) (off := 0) (a := .agg (rowA [.z k] l)) g2 hblk (by
    unfold loadV
    rw [q1]
    simp only [q5, q6, Nat.zero_add, List.drop_zero]
    rw [if_pos (by rw [List.length_append, ral]; omega), List.take_left' ral])
  refine ⟨v, h1, by omega, ?_⟩
  obtain ⟨xs, rfl, hx⟩ := h2
  exact ⟨xs, rfl, rowA_rowR hr.fit hx⟩

/-- A whole array, laid anew. -/
theorem storeArr_sound {t : TypeId} {n len : Nat} {k : IntKind} (hb : bigT P t = some (len, k)) {l l' : Row} {p : Plc} {b : Nat} {v : Value} (hH : HR ρ h w) (hI : Inj ρ w) (hg : hget h n = some [.row false [.z k] l])
    (hn : ρ.pl n = some p) (hp : p.b = some b) (ho : p.off = 0) (hl : p.len = len) (hx : VR ρ (.arr len (.z k) l') v) :
    ∃ w', (storeVar t ⟨b, 0, none⟩ v).run P w = .ok () w' ∧ Step ρ ρ w w' nx nx [(n, [.row false [.z k] l'])] h := by
  obtain ⟨e, j, i, q1, q2, q3, q4, q5, q6, q7⟩ := bigT_spec hb
  obtain ⟨p', k1, k2, k3, k4⟩ := (hH n _ hg).openRow
  rw [hn] at k1; cases k1
  obtain ⟨_, k6⟩ := k3 rfl
  have hclr := (hH n _ hg).clear hn
  rcases k4.at' with ⟨g, _⟩ | ⟨b', cs, ty, fz, g1, g2, g3, g4⟩
  · rw [hp] at g; cases g
  rw [hp] at g1; cases g1
  have hfz := hclr b cs ty fz hp g2
  subst hfz
  obtain ⟨hlen, xs, rfl, hr⟩ := hx
  obtain ⟨f1, f2⟩ := rowR_rowA (ρ := Nm.nil) hr
  have hxl := rowR_len hr
  have hxs : xs.toList.length = xs.size := Array.length_toList
  have hle := k4.le
  rw [ho, List.length_singleton, Nat.mul_one, Nat.zero_add] at g3
  have one : ∀ v ∈ xs.toList, v.oneCell' = true := oneCells_of f2 (rowA_isCell f1)
  have hst := run_storeCells_at P b 0 ty xs.toList 0 cs w g2 (by omega) one
  refine ⟨w.setRow b (cs.toList.take (0 + 0) ++ xs.toList ++ cs.toList.drop (0 + 0 + xs.toList.length)).toArray, ?_, ?_⟩
  · unfold storeVar
    have hsz : (Value.agg xs).cells.size = i.size := by show xs.size = _; omega
    simp only [Sem.run_bind, run_size q5 w, Result.andThen_ok, hsz, ne_eq, not_true_eq_false, if_false]
    exact hst
  · refine .set' hH hI (Nm.bl_of hn hp) k6 ?_ (setRow_size ..) (fun c hc => setRow_other w b c _ hc) rfl rfl rfl
    refine .row hn k2 k3 { len := by omega, fit := f1, le := k4.le, at' := .inr ⟨b, _, ty, _, hp, setRow_heap w b cs _ ty (0, 0) g2, ?_, ?_⟩ } fun _ => Clear.of hp (setRow_heap w b cs _ ty (0, 0) g2)
    · simp only [List.size_toArray, List.length_append, List.length_take, List.length_drop, List.length_singleton, Nat.mul_one, ho]
      have : cs.toList.length = cs.size := Array.length_toList
      omega
    · simp only [Nat.add_zero, List.take_zero, List.nil_append, ho, List.drop_zero, List.length_singleton, Nat.mul_one]
      rw [List.take_left' (by omega)]
      exact f2

/-- A whole array out of a block of cells. -/
theorem loadCells_sound {t : TypeId} {len : Nat} {k : IntKind} (hb : bigT P t = some (len, k)) {b off : Nat} {cs : Array Value} {ty : TypeId} {fz : Nat × Nat} {blk : List (AV R)} {a : AV R} (hw : w.heap[b]? = some (.cells cs ty fz)) (hv : VRs ρ blk cs.toList)
    (ha : loadArr (D := R) len k blk off = some a) : ∃ v, (loadVar t ⟨b, off, none⟩).run P w = .ok v w ∧ VR ρ a v := by
  obtain ⟨e, j, i, q1, q2, q3, q4, q5, q6, q7⟩ := bigT_spec hb
  unfold loadArr at ha
  split at ha
  · rename_i hle
    split at ha
    · rename_i es hes
      cases ha
      obtain ⟨v, h1, h2⟩ := load_sound (P := P) (t := t) (off := off) (a := .agg ((blk.drop off).take len)) hw hv (by
        unfold loadV
        rw [q1]
        simp only [q5, q6]
        rw [if_pos (by omega)])
      obtain ⟨xs, rfl, hx⟩ := h2
      obtain ⟨r1, r2⟩ := toEls_rowR hes hx
      have hel : es.length = len := by rw [r2, List.length_take, List.length_drop]; omega
      exact ⟨_, h1, by show ([] ++ es).length = len; rw [List.nil_append]; exact hel, xs, rfl, by show rowR (.z k) ([] ++ es) xs.toList; rw [List.nil_append]; exact r1⟩
    · cases ha
  · cases ha

end
end Go.Ev
/- Every operation, at the machine's own word for it. -/
namespace Go.Ev

/-- A call of function f, at the word that a region has for it. -/
def CF (P : Program) (f : FuncId) (args : Array Value) (w : World) (K : Value → World → Prop) : Prop :=
  match (callFunc f args).run P w with
  | .ok (.value v) w' => K v w'
  | .ok (.enter g as) w' => Calls P g as w' fun e w'' => ∃ v, e = .returned v ∧ K v w''
  | _ => False

def CallOK (P : Program) (call : CallFn R) : Prop :=
  ∀ f args h nx out, (call f args h nx).run = some out → ∀ (ρ : Nm) (w : World) (vals : Array Value), VRs ρ args vals.toList → HR ρ h w → Inj ρ w → Fresh ρ nx out.nx →
    CF P f vals w fun v w' => ∃ ρ', VR ρ' out.v v ∧ Step ρ ρ' w w' nx out.nx out.d h

section
variable {ρ : Nm} {P : Program} {o : Oper} {a : Act} {w : World} {nx : Nat} {h : Heap R} {out : Out R} {K : Act → World → Prop} {Q : Exit → Act → World → Prop}

theorem wp_value {v : Value} {w' : World} (hr : (execOp a.eval o).run P w = .ok (.value v) w') (hK : K (a.put o.dst v) w') : o.wp P a w K Q := by
  unfold Oper.wp; rw [hr]; exact hK

theorem wp_pure1 {s : Sem Value} (he : execOp a.eval o = (do pure (.value (← s)))) (hp : Pure1 P s w ρ nx out) (hH : HR ρ h w) (hI : Inj ρ w)
    (hK : ∀ ρ' v w', VR ρ' out.v v → Step ρ ρ' w w' nx out.nx out.d h → K (a.put o.dst v) w') : o.wp P a w K Q := by
  obtain ⟨h1, h2, v, w', h3, h4, h5⟩ := hp
  refine wp_value (v := v) (w' := w') ?_ (hK ρ v w' h4 ?_)
  · rw [he, Sem.run_bind, h3]; rfl
  · rw [h1, h2]; exact h5.step hH hI

theorem one_inv {a : AV R} {v : Value} (h : VRs ρ [a] [v]) : VR ρ a v := h.1
end

theorem zipParts_fst : ∀ (ps : List (Nat × Operand)) (vs : List (AV R)), ps.length = vs.length → (zipParts ps vs).map (·.1) = ps.map (·.1) ∧ (zipParts ps vs).map (·.2) = vs
  | [], [], _ => ⟨rfl, rfl⟩
  | [], _ :: _, h => by simp at h
  | _ :: _, [], h => by simp at h
  | (i, x) :: r, v :: s, h => by
    have := zipParts_fst r s (by simpa using h)
    simp [zipParts, this.1, this.2]

theorem buildSlice_sound {ρ : Nm} {P : Program} {w : World} {t : TypeId} {len nx : Nat} {parts : List (Nat × AV R)} {rparts : Array (Nat × Value)} {c : List (AV R)} {h0 : Heap R} (hH : HR ρ h0 w) (hI : Inj ρ w) (hF : ρ.pl nx = none)
    (h1 : parts.map (·.1) = rparts.toList.map (·.1)) (h2 : VRs ρ (parts.map (·.2)) (rparts.toList.map (·.2))) (h : buildSliceV P t len parts = some c) :
    ∃ v w' ρ', (Instr.buildSlice t len rparts).run P w = .ok v w' ∧ VR ρ' (.slice nx 0 len len) v ∧ Step ρ ρ' w w' nx (nx + 1) [(nx, c)] h0 := by
  unfold buildSliceV at h
  split at h
  · rename_i elem hu
    split at h
    · rename_i j z hj hz
      split at h
      · rename_i hc
        simp only [Bool.and_eq_true, decide_eq_true_eq, ne_eq] at hc
        obtain ⟨⟨⟨⟨c1, c2⟩, c3⟩, c4⟩, c5⟩ := hc
        obtain ⟨zv, hzr, hzv⟩ := zero_sound (ρ := ρ) hz
        have hzl : zv.cells.size = j.size := by rw [← c3]; simpa using hzv.length.symm
        have hzl' : zv.cells.toList.length = j.size := by simpa using hzl
        have hrep := cellsRep_VRs hzv (by rw [hzl']; exact c4) len
        rw [hzl'] at hrep
        have hmap : ((Array.range (len * j.size)).map (zv.cells[· % zv.cells.size]!)).toList = (List.range (len * j.size)).map fun i => zv.cells.toList.toArray[i % j.size]! := by
          simp [hzl]
        obtain ⟨r, hr, hrv⟩ := fill_sound (fun i => some (i * j.size, j.size)) parts rparts.toList (cellsRep len z) ((Array.range (len * j.size)).map (zv.cells[· % zv.cells.size]!)) c (by rw [hmap]; exact hrep) h1 h2 h
        obtain ⟨ρ', g1, g2, g3⟩ := Step.alloc (ty := elem) hH hI hF hrv
        refine ⟨.slice (some ⟨w.heap.size, 0, none⟩) len len, _, ρ', ?_, ⟨w.heap.size, g3, rfl⟩, g2⟩
        have hne : len * j.size ≠ 0 := Nat.mul_ne_zero c5 c4
        have hle : ¬ (len * j.size > 2 ^ 24) := by
          have := Nat.mul_le_mul c1 c2; omega
        unfold Instr.buildSlice
        simp only [Sem.run_bind, run_underlying hu, Result.andThen_ok, run_size hj w, if_neg hle, if_neg hne, hzr w, Sem.run_pure]
        rw [hr]
        rfl
      · cases h
    · cases h
  · cases h

theorem len_sound {ρ : Nm} (P : Program) (w : World) (nx : Nat) (b : Builtin) (argTypes : Array TypeId) (type : TypeId) (consts : Array Bool) {vs : List (AV R)} {vals : Array Value} (hv : VRs ρ vs vals.toList) (out : Out R)
    (h : (builtinV P nx b argTypes.toList vs).run = some out) : ∃ s, builtin b argTypes type consts vals = (do pure (.value (← s))) ∧ Pure1 P s w ρ nx out := by
  unfold builtinV at h
  have hat : ∀ {t : TypeId} {r : List TypeId}, argTypes.toList = t :: r → argTypes[0]? = some t := by
    intro t r e
    rw [← Array.getElem?_toList, e]; rfl
  have hsl : ∀ {t : TypeId}, isSliceT P t = true → ∃ e, P.underlying t = some (.slice e) := by
    intro t ht
    unfold isSliceT at ht
    revert ht
    cases P.underlying t with
    | none => simp
    | some d => cases d <;> simp
  split at h
  · rename_i n off l c
    obtain ⟨v, ws, e, h1, h2⟩ := hv.cons_inv
    have := h2.nil_inv; subst this
    obtain ⟨bb, hbb, rfl⟩ := h1
    have hvals : vals[0]? = some (.slice (some ⟨bb, off, none⟩) l c) := by rw [← Array.getElem?_toList, e]; rfl
    refine ⟨Builtin.len_ argTypes type vals, rfl, ?_⟩
    split at h
    · rename_i t r hte
      split at h
      · rename_i hc
        obtain ⟨el, hu⟩ := hsl hc
        split at h
        · rename_i hl
          refine .mk h (v := .int .i64 l) (w' := w) ?_ ⟨rfl, ?_⟩ (.refl w)
          · unfold Builtin.len_
            simp only [hat hte, hvals, Sem.run_bind, run_underlying hu, Result.andThen_ok]
            rfl
          · refine ⟨?_, ?_⟩
            · have : IntKind.i64.min = -9223372036854775808 := by decide
              rw [this]; omega
            · have : IntKind.i64.max = 9223372036854775807 := by decide
              rw [this]; omega
        · cases h
      · cases h
    · cases h
  · rename_i n k off l sz
    obtain ⟨v, ws, e, h1, h2⟩ := hv.cons_inv
    have := h2.nil_inv; subst this
    obtain ⟨p, base, cap, hp, rfl, hs⟩ := h1
    have hvals : vals[0]? = some (.slice base l.toNat cap) := by rw [← Array.getElem?_toList, e]; rfl
    refine ⟨Builtin.len_ argTypes type vals, rfl, ?_⟩
    split at h
    · rename_i t r hte
      split at h
      · rename_i hc
        obtain ⟨el, hu⟩ := hsl hc
        have h0 := hs.len0
        have h1 := hs.fits
        have h2 := hs.lenb
        refine .mk h (v := .int .i64 l) (w' := w) ?_ ⟨rfl, ?_⟩ (.refl w)
        · unfold Builtin.len_
          simp only [hat hte, hvals, Sem.run_bind, run_underlying hu, Result.andThen_ok]
          have : ((l.toNat : Nat) : Int) = l := Int.toNat_of_nonneg h0
          rw [← this]
          rfl
        · refine ⟨?_, ?_⟩
          · have : IntKind.i64.min = -9223372036854775808 := by decide
            rw [this]; omega
          · have : IntKind.i64.max = 9223372036854775807 := by decide
            rw [this]; omega
      · cases h
    · cases h
  · obtain ⟨v, ws, e, h1, h2⟩ := hv.cons_inv
    have := h2.nil_inv; subst this
    cases h1
    have hvals : vals[0]? = some (.slice none 0 0) := by rw [← Array.getElem?_toList, e]; rfl
    refine ⟨Builtin.len_ argTypes type vals, rfl, ?_⟩
    split at h
    · rename_i t r hte
      split at h
      · rename_i hc
        obtain ⟨el, hu⟩ := hsl hc
        refine .mk h (v := .int .i64 0) (w' := w) ?_ ⟨rfl, by unfold okInt; decide⟩ (.refl w)
        unfold Builtin.len_
        simp only [hat hte, hvals, Sem.run_bind, run_underlying hu, Result.andThen_ok]
        rfl
      · cases h
    · cases h
  · rename_i x r
    obtain ⟨v, ws, e, h1, h2⟩ := hv.cons_inv
    refine ⟨Builtin.max_ argTypes type vals, rfl, ?_⟩
    have := minmax_sound P nx true out r ws x v w h1 h2 h
    unfold Builtin.max_
    rw [e]
    exact this
  · rename_i x r
    obtain ⟨v, ws, e, h1, h2⟩ := hv.cons_inv
    refine ⟨Builtin.min_ argTypes type vals, rfl, ?_⟩
    have := minmax_sound P nx false out r ws x v w h1 h2 h
    unfold Builtin.min_
    rw [e]
    exact this
  · cases h

section
variable {P : Program} {nx : Nat} {h : Heap R} {out : Out R}

theorem make_nx {t : TypeId} {x : AV R} (hr : (makeSliceV (D := R) P nx t x).run = some out) : out.nx = nx + 1 := by
  unfold makeSliceV at hr
  repeat' split at hr
  all_goals first | (cases hr; done) | skip
  rcases run_choose_some hr with ⟨_, hr⟩ | ⟨_, hr⟩ <;> cases hr
  rfl

theorem empty_nx {t : TypeId} (hr : (emptyV (D := R) P nx t).run = some out) : out.nx = nx + 1 := by
  unfold emptyV at hr
  repeat' split at hr
  all_goals first | (cases hr; done) | skip
  cases hr
  rfl

theorem cut_nx {t : TypeId} {x v m : AV R} (hr : (cutV (D := R) P h nx t x v m).run = some out) : out.nx = nx + 1 := by
  unfold cutV at hr
  repeat' split at hr
  all_goals first | (cases hr; done) | skip
  rcases run_choose_some hr with ⟨_, hr⟩ | ⟨_, hr⟩ <;> cases hr
  rfl

theorem append_nx {ts : List TypeId} {vs : List (AV R)} (hr : (appendV (D := R) P h nx ts vs).run = some out) : out.nx = nx + 1 := by
  unfold appendV at hr
  repeat' split at hr
  all_goals first | (cases hr; done) | skip
  rcases run_choose_some hr with ⟨_, hr⟩ | ⟨_, hr⟩ <;> cases hr
  rfl

theorem cut_type {t : TypeId} {x v m : AV R} (hr : (cutV (D := R) P h nx t x v m).run = some out) : ∃ e, P.underlying t = some (.slice e) := by
  unfold cutV at hr
  split at hr
  · rename_i hu; exact ⟨_, hu⟩
  · cases hr

theorem slice_type {t : TypeId} {x : AV R} {l v m : Option (AV R)} (hr : (sliceV (D := R) P nx t x l v m).run = some out) : ∃ e, P.underlying t = some (.slice e) := by
  unfold sliceV at hr
  split at hr
  · rename_i hu; exact ⟨_, hu⟩
  · cases hr

theorem sliceAt_run {t : TypeId} (ht : ∃ e, P.underlying t = some (.slice e)) (x : Value) (l v m : Option Value) (w : World) : (Instr.sliceAt t x l v m).run P w = (Instr.slice t x l v m).run P w := by
  obtain ⟨e, hu⟩ := ht
  unfold Instr.sliceAt
  rw [Sem.run_bind, run_underlying hu]
  rfl

theorem opt_one {ρ : Nm} {a : Act} {o : Option Operand} {r : List (Option Operand)} {vs : List (AV R)} {x : Option (AV R)} {xs : List (Option (AV R))} {ws : List Value}
    (hv : VRs ρ vs ((o.toList.map a.eval) ++ ws)) (h : optV (o :: r) vs = some (x :: xs)) :
    ((x = none → o.map a.eval = none) ∧ ∀ u, x = some u → ∃ v, o.map a.eval = some v ∧ VR ρ u v) ∧ ∃ vs', VRs ρ vs' ws ∧ optV r vs' = some xs := by
  cases o with
  | none =>
    simp only [optV, Option.map_eq_some_iff, List.cons.injEq] at h
    obtain ⟨y, h1, rfl, rfl⟩ := h
    exact ⟨⟨fun _ => rfl, fun u hu => by cases hu⟩, vs, by simpa using hv, h1⟩
  | some p =>
    cases vs with
    | nil => simp [optV] at h
    | cons v vs =>
      simp only [optV, Option.map_eq_some_iff, List.cons.injEq] at h
      obtain ⟨y, h1, rfl, rfl⟩ := h
      have hv' : VRs ρ (v :: vs) (a.eval p :: ws) := by simpa using hv
      refine ⟨⟨fun hh => (nomatch hh), fun u hu => ?_⟩, vs, hv'.2, h1⟩
      cases hu
      exact ⟨_, rfl, hv'.1⟩

theorem optV_length : ∀ {os : List (Option Operand)} {vs : List (AV R)} {xs : List (Option (AV R))}, optV os vs = some xs → xs.length = os.length
  | [], [], xs, h => by simp [optV] at h; subst h; rfl
  | [], _ :: _, _, h => by simp [optV] at h
  | none :: r, vs, xs, h => by
    simp only [optV, Option.map_eq_some_iff] at h
    obtain ⟨y, h1, rfl⟩ := h
    simp [optV_length h1]
  | some _ :: r, [], xs, h => by simp [optV] at h
  | some _ :: r, v :: vs, xs, h => by
    simp only [optV, Option.map_eq_some_iff] at h
    obtain ⟨y, h1, rfl⟩ := h
    simp [optV_length h1]

end

section
variable {ρ : Nm} {P : Program} {a : Act} {w : World} {nx : Nat} {h : Heap R} {out : Out R} {K : Act → World → Prop} {Q : Exit → Act → World → Prop}

theorem mapSnd (f : Operand → Value) (ps : Array (Nat × Operand)) : ((ps.map fun (i, x) => (i, f x)).toList.map (·.1) = ps.toList.map (·.1)) ∧ ((ps.map fun (i, x) => (i, f x)).toList.map (·.2) = (ps.toList.map (·.2)).map f) := by
  constructor <;> simp

theorem evOpV_sound {call : CallFn R} (hc : CallOK P call) (o : Oper) {vs : List (AV R)} (hr : (evOpV P call o.op vs h nx).run = some out) (hv : VRs ρ vs (o.op.operands.toList.map a.eval))
    (hH : HR ρ h w) (hI : Inj ρ w) (hF : Fresh ρ nx out.nx) (hK : ∀ ρ' v w', VR ρ' out.v v → Step ρ ρ' w w' nx out.nx out.d h → K (a.put o.dst v) w') : o.wp P a w K Q := by
  obtain ⟨dst, op, type, pos, after, guard⟩ := o
  cases op <;> simp only [evOpV] at hr <;> first | (cases hr; done) | skip
  case move x =>
    split at hr
    · obtain ⟨v, ws, e, h1, h2⟩ := hv.cons_inv
      simp only [Op.operands, List.map_cons, List.map_nil, List.cons.injEq] at e
      refine wp_pure1 (s := pure (a.eval x)) (by simp only [execOp]; rfl) (.mk hr rfl (e.1 ▸ h1) (.refl w)) hH hI hK
    · cases hr
  case assign x =>
    split at hr
    · obtain ⟨v, ws, e, h1, h2⟩ := hv.cons_inv
      simp only [Op.operands, List.map_cons, List.map_nil, List.cons.injEq] at e
      refine wp_pure1 (s := pure (a.eval x)) (by simp only [execOp]; rfl) (.mk hr rfl (e.1 ▸ h1) (.refl w)) hH hI hK
    · cases hr
  case pick c x y =>
    simp only [Op.operands, List.map_cons, List.map_nil] at hv
    split at hr
    · rename_i b p q
      obtain ⟨h1, h2, h3, _⟩ := hv
      refine wp_pure1 (s := pure (if b then a.eval x else a.eval y)) ?_ (.mk hr rfl ?_ (.refl w)) hH hI hK
      · have h1' : a.eval c = .bool b := h1
        simp only [execOp, h1', asBool, pure_bind]
      · cases b
        · exact h3
        · exact h2
    · rename_i b p q
      obtain ⟨h1, h2, h3, _⟩ := hv
      have h1' : a.eval c = .bool b := h1
      split at hr
      · rename_i v hj
        cases b with
        | true =>
          refine wp_pure1 (s := pure (a.eval x)) ?_ (.mk hr rfl (join2_true _ _ _ hj _ _ h2) (.refl w)) hH hI hK
          simp only [execOp, h1', asBool, pure_bind]; rfl
        | false =>
          refine wp_pure1 (s := pure (a.eval y)) ?_ (.mk hr rfl (join2_false _ _ _ hj _ _ h3) (.refl w)) hH hI hK
          simp only [execOp, h1', asBool, pure_bind]; rfl
      · rcases run_choose_some hr with ⟨rfl, hr⟩ | ⟨rfl, hr⟩
        · refine wp_pure1 (s := pure (a.eval x)) ?_ (.mk hr rfl h2 (.refl w)) hH hI hK
          simp only [execOp, h1', asBool, pure_bind]; rfl
        · refine wp_pure1 (s := pure (a.eval y)) ?_ (.mk hr rfl h3 (.refl w)) hH hI hK
          simp only [execOp, h1', asBool, pure_bind]; rfl
    · cases hr
  case alloc e =>
    split at hr
    · rename_i len k hb
      split at hr
      · rename_i z hz
        split at hr
        · rename_i hc
          simp only [Bool.and_eq_true, decide_eq_true_eq] at hc
          obtain ⟨hc1, hc2⟩ := hc
          have := (Option.some.inj hr).symm
          subst this
          obtain ⟨zv, hzr, hzv⟩ := zero_sound (ρ := ρ) hz
          have hrow := zeros_rowR hc2 hzv
          rw [hc1] at hrow
          have hst := Step.newArr (ty := e) hH hI (hF nx (Nat.le_refl _) (Nat.lt_succ_self _)) hrow
          have hst' : Step ρ (ρ.put nx (arrP w.heap.size (List.replicate len [CV.z (0 : Int)] : Row).length) .own) w { w with heap := w.heap.push (.cells zv.cells e (0, 0)) } nx (nx + 1) [(nx, [.row false [.z k] (R.lrep (R.zc (len : Int)) [.z (R.zc 0)])])] h := by
            have hrep : R.lrep (R.zc (len : Int)) [.z (R.zc 0)] = List.replicate len [.z (0 : Int)] := by
              show List.replicate ((len : Int)).toNat _ = _
              rw [Int.toNat_natCast]
            rw [hrep]; exact hst
          refine wp_value (v := .pointer (some ⟨w.heap.size, 0, none⟩)) ?_ (hK _ _ _ ⟨_, _, Nm.put_pl .., rfl, rfl, List.length_replicate .., rfl⟩ hst')
          simp only [execOp, Instr.alloc, Sem.run_bind, hzr w, Result.andThen_ok, newVar, newRow, newObj]
          rfl
        · cases hr
      · cases hr
    split at hr
    · rename_i z hz
      have : out = ⟨.ptr nx 0, [(nx, z)], nx + 1⟩ := (Option.some.inj hr).symm
      subst this
      obtain ⟨zv, hzr, hzv⟩ := zero_sound (ρ := ρ) hz
      obtain ⟨ρ', g1, g2, g3⟩ := Step.alloc (ty := e) hH hI (hF nx (Nat.le_refl _) (Nat.lt_succ_self _)) hzv
      refine wp_value (v := .pointer (some ⟨w.heap.size, 0, none⟩)) ?_ (hK ρ' _ _ g1 g2)
      simp only [execOp, Instr.alloc, Sem.run_bind, hzr w, Result.andThen_ok, newVar, newRow, newObj]
      rfl
    · cases hr
  case box e x =>
    split at hr
    · rename_i n k l
      obtain ⟨v, ws, ee, h1, h2⟩ := hv.cons_inv
      simp only [Op.operands, List.map_cons, List.map_nil, List.cons.injEq] at ee
      have := (Option.some.inj hr).symm
      subst this
      have h1' : VR ρ (.arr n k l) (a.eval x) := ee.1 ▸ h1
      obtain ⟨hl, xs, hxe, hrow⟩ := h1'
      have hst := Step.newArr (ty := e) hH hI (hF nx (Nat.le_refl _) (Nat.lt_succ_self _)) hrow
      refine wp_value (v := .pointer (some ⟨w.heap.size, 0, none⟩)) ?_ (hK _ _ _ ⟨_, _, Nm.put_pl .., rfl, rfl, hl, rfl⟩ hst)
      simp only [execOp, hxe, Instr.box, Sem.run_bind, newVar, newRow, newObj]
      rfl
    · rename_i u _
      obtain ⟨v, ws, ee, h1, h2⟩ := hv.cons_inv
      simp only [Op.operands, List.map_cons, List.map_nil, List.cons.injEq] at ee
      split at hr
      case isTrue => cases hr
      rename_i hna
      have : out = ⟨.ptr nx 0, [(nx, u.cells)], nx + 1⟩ := (Option.some.inj hr).symm
      subst this
      have h1' : VR ρ u (a.eval x) := ee.1 ▸ h1
      obtain ⟨ρ', g1, g2, g3⟩ := Step.alloc (ty := e) hH hI (hF nx (Nat.le_refl _) (Nat.lt_succ_self _)) (cells_VRs h1' (by simpa using hna))
      refine wp_value (v := .pointer (some ⟨w.heap.size, 0, none⟩)) ?_ (hK ρ' _ _ g1 g2)
      simp only [execOp, Instr.box, Sem.run_bind, newVar, newRow, newObj]
      rfl
    · cases hr
  case build t ps =>
    have hl : ps.toList.length = vs.length := by
      have := hv.length
      simp [Op.operands] at this ⊢; omega
    have hz := zipParts_fst ps.toList vs hl
    have hm := mapSnd a.eval ps
    refine wp_pure1 (s := Instr.build t (ps.map fun (i, x) => (i, a.eval x))) (by simp only [execOp]) (.mkO hr (fun b hb => ?_) (.refl w)) hH hI hK
    exact build_sound (by rw [hz.1, hm.1]) (by rw [hz.2, hm.2]; simpa [Op.operands] using hv) hb
  case buildSlice t n ps =>
    split at hr
    · rename_i hn0
      subst hn0
      split at hr
      · have hnx : out.nx = nx + 1 := empty_nx hr
        have hps : ps = #[] := by
          have := hv.length
          simp [Op.operands] at this
          exact Array.eq_empty_of_size_eq_zero this.symm
        subst hps
        obtain ⟨v, w', ρ', g1, g2, g3⟩ := empty_sound hr hH hI (hF nx (Nat.le_refl _) (by omega))
        refine wp_value (v := v) (w' := w') ?_ (hK ρ' _ _ g2 g3)
        simp only [execOp, Array.map_empty, Sem.run_bind, g1, Result.andThen_ok, Sem.run_pure]
      · cases hr
    split at hr
    · rename_i c hb
      have hl : ps.toList.length = vs.length := by
        have := hv.length
        simp [Op.operands] at this ⊢; omega
      have hz := zipParts_fst ps.toList vs hl
      have hm := mapSnd a.eval ps
      have : out = ⟨.slice nx 0 n n, [(nx, c)], nx + 1⟩ := (Option.some.inj hr).symm
      subst this
      obtain ⟨v, w', ρ', g1, g2, g3⟩ := buildSlice_sound (rparts := ps.map fun (i, x) => (i, a.eval x)) hH hI (hF nx (Nat.le_refl _) (Nat.lt_succ_self _)) (by rw [hz.1, hm.1]) (by rw [hz.2, hm.2]; simpa [Op.operands] using hv) hb
      refine wp_value (v := v) (w' := w') ?_ (hK ρ' _ _ g2 g3)
      simp only [execOp, Sem.run_bind, g1, Result.andThen_ok, Sem.run_pure]
    · cases hr
  case load t x =>
    split at hr
    · rename_i n off
      split at hr
      · rename_i blk hg
        obtain ⟨v, ws, ee, h1, h2⟩ := hv.cons_inv
        simp only [Op.operands, List.map_cons, List.map_nil, List.cons.injEq] at ee
        obtain ⟨b, hb, rfl⟩ := h1
        split at hr
        case isTrue => cases hr
        rename_i hsh
        obtain ⟨b', cs, ty, k1, _, k2, k3⟩ := (hH n blk hg).open (by simpa using hsh)
        rw [k1] at hb; cases hb
        split at hr
        · rename_i len k hbig
          refine wp_pure1 (s := Instr.loadAt t (a.eval x)) (by simp only [execOp]) (.mkO hr (fun u hu => ?_) (.refl w)) hH hI hK
          obtain ⟨v, g1, g2⟩ := loadCells_sound hbig k2 k3 hu
          exact ⟨v, by rw [ee.1]; simpa only [Instr.loadAt, Instr.sureAddr, Sem.run_bind, Sem.run_pure, Result.andThen_ok] using g1, g2⟩
        refine wp_pure1 (s := Instr.loadAt t (a.eval x)) (by simp only [execOp]) (.mkO hr (fun u hu => ?_) (.refl w)) hH hI hK
        obtain ⟨v, g1, g2⟩ := load_sound k2 k3 hu
        exact ⟨v, by rw [ee.1]; simpa only [Instr.loadAt, Instr.sureAddr, Sem.run_bind, Sem.run_pure, Result.andThen_ok] using g1, g2⟩
      · cases hr
    · rename_i n len
      split at hr
      · rename_i ro k l len' k' hg hbig
        split at hr
        · rename_i hc
          obtain ⟨rfl, rfl⟩ := hc
          obtain ⟨v, ws, ee, h1, h2⟩ := hv.cons_inv
          simp only [Op.operands, List.map_cons, List.map_nil, List.cons.injEq] at ee
          obtain ⟨p, b, q1, q2, q3, q4, rfl⟩ := h1
          obtain ⟨p', k1, _, _, k2⟩ := (hH n _ (rowAt_some hg)).openRow
          rw [k1] at q1; cases q1
          obtain ⟨v, g1, g2⟩ := loadArr_sound (ρ := ρ) hbig k2 q2 q3 q4
          exact wp_pure1 (s := Instr.loadAt t (a.eval x)) (by simp only [execOp]) (.mk hr (by rw [ee.1]; simpa only [Instr.loadAt, Instr.sureAddr, Sem.run_bind, Sem.run_pure, Result.andThen_ok] using g1) g2 (.refl w)) hH hI hK
        · cases hr
      · cases hr
    · rename_i n z sz off
      split at hr
      · rename_i ro ks l hg
        split at hr
        case isFalse => cases hr
        rename_i hks
        obtain ⟨v, ws, ee, h1, h2⟩ := hv.cons_inv
        simp only [Op.operands, List.map_cons, List.map_nil, List.cons.injEq] at ee
        obtain ⟨p, b, q1, q2, q3, q4, rfl⟩ := h1
        obtain ⟨p', k1, _, _, k2⟩ := (hH n _ (rowAt_some hg)).openRow
        rw [k1] at q1; cases q1
        refine wp_pure1 (s := Instr.loadAt t (a.eval x)) (by simp only [execOp]) (.mkO hr (fun u hu => ?_) (.refl w)) hH hI hK
        obtain ⟨v, g1, g2⟩ := loadRow_sound k2 q2 q3 q4 hks hu
        exact ⟨v, by rw [ee.1]; simpa only [Instr.loadAt, Instr.sureAddr, Sem.run_bind, Sem.run_pure, Result.andThen_ok] using g1, g2⟩
      · cases hr
    · cases hr
  case store t x y =>
    simp only [Op.operands, List.map_cons, List.map_nil] at hv
    split at hr
    · rename_i n off u
      split at hr
      · rename_i blk hg
        split at hr
        case isTrue => cases hr
        rename_i hsh
        split at hr
        · rename_i blk' hs
          obtain ⟨h1, h2, _⟩ := hv
          obtain ⟨b, hb, hx⟩ := h1
          obtain ⟨b', cs, ty, k1, k0, k2, k3⟩ := (hH n blk hg).open (by simpa using hsh)
          rw [k1] at hb; cases hb
          have : out = ⟨.undef, [(n, blk')], nx⟩ := (Option.some.inj hr).symm
          subst this
          obtain ⟨w', g1, g2⟩ := store_sound (nx := nx) hH hI k1 k0 k2 k3 h2 hs
          have := hK ρ undef w' rfl g2
          unfold Oper.wp
          simp only [execOp, hx, Instr.storeAt, Instr.sureAddr, Sem.run_bind, Sem.run_pure, Result.andThen_ok, g1]
          exact this
        · cases hr
      · cases hr
    · rename_i n len m k l
      split at hr
      · rename_i ks l0 len' k' hg hbig
        split at hr
        · rename_i hc
          obtain ⟨rfl, rfl, rfl, rfl⟩ := hc
          obtain ⟨h1, h2, _⟩ := hv
          obtain ⟨p, b, q1, q2, q3, q4, hx⟩ := h1
          have := (Option.some.inj hr).symm
          subst this
          obtain ⟨w', g1, g2⟩ := storeArr_sound (nx := nx) hbig hH hI (rowAt_some hg) q1 q2 q3 q4 h2
          have := hK ρ undef w' rfl g2
          unfold Oper.wp
          simp only [execOp, hx, Instr.storeAt, Instr.sureAddr, Sem.run_bind, Sem.run_pure, Result.andThen_ok, g1]
          exact this
        · cases hr
      · cases hr
    · rename_i n z sz off u
      split at hr
      · rename_i ks l hg
        split at hr
        case isFalse => cases hr
        rename_i hks
        split at hr
        · rename_i l' hs
          obtain ⟨h1, h2, _⟩ := hv
          obtain ⟨p, b, q1, q2, q3, q4, hx⟩ := h1
          have : out = ⟨.undef, [(n, [.row false ks l'])], nx⟩ := (Option.some.inj hr).symm
          subst this
          obtain ⟨w', g1, g2⟩ := storeRow_sound (nx := nx) hH hI (rowAt_some hg) q1 q2 q3 q4 hks h2 hs
          have := hK ρ undef w' rfl g2
          unfold Oper.wp
          simp only [execOp, hx, Instr.storeAt, Instr.sureAddr, Sem.run_bind, Sem.run_pure, Result.andThen_ok, g1]
          exact this
        · cases hr
      · cases hr
    · cases hr
  case nilCheck x =>
    simp only [Op.operands, List.map_cons, List.map_nil] at hv
    split at hr
    · obtain ⟨h1, _⟩ := hv
      obtain ⟨p, b, q1, q2, q3, q4, hx⟩ := h1
      refine wp_pure1 (s := pure (a.eval x)) (by simp only [execOp, hx]; rfl) (.mk hr rfl ⟨p, b, q1, q2, q3, q4, hx⟩ (.refl w)) hH hI hK
    · obtain ⟨h1, _⟩ := hv
      obtain ⟨b, hb, hx⟩ := h1
      refine wp_pure1 (s := pure (a.eval x)) (by simp only [execOp, hx]; rfl) (.mk hr rfl ⟨b, hb, hx⟩ (.refl w)) hH hI hK
    · obtain ⟨h1, _⟩ := hv
      obtain ⟨p, b, q1, q2, q3, q4, hx⟩ := h1
      refine wp_pure1 (s := pure (a.eval x)) (by simp only [execOp, hx]; rfl) (.mk hr rfl ⟨p, b, q1, q2, q3, q4, hx⟩ (.refl w)) hH hI hK
    · obtain ⟨h1, _⟩ := hv
      obtain ⟨xs, ys, hx, hh⟩ := h1
      refine wp_pure1 (s := pure (a.eval x)) (by simp only [execOp, hx]; rfl) (.mk hr rfl ⟨xs, ys, hx, hh⟩ (.refl w)) hH hI hK
    · cases hr
  case binOp op t x y u =>
    simp only [Op.operands, List.map_cons, List.map_nil] at hv
    split at hr
    · obtain ⟨h1, h2, _⟩ := hv
      exact wp_pure1 (s := do eqGuard op t x y (a.eval x) (a.eval y); binOp op t (a.eval x) (a.eval y)) (by simp only [execOp]) (binOp_sound P w nx op t x y h1 h2 out hr) hH hI hK
    · cases hr
  case unOp op t x =>
    simp only [Op.operands, List.map_cons, List.map_nil] at hv
    split at hr
    · obtain ⟨h1, _⟩ := hv
      exact wp_pure1 (s := Op.unary op (a.eval x)) (by simp only [execOp]) (unOp_sound P w nx op h1 out hr) hH hI hK
    · cases hr
  case convert s d x =>
    simp only [Op.operands, List.map_cons, List.map_nil] at hv
    split at hr
    · obtain ⟨h1, _⟩ := hv
      exact wp_pure1 (s := convert s d (a.eval x)) (by simp only [execOp]) (conv_sound P w nx s d h1 out hr) hH hI hK
    · cases hr
  case makeFunc fn first captured =>
    simp only [Op.operands, Array.toList_append, List.map_append] at hv
    split at hr
    · rename_i f
      refine wp_pure1 (s := Instr.makeFunc (.func f) (first.map a.eval) (captured.map a.eval)) (by simp only [execOp]) (.mk hr rfl ?_ (.refl w)) hH hI hK
      refine ⟨_, _, rfl, ?_, ?_⟩
      · have := VRs.take first.size hv
        simpa [List.take_append] using this
      · have := VRs.drop first.size hv
        simpa [List.drop_append] using this
    · cases hr
  case fieldAddr t x f =>
    simp only [Op.operands, List.map_cons, List.map_nil] at hv
    split at hr
    · obtain ⟨h1, _⟩ := hv
      exact wp_pure1 (s := Instr.fieldAt t (a.eval x) f) (by simp only [execOp]) (fieldAddr_sound P w nx t f h1 out hr) hH hI hK
    · cases hr
  case field t x f =>
    simp only [Op.operands, List.map_cons, List.map_nil] at hv
    split at hr
    · obtain ⟨h1, _⟩ := hv
      exact wp_pure1 (s := Instr.field t (a.eval x) f) (by simp only [execOp]) (field_sound P w nx t f h1 out hr) hH hI hK
    · cases hr
  case indexAddr t x i =>
    simp only [Op.operands, List.map_cons, List.map_nil] at hv
    split at hr
    · obtain ⟨h1, h2, _⟩ := hv
      exact wp_pure1 (s := Instr.indexAt t (a.eval x) (a.eval i)) (by simp only [execOp]) (indexAddr_sound P w nx t h1 h2 out hr) hH hI hK
    · cases hr
  case index t x i =>
    simp only [Op.operands, List.map_cons, List.map_nil] at hv
    split at hr
    · obtain ⟨h1, h2, _⟩ := hv
      exact wp_pure1 (s := Instr.index t (a.eval x) (a.eval i)) (by simp only [execOp]) (index_sound P w nx t h1 h2 out hr) hH hI hK
    · cases hr
  case extract x i =>
    simp only [Op.operands, List.map_cons, List.map_nil] at hv
    split at hr
    · obtain ⟨h1, _⟩ := hv
      obtain ⟨xs, hx, hxs⟩ := h1
      refine wp_pure1 (s := Instr.extract (a.eval x) i) (by simp only [execOp]) (.mkO hr (fun u hu => ?_) (.refl w)) hH hI hK
      obtain ⟨v, g1, g2⟩ := hxs.get hu
      refine ⟨v, ?_, g2⟩
      have : xs[i]? = some v := by simpa using g1
      simp only [hx, Instr.extract, this, Sem.run_pure]
    · cases hr
  case makeSlice t l c =>
    simp only [Op.operands, List.map_cons, List.map_nil] at hv
    split at hr
    · split at hr
      · rename_i hsame
        have he : a.eval c = a.eval l := by
          unfold sameOpd at hsame
          split at hsame
          · have e := eq_of_beq hsame
            subst e; rfl
          · cases hsame
        obtain ⟨h1, _⟩ := hv
        have hnx : out.nx = nx + 1 := make_nx hr
        obtain ⟨v, w', ρ', g1, g2, g3⟩ := make_sound h1 hr hH hI (hF nx (Nat.le_refl _) (by omega))
        refine wp_value (v := v) (w' := w') ?_ (hK ρ' _ _ g2 g3)
        simp only [execOp, he, Sem.run_bind, g1, Result.andThen_ok, Sem.run_pure]
      · cases hr
    · cases hr
  case slice t x low high max =>
    split at hr
    · rename_i u r
      obtain ⟨v, ws, ee, h1, h2⟩ := hv.cons_inv
      have hops : (Op.slice t x low high max).operands.toList.map a.eval = a.eval x :: (low.toList ++ high.toList ++ max.toList).map a.eval := by
        simp [Op.operands]
      rw [hops] at ee
      simp only [List.cons.injEq] at ee
      obtain ⟨e1, e2⟩ := ee
      subst e1
      rw [← e2] at h2
      split at hr
      · rename_i v' m' hopt
        have h2' : VRs ρ r ((low.toList.map a.eval) ++ ((high.toList.map a.eval) ++ ((max.toList.map a.eval) ++ []))) := by simpa using h2
        obtain ⟨hl, r1, h3, o1⟩ := opt_one h2' hopt
        obtain ⟨hh, r2, h4, o2⟩ := opt_one h3 o1
        obtain ⟨hm, _⟩ := opt_one h4 o2
        obtain ⟨v1, k1, k2⟩ := hh.2 _ rfl
        obtain ⟨v2, k3, k4⟩ := hm.2 _ rfl
        have hnx : out.nx = nx + 1 := cut_nx hr
        obtain ⟨v, w', ρ', g1, g2, g3⟩ := cut_sound h1 k2 k4 hr hH hI (hF nx (Nat.le_refl _) (by omega))
        refine wp_value (v := v) (w' := w') ?_ (hK ρ' _ _ g2 g3)
        simp only [execOp, hl.1 rfl, k1, k3, Sem.run_bind, sliceAt_run (cut_type hr), g1, Result.andThen_ok, Sem.run_pure]
      · rename_i l' h' m' _ hopt
        have h2' : VRs ρ r ((low.toList.map a.eval) ++ ((high.toList.map a.eval) ++ ((max.toList.map a.eval) ++ []))) := by simpa using h2
        obtain ⟨hl, r1, h3, o1⟩ := opt_one h2' hopt
        obtain ⟨hh, r2, h4, o2⟩ := opt_one h3 o1
        obtain ⟨hm, _⟩ := opt_one h4 o2
        obtain ⟨p1, p2, v, w', p3, p4, p5⟩ := slice_sound (w := w) h1 hl.2 hl.1 hh.2 hh.1 hm.2 hm.1 hr
        refine wp_pure1 (s := Instr.sliceAt t (a.eval x) (low.map a.eval) (high.map a.eval) (max.map a.eval)) (by simp only [execOp]) ⟨p1, p2, v, w', ?_, p4, p5⟩ hH hI hK
        rw [sliceAt_run (slice_type hr)]; exact p3
      · cases hr
    · cases hr
  case call c =>
    split at hr
    · rename_i vs' fo f first cap args hcal
      simp only [Op.operands, Call.operands, hcal, Array.toList_append, List.map_cons, List.cons_append, List.nil_append] at hv
      obtain ⟨hf, hargs⟩ := hv
      obtain ⟨xs, ys, hx, h1, h2⟩ := hf
      have hvals : VRs ρ (first ++ (args ++ cap)) (xs ++ (c.args.map a.eval) ++ ys).toList := by
        simp only [Array.toList_append, List.append_assoc]
        exact VRs.append h1 (VRs.append (by simpa using hargs) h2)
      have := hc f (first ++ (args ++ cap)) h nx out hr ρ w _ hvals hH hI hF
      have he : execOp a.eval ⟨dst, .call c, type, pos, after, guard⟩ = callFunc f (xs ++ (c.args.map a.eval) ++ ys) := by
        simp only [execOp, resolve, hcal, hx, Deferred.ofValue, invoke, pure_bind]
      unfold Oper.wp
      rw [he]
      unfold CF at this
      split at this
      · rename_i v w' hrun
        rw [hrun]
        obtain ⟨ρ', k1, k2⟩ := this
        exact hK ρ' v w' k1 k2
      · rename_i g as w' hrun
        rw [hrun]
        refine Calls.mono this fun e w'' he => ?_
        obtain ⟨v, rfl, ρ', k1, k2⟩ := he
        exact hK ρ' v w'' k1 k2
      · exact this.elim
    · rename_i hcal
      have hnx : out.nx = nx + 1 := append_nx hr
      obtain ⟨v, w', ρ', g1, g2, g3⟩ := append_sound c.argTypes type (vals := c.args.map a.eval) (by simpa [Op.operands, Call.operands, hcal] using hv) hr hH hI (hF nx (Nat.le_refl _) (by omega))
      refine wp_value (v := v) (w' := w') ?_ (hK ρ' _ _ g2 g3)
      simp only [execOp, resolve, hcal, invoke, pure_bind, builtin, Sem.run_bind, g1, Result.andThen_ok, Sem.run_pure]
    · rename_i b hnb hcal
      obtain ⟨s, hs, hp⟩ := len_sound P w nx b c.argTypes type (c.args.map fun | .const _ => true | _ => false) (vals := c.args.map a.eval) (by simpa [Op.operands, Call.operands, hcal] using hv) out hr
      refine wp_pure1 (s := s) ?_ hp hH hI hK
      simp only [execOp, resolve, hcal, invoke, pure_bind]
      exact hs
    · cases hr

end

end Go.Ev
