/- Every operation that the evaluator knows comes to what the machine comes to. -/
import Derived.Test.YtaidgkokaeojhaaEv1
/- Loads, stores, and what is built. -/
namespace Go.Ev

variable {ρ : Nat → Option Nat}

theorem absS_VR {v : Value} {a : AV R} (h : absS R v = some a) : VR ρ a v := by
  unfold absS at h
  split at h
  · cases h; rfl
  · split at h
    · rename_i hk; cases h; exact ⟨rfl, hk⟩
    · cases h
  · split at h
    · rename_i hb; cases h; exact ⟨_, rfl, hb, rfl⟩
    · cases h
  · cases h; rfl
  · cases h; rfl
  · cases h; rfl
  · cases h

theorem absL_VRs : ∀ {vs : List Value} {as : List (AV R)}, absL R vs = some as → VRs ρ as vs
  | [], as, h => by simp only [absL] at h; cases h; trivial
  | v :: r, as, h => by
    simp only [absL] at h
    split at h
    · rename_i a l h1 h2
      cases h
      exact ⟨absS_VR h1, absL_VRs h2⟩
    · cases h

theorem absV_VR {v : Value} {a : AV R} (h : absV R v = some a) : VR ρ a v := by
  unfold absV at h
  split at h
  · rename_i cs
    cases hc : absL R cs.toList with
    | none => rw [hc] at h; cases h
    | some l => rw [hc] at h; cases h; exact ⟨cs, rfl, absL_VRs hc⟩
  · exact absS_VR h

theorem cells_VRs {a : AV R} {v : Value} (h : VR ρ a v) (hn : a.isAny = false) : VRs ρ a.cells v.cells.toList := by
  cases a
  case any => cases hn
  case agg cs => obtain ⟨xs, rfl, hx⟩ := h; exact hx
  case undef => cases h; exact ⟨rfl, trivial⟩
  case fl x => obtain ⟨b, rfl, hb⟩ := h; exact ⟨⟨b, rfl, hb⟩, trivial⟩
  case kb b => cases h; exact ⟨rfl, trivial⟩
  case sb b => cases h; exact ⟨rfl, trivial⟩
  case ki k n => obtain ⟨rfl, hb⟩ := h; exact ⟨⟨rfl, hb⟩, trivial⟩
  case si k n => obtain ⟨rfl, hb⟩ := h; exact ⟨⟨rfl, hb⟩, trivial⟩
  case ptr n off => obtain ⟨b, hb, rfl⟩ := h; exact ⟨⟨b, hb, rfl⟩, trivial⟩
  case nilp => cases h; exact ⟨rfl, trivial⟩
  case slice n off l c => obtain ⟨b, hb, rfl⟩ := h; exact ⟨⟨b, hb, rfl⟩, trivial⟩
  case nils => cases h; exact ⟨rfl, trivial⟩
  case clo f x y => obtain ⟨xs, ys, rfl, h1⟩ := h; exact ⟨⟨xs, ys, rfl, h1⟩, trivial⟩
  case nilf => cases h; exact ⟨rfl, trivial⟩
  case tup cs => obtain ⟨xs, rfl, h1⟩ := h; exact ⟨⟨xs, rfl, h1⟩, trivial⟩

theorem absV_notAny {v : Value} {a : AV R} (h : absV R v = some a) : a.isAny = false := by
  cases a <;> first | rfl | skip
  exfalso
  unfold absV at h
  split at h
  · rename_i cs
    cases hc : absL R cs.toList with
    | none => rw [hc] at h; cases h
    | some l => rw [hc] at h; cases h
  · unfold absS at h
    split at h <;> first | (cases h; done) | skip
    all_goals (split at h <;> cases h)

theorem oneCell_of {a : AV R} {v : Value} (h : VR ρ a v) (hc : a.isCell = true) : v.oneCell' = true := by
  cases a <;> simp only [AV.isCell] at hc <;> first | (cases hc; done) | skip
  case fl x => obtain ⟨b, rfl, hb⟩ := h; rfl
  case kb b => cases h; rfl
  case sb b => cases h; rfl
  case ki k n => obtain ⟨rfl, hb⟩ := h; rfl
  case si k n => obtain ⟨rfl, hb⟩ := h; rfl
  case ptr n off => obtain ⟨b, hb, rfl⟩ := h; rfl
  case nilp => cases h; rfl
  case slice n off l c => obtain ⟨b, hb, rfl⟩ := h; rfl
  case nils => cases h; rfl
  case clo f x y => obtain ⟨xs, ys, rfl, h1⟩ := h; rfl
  case nilf => cases h; rfl

theorem oneCells_of : ∀ {as : List (AV R)} {vs : List Value}, VRs ρ as vs → as.all AV.isCell = true → ∀ v ∈ vs, v.oneCell' = true
  | [], [], _, _, _, hv => by cases hv
  | a :: as, v :: vs, ⟨h1, h2⟩, hc, u, hu => by
    simp only [List.all_cons, Bool.and_eq_true] at hc
    rcases List.mem_cons.1 hu with rfl | hu
    · exact oneCell_of h1 hc.1
    · exact oneCells_of h2 hc.2 u hu

theorem add_at (b o j : Nat) : (⟨b, o, none⟩ : Addr).add j = ⟨b, o + j, none⟩ := by unfold Addr.add; split <;> simp_all

theorem load_sound {P : Program} {w : World} {t : TypeId} {b off : Nat} {cs : Array Value} {ty : TypeId} {blk : List (AV R)} {a : AV R} (hb : w.heap[b]? = some (.cells cs ty (0, 0))) (hv : VRs ρ blk cs.toList)
    (h : loadV P t blk off = some a) : ∃ v, (loadVar t ⟨b, off, none⟩).run P w = .ok v w ∧ VR ρ a v := by
  have many : ∀ (d : TypeDesc) (i : TypeInfo), P.underlying t = some d → aggD d = true → P.info? t = some i →
      (if off + i.size ≤ blk.length then some (AV.agg ((blk.drop off).take i.size)) else none) = some a → ∃ v, (loadVar t ⟨b, off, none⟩).run P w = .ok v w ∧ VR ρ a v := by
    intro d i hu hd hi hh
    split at hh
    · rename_i hle
      cases hh
      have hlen : ((cs.toList.drop off).take i.size).length = i.size := by
        have := hv.length
        simp at this ⊢; omega
      have hl := run_loadCells_list (P := P) w ⟨b, off, none⟩ ((cs.toList.drop off).take i.size) (fun j v hj => by
        rw [add_at, cell_of_row w b (off + j) cs ty (0, 0) hb]
        rw [List.getElem?_take] at hj
        split at hj
        · rw [List.getElem?_drop] at hj; simpa using hj
        · cases hj)
      rw [hlen] at hl
      refine ⟨_, ?_, ⟨((cs.toList.drop off).take i.size).toArray, rfl, by simpa using VRs.take i.size (VRs.drop off hv)⟩⟩
      simp only [loadVar, Sem.run_bind, run_isAgg hu w, hd, if_true, Result.andThen_ok, run_size hi w, hl, Sem.run_pure]
    · cases hh
  unfold loadV at h
  split at h
  · rename_i fs hu
    split at h
    · rename_i i hi; exact many _ i hu rfl hi h
    · cases h
  · rename_i n e hu
    split at h
    · rename_i i hi; exact many _ i hu rfl hi h
    · cases h
  · rename_i d h1 h2 hu
    obtain ⟨v, hv1, hv2⟩ := hv.get h
    refine ⟨v, ?_, hv2⟩
    have hd : aggD d = false := by
      cases d <;> first | rfl | (exact (h1 _ rfl).elim) | (exact (h2 _ _ rfl).elim)
    have hcell : w.cell? ⟨b, off, none⟩ = some v := by rw [cell_of_row w b off cs ty (0, 0) hb]; simpa using hv1
    simp only [loadVar, Sem.run_bind, run_isAgg hu w, hd, Bool.false_eq_true, if_false, Result.andThen_ok]
    simp only [load, Sem.run, hcell]
  · cases h

theorem store_sound {P : Program} {w : World} {t : TypeId} {n b off : Nat} {cs : Array Value} {ty : TypeId} {blk blk' : List (AV R)} {x : AV R} {v : Value} {nx : Nat} {h0 : Heap R} (hH : HR ρ h0 w) (hI : Inj ρ w) (hn : ρ n = some b)
    (hb : w.heap[b]? = some (.cells cs ty (0, 0))) (hv : VRs ρ blk cs.toList) (hx : VR ρ x v)
    (h : storeV P t blk off x = some blk') : ∃ w', (storeVar t ⟨b, off, none⟩ v).run P w = .ok () w' ∧ Step ρ ρ w w' nx nx [(n, blk')] h0 := by
  unfold storeV at h
  split at h
  · rename_i i hi
    split at h
    · rename_i hc
      simp only [Bool.and_eq_true, decide_eq_true_eq] at hc
      obtain ⟨⟨h1, h2⟩, h3⟩ := hc
      cases h
      have hna : x.isAny = false := by cases x <;> first | rfl | (exfalso; simp [AV.cells, AV.isCell] at h3)
      have hxc := cells_VRs hx hna
      have hsz : v.cells.size = i.size := by rw [← h1]; simpa using hxc.length.symm
      have hlen : blk.length = cs.size := by simpa using hv.length
      have hst := run_storeCells_at P b off ty v.cells.toList 0 cs w hb (by simp; omega) (oneCells_of hxc h3)
      refine ⟨w.setRow b (cs.toList.take (off + 0) ++ v.cells.toList ++ cs.toList.drop (off + 0 + v.cells.toList.length)).toArray, ?_, ?_⟩
      · unfold storeVar
        simp only [Sem.run_bind, run_size hi w, Result.andThen_ok, hsz, ne_eq, not_true_eq_false, if_false]
        exact hst
      · refine .set hH hI hn ?_ (setRow_heap w b cs _ ty (0, 0) hb) (setRow_size ..) (fun c hc => setRow_other w b c _ hc) rfl rfl rfl
        simp only [Nat.add_zero, Array.length_toList, hsz]
        rw [List.append_assoc]
        exact VRs.append (VRs.take off hv) (VRs.append hxc (VRs.drop _ hv))
    · cases h
  · cases h

theorem zero_sound {P : Program} {t : TypeId} {z : List (AV R)} (h : zeroV R P t = some z) : ∃ v, (∀ w, (zeroValue t).run P w = .ok v w) ∧ VRs ρ z v.cells.toList := by
  unfold zeroV at h
  split at h
  · rename_i i hi
    split at h
    · rename_i v hz
      cases ha : absV R v with
      | none => rw [ha] at h; cases h
      | some a =>
        rw [ha] at h; cases h
        refine ⟨v, fun w => ?_, cells_VRs (absV_VR ha) (absV_notAny ha)⟩
        simp [zeroValue, run_info hi w, hz]
    · cases h
  · cases h

theorem zipIdx_shift (off : Nat) : ∀ (l : List Value) (k : Nat), l.zipIdx (off + k) = (l.zipIdx k).map (fun p => (p.1, off + p.2))
  | [], _ => rfl
  | v :: l, k => by
    have := zipIdx_shift off l (k + 1)
    simp only [List.zipIdx_cons, List.map_cons]
    rw [Nat.add_assoc, this]

theorem foldl_set_splice : ∀ (l : List Value) (k : Nat) (arr : Array Value), k + l.length ≤ arr.size →
    ((l.zipIdx k).foldl (fun a (p : Value × Nat) => a.setIfInBounds p.2 p.1) arr).toList = arr.toList.take k ++ (l ++ arr.toList.drop (k + l.length)) := by
  intro l
  induction l with
  | nil => intro k arr _; simp
  | cons v l ih =>
    intro k arr h
    simp only [List.zipIdx_cons, List.foldl_cons]
    rw [ih (k + 1) _ (by simp at h ⊢; omega)]
    have e := list_seg_step arr.toList k v l (by simp at h ⊢; omega)
    simp only [List.length_cons] at e ⊢
    simp only [Array.toList_setIfInBounds]
    simpa [Nat.add_assoc, Nat.add_comm 1] using e

theorem fill_sound (place : Nat → Option (Nat × Nat)) : ∀ (parts : List (Nat × AV R)) (rparts : List (Nat × Value)) (cells : List (AV R)) (real : Array Value) (out : List (AV R)),
    VRs ρ cells real.toList → parts.map (·.1) = rparts.map (·.1) → VRs ρ (parts.map (·.2)) (rparts.map (·.2)) → fillV place cells parts = some out →
    ∃ r, Instr.fill place real rparts = some r ∧ VRs ρ out r.toList
  | [], [], cells, real, out, hc, _, _, h => by
    simp only [fillV] at h; cases h; exact ⟨real, rfl, hc⟩
  | [], _ :: _, _, _, _, _, h1, _, _ => by simp at h1
  | _ :: _, [], _, _, _, _, h1, _, _ => by simp at h1
  | (i, a) :: ps, (j, v) :: rs, cells, real, out, hc, h1, h2, h => by
    simp only [List.map_cons, List.cons.injEq] at h1
    obtain ⟨rfl, h1⟩ := h1
    obtain ⟨ha, h2⟩ := h2
    simp only [fillV] at h
    simp only [Instr.fill]
    split at h
    · cases h
    · rename_i off size hp
      split at h
      · rename_i hcnd
        simp only [Bool.and_eq_true, decide_eq_true_eq] at hcnd
        have hac := cells_VRs ha (by simpa using hcnd.2)
        have hcnd := hcnd.1
        have hsz : v.cells.size = size := by rw [← hcnd.1]; simpa using hac.length.symm
        have hlen : cells.length = real.size := by simpa using hc.length
        have hcond : (decide (v.cells.size ≠ size) || decide (off + v.cells.size > real.size)) = false := by
          simp; omega
        simp only [hp, hcond, Bool.false_eq_true, if_false]
        have hfold : (v.cells.zipIdx.foldl (fun cs (x : Value × Nat) => cs.setIfInBounds (off + x.2) x.1) real).toList = real.toList.take off ++ (v.cells.toList ++ real.toList.drop (off + size)) := by
          have := foldl_set_splice v.cells.toList off real (by simp; omega)
          rw [← Array.foldl_toList, Array.toList_zipIdx]
          have e : v.cells.toList.zipIdx off = (v.cells.toList.zipIdx 0).map (fun p => (p.1, off + p.2)) := zipIdx_shift off _ 0
          rw [e, List.foldl_map] at this
          simpa [hsz] using this
        exact fill_sound place ps rs _ _ out (by
          rw [hfold]
          exact VRs.append (VRs.take off hc) (VRs.append hac (VRs.drop _ hc))) h1 h2 h
      · cases h

theorem places_sound {P : Program} (w : World) : ∀ (fs : List Field) (ps : List (Nat × Nat)), placesL P fs = some ps → (fs.mapM fun f => (do pure (f.offset, ← sizeOf f.type) : Sem (Nat × Nat))).run P w = .ok ps w
  | [], ps, h => by simp only [placesL] at h; cases h; rfl
  | f :: r, ps, h => by
    simp only [placesL] at h
    split at h
    · rename_i j l hj hl
      cases h
      have ih := places_sound w r l hl
      rw [List.mapM_cons]
      simp only [Sem.run_bind, run_size hj w, Result.andThen_ok, Sem.run_pure, ih]
    · cases h

theorem build_sound {P : Program} {w : World} {t : TypeId} {parts : List (Nat × AV R)} {rparts : Array (Nat × Value)} {a : AV R} (h1 : parts.map (·.1) = rparts.toList.map (·.1)) (h2 : VRs ρ (parts.map (·.2)) (rparts.toList.map (·.2)))
    (h : buildV P t parts = some a) : ∃ v, (Instr.build t rparts).run P w = .ok v w ∧ VR ρ a v := by
  unfold buildV at h
  split at h
  · cases h
  · rename_i zero hz
    obtain ⟨z, hzr, hzv⟩ := zero_sound (ρ := ρ) hz
    split at h
    · rename_i fields hu
      split at h
      · rename_i ps hps
        split at h
        · rename_i cs hf
          cases h
          obtain ⟨r, hr, hrv⟩ := fill_sound (fun i => ps[i]?) parts rparts.toList zero z.cells cs hzv h1 h2 hf
          refine ⟨.agg r, ?_, ⟨r, rfl, hrv⟩⟩
          have hm : (fields.mapM fun f => (do pure (f.offset, ← sizeOf f.type) : Sem (Nat × Nat))).run P w = .ok ps.toArray w := by
            rw [Array.mapM_eq_mapM_toList]
            simp only [Sem.run_map, places_sound w _ _ hps, Result.andThen_ok]
          unfold Instr.build
          simp only [Sem.run_bind, hzr w, Result.andThen_ok, run_underlying hu, hm]
          have : (fun i : Nat => ps.toArray[i]?) = (fun i => ps[i]?) := by funext i; simp
          rw [this, hr]
          rfl
        · cases h
      · cases h
    · rename_i n elem hu
      split at h
      · rename_i j hj
        split at h
        · rename_i cs hf
          cases h
          obtain ⟨r, hr, hrv⟩ := fill_sound _ parts rparts.toList zero z.cells cs hzv h1 h2 hf
          refine ⟨.agg r, ?_, ⟨r, rfl, hrv⟩⟩
          unfold Instr.build
          simp only [Sem.run_bind, hzr w, Result.andThen_ok, run_underlying hu, run_size hj w]
          rw [hr]
          rfl
        · cases h
      · cases h
    · cases h

end Go.Ev
/- Every operation. -/
namespace Go.Ev

variable {ρ : Nat → Option Nat}

theorem unOp_sound (P : Program) (w : World) (nx : Nat) (op : UnOp) {x : AV R} {vx : Value} (hx : VR ρ x vx) (out : Out R) (h : (unOpV nx op x).run = some out) : Pure1 P (Op.unary op vx) w ρ nx out := by
  unfold unOpV at h
  split at h
  · cases hx; exact .mk h rfl rfl (.refl w)
  · cases hx; exact .mk h rfl rfl (.refl w)
  · obtain ⟨b, rfl, hb, rfl⟩ := hx
    have := neg_cls b hb
    exact .mk h rfl ⟨_, rfl, this.2, this.1⟩ (.refl w)
  · obtain ⟨rfl, hb⟩ := hx
    exact .mk h (by simp only [Op.unary, Op.intArith]; rfl) ⟨rfl, okInt_wrap _ _⟩ (.refl w)
  · obtain ⟨rfl, hb⟩ := hx
    exact .mk h (by simp only [Op.unary, Op.intArith]; rfl) ⟨rfl, okInt_wrap _ _⟩ (.refl w)
  · cases h

theorem conv_int {P : Program} {w : World} {src dst : TypeId} {d : TypeDesc} {k j : IntKind} {n : Int} (hs : P.underlying src = some d) (hd : P.underlying dst = some (.int k)) :
    (convert src dst (.int j n)).run P w = .ok (.int k (k.wrap n)) w := by
  unfold convert
  simp only [Sem.run_bind, run_underlying hs, run_underlying hd, Result.andThen_ok]
  rfl

theorem conv_intFloat {P : Program} {w : World} {src dst : TypeId} {d : TypeDesc} {j : IntKind} {n : Int} (hs : P.underlying src = some d) (hd : P.underlying dst = some (.float .f64)) :
    (convert src dst (.int j n)).run P w = .ok (.float .f64 (FloatKind.f64.nearest n)) w := by
  unfold convert
  simp only [Sem.run_bind, run_underlying hs, run_underlying hd, Result.andThen_ok]
  rfl

theorem conv_floatFloat {P : Program} {w : World} {src dst : TypeId} {d : TypeDesc} {b : Nat} (hs : P.underlying src = some d) (hd : P.underlying dst = some (.float .f64)) :
    (convert src dst (.float .f64 b)).run P w = .ok (.float .f64 b) w :=
  run_convert_float_float w src dst .f64 .f64 b b (by rw [hs]; rfl) hd rfl

theorem conv_sound (P : Program) (w : World) (nx : Nat) (src dst : TypeId) {x : AV R} {vx : Value} (hx : VR ρ x vx) (out : Out R) (h : (convV P nx src dst x).run = some out) : Pure1 P (convert src dst vx) w ρ nx out := by
  unfold convV at h
  split at h
  · rename_i d k j n hs hd
    obtain ⟨rfl, hb⟩ := hx
    exact .mk h (conv_int hs hd) ⟨rfl, okInt_wrap _ _⟩ (.refl w)
  · rename_i d k j n hs hd
    obtain ⟨rfl, hb⟩ := hx
    exact .mk h (conv_int hs hd) ⟨rfl, okInt_wrap _ _⟩ (.refl w)
  · rename_i d j n hs hd
    obtain ⟨rfl, hb⟩ := hx
    exact .mk h (conv_intFloat hs hd) ⟨_, rfl, nearest_lt' n, rfl⟩ (.refl w)
  · rename_i d j n hs hd
    obtain ⟨rfl, hb⟩ := hx
    exact .mk h (conv_intFloat hs hd) ⟨_, rfl, nearest_lt' n, rfl⟩ (.refl w)
  · rename_i d k y hs hd
    obtain ⟨b, rfl, hb, rfl⟩ := hx
    rcases run_choose_some h with ⟨hok, h⟩ | ⟨_, h⟩
    · have e : flint (cls b) = (f64.read b).toInt .zero := flint_cls
      simp only at hok
      cases hi : flint (cls b) with
      | none => rw [hi] at hok; cases hok
      | some n =>
        rw [hi] at hok
        have hr : k.min ≤ n ∧ n ≤ k.max := of_decide_eq_true hok
        have hf : floatToIntVal .f64 b k = some n := by
          unfold floatToIntVal
          have : (FloatKind.f64.decode b).toInt .zero = some n := by rw [← hi, e]; rfl
          rw [this]; simp only [hr, and_self, if_true]
        refine .mk h (run_convert_float_int w src dst .f64 k b n (by rw [hs]; rfl) hd hf) ⟨?_, ?_⟩ (.refl w)
        · show Value.int k n = Value.int k ((flint (cls b)).getD 0)
          rw [hi]; rfl
        · show okInt k ((flint (cls b)).getD 0)
          rw [hi]; exact hr
    · cases h
  · rename_i d y hs hd
    obtain ⟨b, rfl, hb, rfl⟩ := hx
    exact .mk h (conv_floatFloat hs hd) ⟨b, rfl, hb, rfl⟩ (.refl w)
  · cases h

theorem part_sound {P : Program} {w : World} {t : TypeId} {blk : List (AV R)} {cs : Array Value} {off : Nat} {a : AV R} (hv : VRs ρ blk cs.toList) (h : partV P t blk off = some a) :
    ∃ v, (part t cs off).run P w = .ok v w ∧ VR ρ a v := by
  have many : ∀ (d : TypeDesc) (i : TypeInfo), P.underlying t = some d → aggD d = true → P.info? t = some i →
      (if off + i.size ≤ blk.length then some (AV.agg ((blk.drop off).take i.size)) else none) = some a → ∃ v, (part t cs off).run P w = .ok v w ∧ VR ρ a v := by
    intro d i hu hd hi hh
    split at hh
    · rename_i hle
      cases hh
      have hlen : blk.length = cs.size := by simpa using hv.length
      have hp := run_part hu hi cs off (by omega) (by rw [hd]; simp) w
      refine ⟨_, hp, ?_⟩
      unfold mkV
      rw [hd]
      exact ⟨_, rfl, by simpa using VRs.take i.size (VRs.drop off hv)⟩
    · cases hh
  unfold partV loadV at h
  split at h
  · rename_i fs hu
    split at h
    · rename_i i hi; exact many _ i hu rfl hi h
    · cases h
  · rename_i n e hu
    split at h
    · rename_i i hi; exact many _ i hu rfl hi h
    · cases h
  · rename_i d h1 h2 hu
    obtain ⟨v, hv1, hv2⟩ := hv.get h
    refine ⟨v, ?_, hv2⟩
    have hd : aggD d = false := by
      cases d <;> first | rfl | (exact (h1 _ rfl).elim) | (exact (h2 _ _ rfl).elim)
    have hv1' : cs[off]? = some v := by simpa using hv1
    unfold part
    simp only [Sem.run_bind, run_isAgg hu w, hd, Bool.false_eq_true, if_false, Result.andThen_ok, hv1', Sem.run_pure]
  · cases h

theorem field_sound (P : Program) (w : World) (nx : Nat) (t : TypeId) (f : Nat) {x : AV R} {vx : Value} (hx : VR ρ x vx) (out : Out R) (h : (valO nx "field" (fieldV P t x f)).run = some out) : Pure1 P (Instr.field t vx f) w ρ nx out := by
  refine .mkO h (fun b hb => ?_) (.refl w)
  unfold fieldV at hb
  split at hb
  · rename_i fields cs hu
    split at hb
    · rename_i fd hfd
      obtain ⟨xs, rfl, hxs⟩ := hx
      obtain ⟨v, h1, h2⟩ := part_sound (w := w) hxs hb
      refine ⟨v, ?_, h2⟩
      unfold Instr.field
      simp only [Sem.run_bind, run_underlying hu, Result.andThen_ok, hfd, asAgg, Sem.run_pure, h1]
    · cases hb
  · cases hb

theorem fieldAddr_sound (P : Program) (w : World) (nx : Nat) (t : TypeId) (f : Nat) {x : AV R} {vx : Value} (hx : VR ρ x vx) (out : Out R) (h : (valO nx "fieldAddr" (fieldAddrV P t x f)).run = some out) : Pure1 P (Instr.fieldAt t vx f) w ρ nx out := by
  refine .mkO h (fun b hb => ?_) (.refl w)
  unfold fieldAddrV at hb
  split at hb
  · rename_i fields n off hu
    split at hb
    · rename_i fd hfd
      split at hb
      · rename_i i hi
        split at hb
        · rename_i hsz
          cases hb
          obtain ⟨c, hc, rfl⟩ := hx
          refine ⟨.pointer (some ⟨c, off + fd.offset, none⟩), ?_, ⟨c, hc, rfl⟩⟩
          unfold Instr.fieldAt
          simp only [Sem.run_bind, run_underlying hu, Result.andThen_ok, hfd, Instr.sureAddr, Sem.run_pure, fieldPlace, run_size hi w, hsz, if_false, add_at]
        · cases hb
      · cases hb
    · cases hb
  · cases hb

/-- A chain of tests picks the one that fits. -/
theorem pickAt_sound (nx : Nat) (z : Int) (f : Nat → Option (AV R)) (out : Out R) : ∀ (n i : Nat), (pickAt (D := R) nx z f n i).run = some out → ∃ m, i ≤ m ∧ m < i + n ∧ z = (m : Int) ∧ (valO nx "index" (f m)).run = some out
  | 0, i, h => by cases h
  | n + 1, i, h => by
    simp only [pickAt] at h
    rcases run_choose_some h with ⟨hz, h⟩ | ⟨_, h⟩
    · exact ⟨i, Nat.le_refl _, by omega, by simpa [R] using hz, h⟩
    · obtain ⟨m, h1, h2, h3, h4⟩ := pickAt_sound nx z f out n (i + 1) h
      exact ⟨m, by omega, by omega, h3, h4⟩

theorem run_index {P : Program} {w : World} {t elem : TypeId} {len : Nat} {j : TypeInfo} {cs : Array Value} {k : IntKind} {n : Int} {v : Value} (hu : P.underlying t = some (.array len elem)) (hj : P.info? elem = some j)
    (hn : 0 ≤ n ∧ n < len) (hp : (part elem cs (n.toNat * j.size)).run P w = .ok v w) : (Instr.index t (.agg cs) (.int k n)).run P w = .ok v w := by
  unfold Instr.index
  simp only [Sem.run_bind, asIntOf, Sem.run_pure, Result.andThen_ok, run_underlying hu, hn, and_self, if_true, run_size hj w, hp]

theorem index_sound (P : Program) (w : World) (nx : Nat) (t : TypeId) {x i : AV R} {vx vi : Value} (hx : VR ρ x vx) (hi : VR ρ i vi) (out : Out R) (h : (indexV P nx t x i).run = some out) : Pure1 P (Instr.index t vx vi) w ρ nx out := by
  unfold indexV at h
  split at h
  · rename_i len elem cs hu
    obtain ⟨xs, rfl, hxs⟩ := hx
    split at h
    · rename_i j hj
      split at h
      · rename_i k n
        obtain ⟨rfl, _⟩ := hi
        split at h
        · rename_i hn
          refine .mkO h (fun b hb => ?_) (.refl w)
          obtain ⟨v, h1, h2⟩ := part_sound (w := w) hxs hb
          exact ⟨v, run_index hu hj hn h1, h2⟩
        · cases h
      · rename_i k z
        obtain ⟨rfl, _⟩ := hi
        obtain ⟨m, _, h2, h3, h4⟩ := pickAt_sound nx z _ out len 0 h
        refine .mkO h4 (fun b hb => ?_) (.refl w)
        obtain ⟨v, g1, g2⟩ := part_sound (w := w) hxs hb
        have h3' : (z : Int) = (m : Int) := h3
        refine ⟨v, run_index (n := z) hu hj (by rw [h3']; omega) ?_, g2⟩
        rw [h3']; exact g1
      · cases h
    · cases h
  · cases h

theorem run_indexAt_arr {P : Program} {w : World} {t elem : TypeId} {len : Nat} {j : TypeInfo} {k : IntKind} {n : Int} {c off : Nat} (hu : P.underlying t = some (.array len elem)) (hj : P.info? elem = some j)
    (hn : 0 ≤ n ∧ n < len) : (Instr.indexAt t (.pointer (some ⟨c, off, none⟩)) (.int k n)).run P w = .ok (.pointer (some ⟨c, off + n.toNat * j.size, none⟩)) w := by
  unfold Instr.indexAt
  simp only [Sem.run_bind, asIntOf, Sem.run_pure, Result.andThen_ok, run_underlying hu, Instr.sureAddr, hn, and_self, if_true, run_size hj w, add_at]

theorem run_indexAt_slice {P : Program} {w : World} {t elem : TypeId} {len cap : Nat} {j : TypeInfo} {k : IntKind} {n : Int} {c off : Nat} (hu : P.underlying t = some (.slice elem)) (hj : P.info? elem = some j)
    (hn : 0 ≤ n ∧ n < len) : (Instr.indexAt t (.slice (some ⟨c, off, none⟩) len cap) (.int k n)).run P w = .ok (.pointer (some ⟨c, off + n.toNat * j.size, none⟩)) w := by
  unfold Instr.indexAt
  simp only [Sem.run_bind, asIntOf, Sem.run_pure, Result.andThen_ok, run_underlying hu, hn, and_self, if_true, run_size hj w, add_at]

theorem indexAddr_sound (P : Program) (w : World) (nx : Nat) (t : TypeId) {x i : AV R} {vx vi : Value} (hx : VR ρ x vx) (hi : VR ρ i vi) (out : Out R) (h : (indexAddrV P nx t x i).run = some out) : Pure1 P (Instr.indexAt t vx vi) w ρ nx out := by
  unfold indexAddrV at h
  split at h
  · rename_i len elem n off k m hu
    obtain ⟨c, hc, rfl⟩ := hx
    obtain ⟨rfl, _⟩ := hi
    split at h
    · rename_i j hj
      split at h
      · rename_i hn
        exact .mk h (run_indexAt_arr hu hj hn) ⟨c, hc, rfl⟩ (.refl w)
      · cases h
    · cases h
  · rename_i len elem n off k z hu
    obtain ⟨c, hc, rfl⟩ := hx
    obtain ⟨rfl, _⟩ := hi
    split at h
    · rename_i j hj
      obtain ⟨m, _, h2, h3, h4⟩ := pickAt_sound nx z _ out len 0 h
      have h3' : (z : Int) = (m : Int) := h3
      refine .mkO h4 (fun b hb => ?_) (.refl w)
      cases hb
      refine ⟨_, run_indexAt_arr (n := z) hu hj (by rw [h3']; omega), ⟨c, hc, ?_⟩⟩
      rw [h3']; rfl
    · cases h
  · rename_i elem n off len cap k m hu
    obtain ⟨c, hc, rfl⟩ := hx
    obtain ⟨rfl, _⟩ := hi
    split at h
    · rename_i j hj
      split at h
      · rename_i hn
        exact .mk h (run_indexAt_slice hu hj hn) ⟨c, hc, rfl⟩ (.refl w)
      · cases h
    · cases h
  · cases h

theorem okInt_if {k : IntKind} {x y : Int} {c : Prop} [Decidable c] (hx : okInt k x) (hy : okInt k y) : okInt k (if c then x else y) := by split <;> assumption

theorem okInt_zmax {k : IntKind} {a b : Int} (ha : okInt k a) (hb : okInt k b) : okInt k (R.zmax a b) := by
  show okInt k (if b > a then b else a)
  exact okInt_if hb ha
theorem okInt_zmin {k : IntKind} {a b : Int} (ha : okInt k a) (hb : okInt k b) : okInt k (R.zmin a b) := by
  show okInt k (if b < a then b else a)
  exact okInt_if hb ha

theorem minmax_sound (P : Program) (nx : Nat) (isMax : Bool) (out : Out R) : ∀ (r : List (AV R)) (rs : List Value) (x : AV R) (v : Value) (w : World), VR ρ x v → VRs ρ r rs → (minmaxV isMax nx x r).run = some out →
    Pure1 P (rs.foldlM (if isMax then Builtin.max2 else Builtin.min2) v) w ρ nx out
  | [], [], x, v, w, hx, _, h => by
    unfold minmaxV at h
    exact .mk h (by simp only [List.foldlM_nil, Sem.run_pure]) hx (.refl w)
  | y :: r, u :: rs, x, v, w, hx, ⟨hy, hr⟩, h => by
    have go : ∀ (z : AV R) (vz : Value) (w' : World), ((if isMax then Builtin.max2 else Builtin.min2) v u).run P w = .ok vz w' → VR ρ z vz → SameW w w' → (minmaxV isMax nx z r).run = some out →
        Pure1 P ((u :: rs).foldlM (if isMax then Builtin.max2 else Builtin.min2) v) w ρ nx out := by
      intro z vz w' h1 h2 h3 h4
      obtain ⟨p1, p2, v2, w2, p3, p4, p5⟩ := minmax_sound P nx isMax out r rs z vz w' h2 hr h4
      refine ⟨p1, p2, v2, w2, ?_, p4, ⟨p5.heap.trans h3.heap, p5.os.trans h3.os, p5.tape.trans h3.tape, p5.output.trans h3.output⟩⟩
      rw [List.foldlM_cons, Sem.run_bind, h1]; exact p3
    unfold minmaxV at h
    split at h
    · rename_i he; cases he
    · rename_i a b r' he
      cases he
      obtain ⟨p, rfl, hp, rfl⟩ := hx
      obtain ⟨q, rfl, hq, rfl⟩ := hy
      cases isMax with
      | true =>
        obtain ⟨s, w', h1, h2, h3, h4⟩ := run_max2 P w p q hp hq
        exact go (.fl (flmax (cls p) (cls q))) _ w' h1 ⟨s, rfl, h2, h3⟩ h4 h
      | false =>
        obtain ⟨s, w', h1, h2, h3, h4⟩ := run_min2 P w p q hp hq
        exact go (.fl (flmin (cls p) (cls q))) _ w' h1 ⟨s, rfl, h2, h3⟩ h4 h
    · rename_i k a j b r' he
      cases he
      obtain ⟨rfl, hp⟩ := hx
      obtain ⟨rfl, hq⟩ := hy
      split at h
      · rename_i hk; subst hk
        cases isMax with
        | true => exact go (.ki k (if b > a then b else a)) _ w rfl ⟨rfl, okInt_if hq hp⟩ (.refl w) h
        | false => exact go (.ki k (if b < a then b else a)) _ w rfl ⟨rfl, okInt_if hq hp⟩ (.refl w) h
      · cases h
    · rename_i y' r' h1 h2 he
      cases he
      split at h
      · rename_i k a j b e1 e2
        obtain ⟨rfl, hp⟩ := VR.z_inv hx e1
        obtain ⟨rfl, hq⟩ := VR.z_inv hy e2
        split at h
        · rename_i hk; subst hk
          cases isMax with
          | true => exact go (.si k (R.zmax a b)) _ w rfl ⟨rfl, okInt_zmax hp hq⟩ (.refl w) h
          | false => exact go (.si k (R.zmin a b)) _ w rfl ⟨rfl, okInt_zmin hp hq⟩ (.refl w) h
        · cases h
      · cases h

end Go.Ev
/- Every operation, at the machine's own word for it. -/
namespace Go.Ev

/-- A call of function f, at the word that a region has for it. -/
def CF (P : Program) (f : FuncId) (args : Array Value) (w : World) (K : Value → World → Prop) : Prop :=
  match (callFunc f args).run P w with
  | .ok (.value v) w' => K v w'
  | .ok (.enter g as) w' => Calls P g as w' fun e w'' => ∃ v, e = .returned v ∧ K v w''
  | _ => False

def CallOK (P : Program) (call : CallFn R) : Prop :=
  ∀ f args h nx out, (call f args h nx).run = some out → ∀ (ρ : Nat → Option Nat) (w : World) (vals : Array Value), VRs ρ args vals.toList → HR ρ h w → Inj ρ w → Fresh ρ nx out.nx →
    CF P f vals w fun v w' => ∃ ρ', VR ρ' out.v v ∧ Step ρ ρ' w w' nx out.nx out.d h

section
variable {ρ : Nat → Option Nat} {P : Program} {o : Oper} {a : Act} {w : World} {nx : Nat} {h : Heap R} {out : Out R} {K : Act → World → Prop} {Q : Exit → Act → World → Prop}

theorem wp_value {v : Value} {w' : World} (hr : (execOp a.eval o).run P w = .ok (.value v) w') (hK : K (a.put o.dst v) w') : o.wp P a w K Q := by
  unfold Oper.wp; rw [hr]; exact hK

theorem wp_pure1 {s : Sem Value} (he : execOp a.eval o = (do pure (.value (← s)))) (hp : Pure1 P s w ρ nx out) (hH : HR ρ h w) (hI : Inj ρ w)
    (hK : ∀ ρ' v w', VR ρ' out.v v → Step ρ ρ' w w' nx out.nx out.d h → K (a.put o.dst v) w') : o.wp P a w K Q := by
  obtain ⟨h1, h2, v, w', h3, h4, h5⟩ := hp
  refine wp_value (v := v) (w' := w') ?_ (hK ρ v w' h4 ?_)
  · rw [he, Sem.run_bind, h3]; rfl
  · rw [h1, h2]; exact h5.step hH hI

theorem one_inv {a : AV R} {v : Value} (h : VRs ρ [a] [v]) : VR ρ a v := h.1
end

theorem zipParts_fst : ∀ (ps : List (Nat × Operand)) (vs : List (AV R)), ps.length = vs.length → (zipParts ps vs).map (·.1) = ps.map (·.1) ∧ (zipParts ps vs).map (·.2) = vs
  | [], [], _ => ⟨rfl, rfl⟩
  | [], _ :: _, h => by simp at h
  | _ :: _, [], h => by simp at h
  | (i, x) :: r, v :: s, h => by
    have := zipParts_fst r s (by simpa using h)
    simp [zipParts, this.1, this.2]

theorem cellsRep_length (z : List (AV R)) : ∀ n, (cellsRep n z).length = n * z.length
  | 0 => by simp [cellsRep]
  | n + 1 => by simp [cellsRep, cellsRep_length z n, Nat.succ_mul, Nat.add_comm]

theorem cellsRep_VRs {ρ : Nat → Option Nat} {z : List (AV R)} {vs : List Value} (hz : VRs ρ z vs) (hl : vs.length ≠ 0) : ∀ n, VRs ρ (cellsRep n z) ((List.range (n * vs.length)).map fun i => vs.toArray[i % vs.length]!)
  | 0 => by simp [cellsRep, VRs]
  | n + 1 => by
    have ih := cellsRep_VRs hz hl n
    have e : (List.range ((n + 1) * vs.length)).map (fun i => vs.toArray[i % vs.length]!) = vs ++ (List.range (n * vs.length)).map fun i => vs.toArray[i % vs.length]! := by
      rw [Nat.succ_mul, Nat.add_comm, List.range_add, List.map_append]
      congr 1
      · apply List.ext_getElem
        · simp
        · intro i h1 h2
          simp at h1
          simp [Nat.mod_eq_of_lt h1, h1]
      · rw [List.map_map]
        apply List.map_congr_left
        intro i _
        simp
    rw [e]
    exact VRs.append hz ih

theorem buildSlice_sound {ρ : Nat → Option Nat} {P : Program} {w : World} {t : TypeId} {len nx : Nat} {parts : List (Nat × AV R)} {rparts : Array (Nat × Value)} {c : List (AV R)} {h0 : Heap R} (hH : HR ρ h0 w) (hI : Inj ρ w) (hF : ρ nx = none)
    (h1 : parts.map (·.1) = rparts.toList.map (·.1)) (h2 : VRs ρ (parts.map (·.2)) (rparts.toList.map (·.2))) (h : buildSliceV P t len parts = some c) :
    ∃ v w' ρ', (Instr.buildSlice t len rparts).run P w = .ok v w' ∧ VR ρ' (.slice nx 0 len len) v ∧ Step ρ ρ' w w' nx (nx + 1) [(nx, c)] h0 := by
  unfold buildSliceV at h
  split at h
  · rename_i elem hu
    split at h
    · rename_i j z hj hz
      split at h
      · rename_i hc
        simp only [Bool.and_eq_true, decide_eq_true_eq, ne_eq] at hc
        obtain ⟨⟨⟨⟨c1, c2⟩, c3⟩, c4⟩, c5⟩ := hc
        obtain ⟨zv, hzr, hzv⟩ := zero_sound (ρ := ρ) hz
        have hzl : zv.cells.size = j.size := by rw [← c3]; simpa using hzv.length.symm
        have hzl' : zv.cells.toList.length = j.size := by simpa using hzl
        have hrep := cellsRep_VRs hzv (by rw [hzl']; exact c4) len
        rw [hzl'] at hrep
        have hmap : ((Array.range (len * j.size)).map (zv.cells[· % zv.cells.size]!)).toList = (List.range (len * j.size)).map fun i => zv.cells.toList.toArray[i % j.size]! := by
          simp [hzl]
        obtain ⟨r, hr, hrv⟩ := fill_sound (fun i => some (i * j.size, j.size)) parts rparts.toList (cellsRep len z) ((Array.range (len * j.size)).map (zv.cells[· % zv.cells.size]!)) c (by rw [hmap]; exact hrep) h1 h2 h
        obtain ⟨ρ', g1, g2, g3⟩ := Step.alloc (ty := elem) hH hI hF hrv
        refine ⟨.slice (some ⟨w.heap.size, 0, none⟩) len len, _, ρ', ?_, ⟨w.heap.size, g3, rfl⟩, g2⟩
        have hne : len * j.size ≠ 0 := Nat.mul_ne_zero c5 c4
        have hle : ¬ (len * j.size > 2 ^ 24) := by
          have := Nat.mul_le_mul c1 c2; omega
        unfold Instr.buildSlice
        simp only [Sem.run_bind, run_underlying hu, Result.andThen_ok, run_size hj w, if_neg hle, if_neg hne, hzr w, Sem.run_pure]
        rw [hr]
        rfl
      · cases h
    · cases h
  · cases h

theorem len_sound {ρ : Nat → Option Nat} (P : Program) (w : World) (nx : Nat) (b : Builtin) (argTypes : Array TypeId) (type : TypeId) (consts : Array Bool) {vs : List (AV R)} {vals : Array Value} (hv : VRs ρ vs vals.toList) (out : Out R)
    (h : (builtinV P nx b argTypes.toList vs).run = some out) : ∃ s, builtin b argTypes type consts vals = (do pure (.value (← s))) ∧ Pure1 P s w ρ nx out := by
  unfold builtinV at h
  have hat : ∀ {t : TypeId} {r : List TypeId}, argTypes.toList = t :: r → argTypes[0]? = some t := by
    intro t r e
    rw [← Array.getElem?_toList, e]; rfl
  have hsl : ∀ {t : TypeId}, isSliceT P t = true → ∃ e, P.underlying t = some (.slice e) := by
    intro t ht
    unfold isSliceT at ht
    revert ht
    cases P.underlying t with
    | none => simp
    | some d => cases d <;> simp
  split at h
  · rename_i n off l c
    obtain ⟨v, ws, e, h1, h2⟩ := hv.cons_inv
    have := h2.nil_inv; subst this
    obtain ⟨bb, hbb, rfl⟩ := h1
    have hvals : vals[0]? = some (.slice (some ⟨bb, off, none⟩) l c) := by rw [← Array.getElem?_toList, e]; rfl
    refine ⟨Builtin.len_ argTypes type vals, rfl, ?_⟩
    split at h
    · rename_i t r hte
      split at h
      · rename_i hc
        obtain ⟨el, hu⟩ := hsl hc
        split at h
        · rename_i hl
          refine .mk h (v := .int .i64 l) (w' := w) ?_ ⟨rfl, ?_⟩ (.refl w)
          · unfold Builtin.len_
            simp only [hat hte, hvals, Sem.run_bind, run_underlying hu, Result.andThen_ok]
            rfl
          · refine ⟨?_, ?_⟩
            · have : IntKind.i64.min = -9223372036854775808 := by decide
              rw [this]; omega
            · have : IntKind.i64.max = 9223372036854775807 := by decide
              rw [this]; omega
        · cases h
      · cases h
    · cases h
  · obtain ⟨v, ws, e, h1, h2⟩ := hv.cons_inv
    have := h2.nil_inv; subst this
    cases h1
    have hvals : vals[0]? = some (.slice none 0 0) := by rw [← Array.getElem?_toList, e]; rfl
    refine ⟨Builtin.len_ argTypes type vals, rfl, ?_⟩
    split at h
    · rename_i t r hte
      split at h
      · rename_i hc
        obtain ⟨el, hu⟩ := hsl hc
        refine .mk h (v := .int .i64 0) (w' := w) ?_ ⟨rfl, by unfold okInt; decide⟩ (.refl w)
        unfold Builtin.len_
        simp only [hat hte, hvals, Sem.run_bind, run_underlying hu, Result.andThen_ok]
        rfl
      · cases h
    · cases h
  · rename_i x r
    obtain ⟨v, ws, e, h1, h2⟩ := hv.cons_inv
    refine ⟨Builtin.max_ argTypes type vals, rfl, ?_⟩
    have := minmax_sound P nx true out r ws x v w h1 h2 h
    unfold Builtin.max_
    rw [e]
    exact this
  · rename_i x r
    obtain ⟨v, ws, e, h1, h2⟩ := hv.cons_inv
    refine ⟨Builtin.min_ argTypes type vals, rfl, ?_⟩
    have := minmax_sound P nx false out r ws x v w h1 h2 h
    unfold Builtin.min_
    rw [e]
    exact this
  · cases h

section
variable {ρ : Nat → Option Nat} {P : Program} {a : Act} {w : World} {nx : Nat} {h : Heap R} {out : Out R} {K : Act → World → Prop} {Q : Exit → Act → World → Prop}

theorem mapSnd (f : Operand → Value) (ps : Array (Nat × Operand)) : ((ps.map fun (i, x) => (i, f x)).toList.map (·.1) = ps.toList.map (·.1)) ∧ ((ps.map fun (i, x) => (i, f x)).toList.map (·.2) = (ps.toList.map (·.2)).map f) := by
  constructor <;> simp

theorem evOpV_sound {call : CallFn R} (hc : CallOK P call) (o : Oper) {vs : List (AV R)} (hr : (evOpV P call o.op vs h nx).run = some out) (hv : VRs ρ vs (o.op.operands.toList.map a.eval))
    (hH : HR ρ h w) (hI : Inj ρ w) (hF : Fresh ρ nx out.nx) (hK : ∀ ρ' v w', VR ρ' out.v v → Step ρ ρ' w w' nx out.nx out.d h → K (a.put o.dst v) w') : o.wp P a w K Q := by
  obtain ⟨dst, op, type, pos, after, guard⟩ := o
  cases op <;> simp only [evOpV] at hr <;> first | (cases hr; done) | skip
  case move x =>
    split at hr
    · obtain ⟨v, ws, e, h1, h2⟩ := hv.cons_inv
      simp only [Op.operands, List.map_cons, List.map_nil, List.cons.injEq] at e
      refine wp_pure1 (s := pure (a.eval x)) (by simp only [execOp]; rfl) (.mk hr rfl (e.1 ▸ h1) (.refl w)) hH hI hK
    · cases hr
  case assign x =>
    split at hr
    · obtain ⟨v, ws, e, h1, h2⟩ := hv.cons_inv
      simp only [Op.operands, List.map_cons, List.map_nil, List.cons.injEq] at e
      refine wp_pure1 (s := pure (a.eval x)) (by simp only [execOp]; rfl) (.mk hr rfl (e.1 ▸ h1) (.refl w)) hH hI hK
    · cases hr
  case pick c x y =>
    simp only [Op.operands, List.map_cons, List.map_nil] at hv
    split at hr
    · rename_i b p q
      obtain ⟨h1, h2, h3, _⟩ := hv
      refine wp_pure1 (s := pure (if b then a.eval x else a.eval y)) ?_ (.mk hr rfl ?_ (.refl w)) hH hI hK
      · have h1' : a.eval c = .bool b := h1
        simp only [execOp, h1', asBool, pure_bind]
      · cases b
        · exact h3
        · exact h2
    · rename_i b p q
      obtain ⟨h1, h2, h3, _⟩ := hv
      have h1' : a.eval c = .bool b := h1
      split at hr
      · rename_i v hj
        cases b with
        | true =>
          refine wp_pure1 (s := pure (a.eval x)) ?_ (.mk hr rfl (join2_true _ _ _ hj _ _ h2) (.refl w)) hH hI hK
          simp only [execOp, h1', asBool, pure_bind]; rfl
        | false =>
          refine wp_pure1 (s := pure (a.eval y)) ?_ (.mk hr rfl (join2_false _ _ _ hj _ _ h3) (.refl w)) hH hI hK
          simp only [execOp, h1', asBool, pure_bind]; rfl
      · rcases run_choose_some hr with ⟨rfl, hr⟩ | ⟨rfl, hr⟩
        · refine wp_pure1 (s := pure (a.eval x)) ?_ (.mk hr rfl h2 (.refl w)) hH hI hK
          simp only [execOp, h1', asBool, pure_bind]; rfl
        · refine wp_pure1 (s := pure (a.eval y)) ?_ (.mk hr rfl h3 (.refl w)) hH hI hK
          simp only [execOp, h1', asBool, pure_bind]; rfl
    · cases hr
  case alloc e =>
    split at hr
    · rename_i z hz
      have : out = ⟨.ptr nx 0, [(nx, z)], nx + 1⟩ := (Option.some.inj hr).symm
      subst this
      obtain ⟨zv, hzr, hzv⟩ := zero_sound (ρ := ρ) hz
      obtain ⟨ρ', g1, g2, g3⟩ := Step.alloc (ty := e) hH hI (hF nx (Nat.le_refl _) (Nat.lt_succ_self _)) hzv
      refine wp_value (v := .pointer (some ⟨w.heap.size, 0, none⟩)) ?_ (hK ρ' _ _ g1 g2)
      simp only [execOp, Instr.alloc, Sem.run_bind, hzr w, Result.andThen_ok, newVar, newRow, newObj]
      rfl
    · cases hr
  case box e x =>
    split at hr
    · rename_i u
      obtain ⟨v, ws, ee, h1, h2⟩ := hv.cons_inv
      simp only [Op.operands, List.map_cons, List.map_nil, List.cons.injEq] at ee
      split at hr
      case isTrue => cases hr
      rename_i hna
      have : out = ⟨.ptr nx 0, [(nx, u.cells)], nx + 1⟩ := (Option.some.inj hr).symm
      subst this
      have h1' : VR ρ u (a.eval x) := ee.1 ▸ h1
      obtain ⟨ρ', g1, g2, g3⟩ := Step.alloc (ty := e) hH hI (hF nx (Nat.le_refl _) (Nat.lt_succ_self _)) (cells_VRs h1' (by simpa using hna))
      refine wp_value (v := .pointer (some ⟨w.heap.size, 0, none⟩)) ?_ (hK ρ' _ _ g1 g2)
      simp only [execOp, Instr.box, Sem.run_bind, newVar, newRow, newObj]
      rfl
    · cases hr
  case build t ps =>
    have hl : ps.toList.length = vs.length := by
      have := hv.length
      simp [Op.operands] at this ⊢; omega
    have hz := zipParts_fst ps.toList vs hl
    have hm := mapSnd a.eval ps
    refine wp_pure1 (s := Instr.build t (ps.map fun (i, x) => (i, a.eval x))) (by simp only [execOp]) (.mkO hr (fun b hb => ?_) (.refl w)) hH hI hK
    exact build_sound (by rw [hz.1, hm.1]) (by rw [hz.2, hm.2]; simpa [Op.operands] using hv) hb
  case buildSlice t n ps =>
    split at hr
    · rename_i c hb
      have hl : ps.toList.length = vs.length := by
        have := hv.length
        simp [Op.operands] at this ⊢; omega
      have hz := zipParts_fst ps.toList vs hl
      have hm := mapSnd a.eval ps
      have : out = ⟨.slice nx 0 n n, [(nx, c)], nx + 1⟩ := (Option.some.inj hr).symm
      subst this
      obtain ⟨v, w', ρ', g1, g2, g3⟩ := buildSlice_sound (rparts := ps.map fun (i, x) => (i, a.eval x)) hH hI (hF nx (Nat.le_refl _) (Nat.lt_succ_self _)) (by rw [hz.1, hm.1]) (by rw [hz.2, hm.2]; simpa [Op.operands] using hv) hb
      refine wp_value (v := v) (w' := w') ?_ (hK ρ' _ _ g2 g3)
      simp only [execOp, Sem.run_bind, g1, Result.andThen_ok, Sem.run_pure]
    · cases hr
  case load t x =>
    split at hr
    · rename_i n off
      split at hr
      · rename_i blk hg
        obtain ⟨v, ws, ee, h1, h2⟩ := hv.cons_inv
        simp only [Op.operands, List.map_cons, List.map_nil, List.cons.injEq] at ee
        obtain ⟨b, hb, rfl⟩ := h1
        obtain ⟨b', cs, ty, k1, k2, k3⟩ := hH n blk hg
        rw [k1] at hb; cases hb
        refine wp_pure1 (s := Instr.loadAt t (a.eval x)) (by simp only [execOp]) (.mkO hr (fun u hu => ?_) (.refl w)) hH hI hK
        obtain ⟨v, g1, g2⟩ := load_sound k2 k3 hu
        exact ⟨v, by rw [ee.1]; simpa only [Instr.loadAt, Instr.sureAddr, Sem.run_bind, Sem.run_pure, Result.andThen_ok] using g1, g2⟩
      · cases hr
    · cases hr
  case store t x y =>
    simp only [Op.operands, List.map_cons, List.map_nil] at hv
    split at hr
    · rename_i n off u
      split at hr
      · rename_i blk hg
        split at hr
        · rename_i blk' hs
          obtain ⟨h1, h2, _⟩ := hv
          obtain ⟨b, hb, hx⟩ := h1
          obtain ⟨b', cs, ty, k1, k2, k3⟩ := hH n blk hg
          rw [k1] at hb; cases hb
          have : out = ⟨.undef, [(n, blk')], nx⟩ := (Option.some.inj hr).symm
          subst this
          obtain ⟨w', g1, g2⟩ := store_sound (nx := nx) hH hI k1 k2 k3 h2 hs
          have := hK ρ undef w' rfl g2
          unfold Oper.wp
          simp only [execOp, hx, Instr.storeAt, Instr.sureAddr, Sem.run_bind, Sem.run_pure, Result.andThen_ok, g1]
          exact this
        · cases hr
      · cases hr
    · cases hr
  case nilCheck x =>
    simp only [Op.operands, List.map_cons, List.map_nil] at hv
    split at hr
    · obtain ⟨h1, _⟩ := hv
      obtain ⟨b, hb, hx⟩ := h1
      refine wp_pure1 (s := pure (a.eval x)) (by simp only [execOp, hx]; rfl) (.mk hr rfl ⟨b, hb, hx⟩ (.refl w)) hH hI hK
    · obtain ⟨h1, _⟩ := hv
      obtain ⟨xs, ys, hx, hh⟩ := h1
      refine wp_pure1 (s := pure (a.eval x)) (by simp only [execOp, hx]; rfl) (.mk hr rfl ⟨xs, ys, hx, hh⟩ (.refl w)) hH hI hK
    · cases hr
  case binOp op t x y u =>
    simp only [Op.operands, List.map_cons, List.map_nil] at hv
    split at hr
    · obtain ⟨h1, h2, _⟩ := hv
      exact wp_pure1 (s := do eqGuard op t x y (a.eval x) (a.eval y); binOp op t (a.eval x) (a.eval y)) (by simp only [execOp]) (binOp_sound P w nx op t x y h1 h2 out hr) hH hI hK
    · cases hr
  case unOp op t x =>
    simp only [Op.operands, List.map_cons, List.map_nil] at hv
    split at hr
    · obtain ⟨h1, _⟩ := hv
      exact wp_pure1 (s := Op.unary op (a.eval x)) (by simp only [execOp]) (unOp_sound P w nx op h1 out hr) hH hI hK
    · cases hr
  case convert s d x =>
    simp only [Op.operands, List.map_cons, List.map_nil] at hv
    split at hr
    · obtain ⟨h1, _⟩ := hv
      exact wp_pure1 (s := convert s d (a.eval x)) (by simp only [execOp]) (conv_sound P w nx s d h1 out hr) hH hI hK
    · cases hr
  case makeFunc fn first captured =>
    simp only [Op.operands, Array.toList_append, List.map_append] at hv
    split at hr
    · rename_i f
      refine wp_pure1 (s := Instr.makeFunc (.func f) (first.map a.eval) (captured.map a.eval)) (by simp only [execOp]) (.mk hr rfl ?_ (.refl w)) hH hI hK
      refine ⟨_, _, rfl, ?_, ?_⟩
      · have := VRs.take first.size hv
        simpa [List.take_append] using this
      · have := VRs.drop first.size hv
        simpa [List.drop_append] using this
    · cases hr
  case fieldAddr t x f =>
    simp only [Op.operands, List.map_cons, List.map_nil] at hv
    split at hr
    · obtain ⟨h1, _⟩ := hv
      exact wp_pure1 (s := Instr.fieldAt t (a.eval x) f) (by simp only [execOp]) (fieldAddr_sound P w nx t f h1 out hr) hH hI hK
    · cases hr
  case field t x f =>
    simp only [Op.operands, List.map_cons, List.map_nil] at hv
    split at hr
    · obtain ⟨h1, _⟩ := hv
      exact wp_pure1 (s := Instr.field t (a.eval x) f) (by simp only [execOp]) (field_sound P w nx t f h1 out hr) hH hI hK
    · cases hr
  case indexAddr t x i =>
    simp only [Op.operands, List.map_cons, List.map_nil] at hv
    split at hr
    · obtain ⟨h1, h2, _⟩ := hv
      exact wp_pure1 (s := Instr.indexAt t (a.eval x) (a.eval i)) (by simp only [execOp]) (indexAddr_sound P w nx t h1 h2 out hr) hH hI hK
    · cases hr
  case index t x i =>
    simp only [Op.operands, List.map_cons, List.map_nil] at hv
    split at hr
    · obtain ⟨h1, h2, _⟩ := hv
      exact wp_pure1 (s := Instr.index t (a.eval x) (a.eval i)) (by simp only [execOp]) (index_sound P w nx t h1 h2 out hr) hH hI hK
    · cases hr
  case extract x i =>
    simp only [Op.operands, List.map_cons, List.map_nil] at hv
    split at hr
    · obtain ⟨h1, _⟩ := hv
      obtain ⟨xs, hx, hxs⟩ := h1
      refine wp_pure1 (s := Instr.extract (a.eval x) i) (by simp only [execOp]) (.mkO hr (fun u hu => ?_) (.refl w)) hH hI hK
      obtain ⟨v, g1, g2⟩ := hxs.get hu
      refine ⟨v, ?_, g2⟩
      have : xs[i]? = some v := by simpa using g1
      simp only [hx, Instr.extract, this, Sem.run_pure]
    · cases hr
  case call c =>
    split at hr
    · rename_i vs' fo f first cap args hcal
      simp only [Op.operands, Call.operands, hcal, Array.toList_append, List.map_cons, List.cons_append, List.nil_append] at hv
      obtain ⟨hf, hargs⟩ := hv
      obtain ⟨xs, ys, hx, h1, h2⟩ := hf
      have hvals : VRs ρ (first ++ (args ++ cap)) (xs ++ (c.args.map a.eval) ++ ys).toList := by
        simp only [Array.toList_append, List.append_assoc]
        exact VRs.append h1 (VRs.append (by simpa using hargs) h2)
      have := hc f (first ++ (args ++ cap)) h nx out hr ρ w _ hvals hH hI hF
      have he : execOp a.eval ⟨dst, .call c, type, pos, after, guard⟩ = callFunc f (xs ++ (c.args.map a.eval) ++ ys) := by
        simp only [execOp, resolve, hcal, hx, Deferred.ofValue, invoke, pure_bind]
      unfold Oper.wp
      rw [he]
      unfold CF at this
      split at this
      · rename_i v w' hrun
        rw [hrun]
        obtain ⟨ρ', k1, k2⟩ := this
        exact hK ρ' v w' k1 k2
      · rename_i g as w' hrun
        rw [hrun]
        refine Calls.mono this fun e w'' he => ?_
        obtain ⟨v, rfl, ρ', k1, k2⟩ := he
        exact hK ρ' v w'' k1 k2
      · exact this.elim
    · rename_i b hcal
      obtain ⟨s, hs, hp⟩ := len_sound P w nx b c.argTypes type (c.args.map fun | .const _ => true | _ => false) (vals := c.args.map a.eval) (by simpa [Op.operands, Call.operands, hcal] using hv) out hr
      refine wp_pure1 (s := s) ?_ hp hH hI hK
      simp only [execOp, resolve, hcal, invoke, pure_bind]
      exact hs
    · cases hr

end

end Go.Ev
