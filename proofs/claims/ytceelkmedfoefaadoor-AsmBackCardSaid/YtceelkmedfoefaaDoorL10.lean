import Derived.OrdersHeld
import Derived.Deep.RegionHeld
/-! A region that draws its order, whose LAST stores hit cells that it loads: what a load reads need hold only till the stores, which wait for it. -/
set_option linter.unusedVariables false
namespace Go.Proofs.YtceelkmedfoefaaDoor
variable {P : Program} {ops : Array Oper} {Q : Exit → Act → World → Prop} {S : World → Prop} {md : Region.Mode} {late : Nat → Bool}

/-- Whatever order is picked: S holds behind each operation that is not late. -/
def Late (P : Program) (md : Region.Mode) (ops : Array Oper) (Q : Exit → Act → World → Prop) (S : World → Prop) (late : Nat → Bool) : Nat → Array Bool → Act → World → Prop
  | 0, listed, a, w => Region.ready md ops listed = [] ∧ Q .normal a w
  | fuel + 1, listed, a, w =>
    (Region.ready md ops listed = [] → Q .normal a w) ∧
    ∀ j ∈ Region.ready md ops listed, wpOp P ops Q j (fun a' w' => (late j = false → S w') ∧ Late P md ops Q S late fuel (listed.setIfInBounds j true) a' w') a w
theorem Late.any : ∀ (fuel : Nat) (listed : Array Bool) (a : Act) (w : World), Late P md ops Q S late fuel listed a w → wpAny P md ops Q fuel listed a w
  | 0, _, _, _, h => h
  | fuel + 1, _, _, _, h => ⟨h.1, fun j hj => wpOp_mono (fun a' w' h' => Late.any fuel _ a' w' h'.2) (h.2 j hj)⟩
theorem Late.done {listed : Array Bool} {a : Act} {w : World} (hr : Region.ready md ops listed = []) (h : Q .normal a w) : ∀ fuel, Late P md ops Q S late fuel listed a w
  | 0 => ⟨hr, h⟩
  | _ + 1 => ⟨fun _ => h, by rw [hr]; simp⟩
/-- Every late operation that has not come up waits for number i, by its own row. -/
def waitsLate (md : Region.Mode) (ops : Array Oper) (late : Nat → Bool) (listed : Array Bool) (i : Nat) : Bool :=
  (List.range ops.size).all fun j => !late j || listed.getD j true || (match ops[j]? with | some o => o.after.any (fun e => Region.binds md e && e.on == i) | none => true)
theorem waitsLate_spec {i j : Nat} {oj : Oper} {listed : Array Bool} (h : waitsLate md ops late listed i = true) (hj : ops[j]? = some oj) (hu : listed.getD j true = false) (hn : ∀ e ∈ oj.after, Region.binds md e = true → e.on ≠ i) : late j = false := by
  unfold waitsLate at h
  rw [List.all_eq_true] at h
  have h1 := h j (List.mem_range.2 (Array.getElem?_eq_some_iff.1 hj).1)
  rw [hj, hu] at h1
  cases hl : late j with
  | false => rfl
  | true =>
    rw [hl] at h1
    simp only [Bool.not_true, Bool.false_or] at h1
    obtain ⟨e, he, hb⟩ := Array.any_eq_true'.1 h1
    simp only [Bool.and_eq_true, beq_iff_eq] at hb
    exact absurd hb.2 (hn e he hb.1)
theorem Late.first {S' : World → Prop} {i : Nat} {oi : Oper} {v : Value} (hi : ops[i]? = some oi) (hs : Region.noSelect ops = true) (hi2 : late i = false → ∀ w, S' w → S w)
    (hQ : ∀ c a w, Q (.panic c) (a.put oi.dst v) w → Q (.panic c) a w) : ∀ (fuel : Nat) (listed : Array Bool) (a : Act) (w : World),
      (∀ j oj, ops[j]? = some oj → listed.getD j true = false → (∀ e ∈ oj.after, Region.binds md e = true → e.on ≠ i) → ∀ w', (late j = false → S w') → S' w') →
      (∀ j oj, ops[j]? = some oj → j ≠ i → listed.getD j true = false → (∀ e ∈ oj.after, Region.binds md e = true → e.on ≠ i) → oi.apart ops oj = true) →
      i ∈ Region.ready md ops listed → YieldsIf P ops S' oi v a → S' w →
      Late P md ops Q S late fuel (listed.setIfInBounds i true) (a.put oi.dst v) w → Late P md ops Q S late (fuel + 1) listed a w := by
  have hsel := Region.noSelect_spec hs
  intro fuel
  induction fuel with
  | zero =>
    intro listed a w _ _ hr hy hS H
    refine ⟨fun h => (by rw [h] at hr; cases hr), fun j hj => ?_⟩
    rcases Nat.decEq j i with hji | hji
    · have := ready_mono hj hji
      rw [H.1] at this
      cases this
    · subst hji; exact hy.wpOp hi hS ⟨fun h => hi2 h _ hS, H⟩
  | succ fuel ih =>
    intro listed a w hl hfree hr hy hS H
    refine ⟨fun h => (by rw [h] at hr; cases hr), fun j hj => ?_⟩
    rcases Nat.decEq j i with hji | hji
    · obtain ⟨hjun, oj, hoj, hall⟩ := mem_ready.1 hj
      have hnot : ∀ e ∈ oj.after, Region.binds md e = true → e.on ≠ i := by
        intro e he hb heq
        have k1 := hall e he hb
        have k0 := (mem_ready.1 hr).1
        rw [heq] at k1
        by_cases hsz : i < listed.size
        · simp [hsz] at k0 k1; rw [k0] at k1; cases k1
        · simp [Array.getElem?_eq_none (Nat.le_of_not_lt hsz)] at k1
      have hback : ∀ k, (listed.setIfInBounds j true).getD k true = false → listed.getD k true = false := by
        intro k hun
        rcases Nat.decEq j k with hjk | hjk
        · rw [getD_set_ne true hjk] at hun; exact hun
        · subst hjk; exact hjun
      have h2 := wpOp_putIf hoj (hfree j oj hoj hji hjun hnot) (fun cs b => hsel i oi cs b hi) (fun cs b => hsel j oj cs b hoj) hQ hy (H.2 j (ready_mono hj hji))
      refine wpOp_mono (fun a' w' h3 => ⟨h3.2.1, ih (listed.setIfInBounds j true) a' w' (fun k ok hk hun => hl k ok hk (hback k hun)) ?_ (ready_mono hr (Ne.symm hji)) h3.1 (hl j oj hoj hjun hnot w' h3.2.1) ?_⟩) h2
      · intro k ok hk hki hun hno
        exact hfree k ok hk hki (hback k hun) hno
      · rw [Array.setIfInBounds_comm _ _ hji]
        exact h3.2.2
    · subst hji; exact hy.wpOp hi hS ⟨fun h => hi2 h _ hS, H⟩
/-- Take ahead what yields in whatever world. -/
theorem Late.take {i : Nat} {oi : Oper} {v : Value} {fuel : Nat} {listed : Array Bool} {a : Act} {w : World} (hi : ops[i]? = some oi) (hs : Region.noSelect ops = true) (hl : late i = true)
    (hf : Region.free md ops listed i = true) (hr : (Region.ready md ops listed).contains i = true) (hQ : ∀ c a w, Q (.panic c) (a.put oi.dst v) w → Q (.panic c) a w) (hy : YieldsIf P ops (fun _ => True) oi v a)
    (h : Late P md ops Q S late fuel (listed.setIfInBounds i true) (a.put oi.dst v) w) : Late P md ops Q S late (fuel + 1) listed a w :=
  Late.first (S' := fun _ => True) hi hs (fun e => by rw [hl] at e; cases e) hQ fuel listed a w (fun _ _ _ _ _ _ _ => trivial) (Region.free_spec hi hf) (by simpa using hr) hy trivial h
/-- Take a load ahead. -/
theorem Late.load {i : Nat} {oi : Oper} {v : Value} {fuel : Nat} {listed : Array Bool} {a : Act} {w : World} (hi : ops[i]? = some oi) (hs : Region.noSelect ops = true) (hl : waitsLate md ops late listed i = true)
    (hf : Region.free md ops listed i = true) (hr : (Region.ready md ops listed).contains i = true) (hQ : ∀ c a w, Q (.panic c) (a.put oi.dst v) w → Q (.panic c) a w) (hy : YieldsIf P ops S oi v a) (hS : S w)
    (h : Late P md ops Q S late fuel (listed.setIfInBounds i true) (a.put oi.dst v) w) : Late P md ops Q S late (fuel + 1) listed a w :=
  Late.first (S' := S) hi hs (fun _ _ h => h) hQ fuel listed a w (fun j oj hj hu hn w' hw => hw (waitsLate_spec hl hj hu hn)) (Region.free_spec hi hf) (by simpa using hr) hy hS h
/-- One that comes up next. -/
theorem Late.ready1 {i : Nat} {o : Oper} {fuel : Nat} {listed : Array Bool} {a : Act} {w : World} (hr : Region.ready md ops listed = [i]) (ho : ops[i]? = some o)
    (h : ∀ K' : Act → World → Prop, Shut (∀ a w, (late i = false → S w) → Late P md ops Q S late fuel (listed.setIfInBounds i true) a w → K' a w) → if Region.wanted o (yielded ops a.tmps) = true then Oper.wp P o a w K' Q else K' (a.put o.dst undef) w) :
    Late P md ops Q S late (fuel + 1) listed a w :=
  ⟨fun h0 => (by rw [hr] at h0; cases h0), fun j hj => by
    rw [hr] at hj; simp at hj; subst hj
    exact wpOp_step ho (fun K' hK => h K' (fun a w h1 h2 => hK a w ⟨h1, h2⟩))⟩
theorem Late.ready2 {i k : Nat} {o o2 : Oper} {fuel : Nat} {listed : Array Bool} {a : Act} {w : World} (hr : Region.ready md ops listed = [i, k]) (ho : ops[i]? = some o) (ho2 : ops[k]? = some o2)
    (h : ∀ K' : Act → World → Prop, Shut (∀ a w, (late i = false → S w) → Late P md ops Q S late fuel (listed.setIfInBounds i true) a w → K' a w) → if Region.wanted o (yielded ops a.tmps) = true then Oper.wp P o a w K' Q else K' (a.put o.dst undef) w)
    (h2 : ∀ K' : Act → World → Prop, Shut (∀ a w, (late k = false → S w) → Late P md ops Q S late fuel (listed.setIfInBounds k true) a w → K' a w) → if Region.wanted o2 (yielded ops a.tmps) = true then Oper.wp P o2 a w K' Q else K' (a.put o2.dst undef) w) :
    Late P md ops Q S late (fuel + 1) listed a w :=
  ⟨fun h0 => (by rw [hr] at h0; cases h0), fun j hj => by
    rw [hr] at hj; simp at hj
    rcases hj with rfl | rfl
    · exact wpOp_step ho (fun K' hK => h K' (fun a w h1 h2 => hK a w ⟨h1, h2⟩))
    · exact wpOp_step ho2 (fun K' hK => h2 K' (fun a w h1 h2 => hK a w ⟨h1, h2⟩))⟩
theorem Late.region {id : Nat} {a : Act} {w : World} (hm : P.follows .mixedOrders = true)
    (h : Late P .any ops Q S late ops.size (Array.replicate ops.size false) a w.drew) : (Code.region id ops true).wp P Q a w :=
  wp_region_any hm (Late.any _ _ _ _ h)

end Go.Proofs.YtceelkmedfoefaaDoor
