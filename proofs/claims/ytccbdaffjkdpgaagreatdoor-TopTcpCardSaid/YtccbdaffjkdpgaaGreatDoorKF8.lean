/-
  The frame of the row that lists seven variables; no goroutine is started.
-/
import Derived.Test.YtccbdaffjkdpgaaGreatDoorRows
import Derived.Test.YtccbdaffjkdpgaaGreatDoorFrameG
import Derived.Test.YtccbdaffjkdpgaaGreatDoorHead
import GoSem.ClaimGoes
import Derived.HandedShaped
import Derived.Shelf.Vars
import Derived.Lay
import Derived.MakeChecks
import Derived.Stop.Joined
import Derived.Test.YtccbdaffjkdpgaaGreatDoorTs2
namespace Go.Proofs.YtccbdaffjkdpgaaGreatDoor
open Go.ChangeShapes Go.WideShapes Go.ChangeAt Go.RowKit

def laid7 : List (String × DataW Unit) := [("unicode/utf8.first", Rows.laid_unicode_utf8_first), ("unicode/utf8.acceptRanges", Rows.laid_unicode_utf8_acceptRanges), ("strconv.ErrSyntax", Rows.laid_strconv_ErrSyntax), ("strconv.ErrRange", Rows.laid_strconv_ErrRange), ("internal/strconv.uint64pow10", Rows.laid_internal_strconv_uint64pow10), ("math/bits.deBruijn32tab", Rows.laid_math_bits_deBruijn32tab), ("math/bits.deBruijn64tab", Rows.laid_math_bits_deBruijn64tab)]

set_option maxHeartbeats 16000000
/-- a type's name, but for whether another bears it -/
def nameUp (P : Program) : Nat → TypeId → Option String
  | 0, _ => none
  | d + 1, t => match P.info? t with
    | some i => match i.desc with
      | .named n _ => some n
      | .pointer e => (nameUp P d e).map ("*" ++ ·)
      | .bool | .int _ | .float _ | .string => if i.str.isEmpty then none else some i.str
      | _ => none
    | none => none
theorem nameUp_of (P : Program) : ∀ (d : Nat) (t : TypeId) (s : String), P.typeName? d t = some s → nameUp P d t = some s
  | 0, t, s, h => by unfold Program.typeName? at h; cases h
  | d + 1, t, s, h => by
    unfold Program.typeName? at h
    unfold nameUp
    cases hi : P.info? t with
    | none => rw [hi] at h; cases h
    | some i =>
      rw [hi] at h
      simp only at h ⊢
      cases hd : i.desc with
      | named n u =>
        rw [hd] at h
        simp only at h ⊢
        split at h
        · exact h
        · cases h
      | pointer e =>
        rw [hd] at h
        simp only at h ⊢
        cases hn : P.typeName? d e with
        | none => rw [hn] at h; cases h
        | some m =>
          rw [hn] at h
          rw [nameUp_of P d e m hn]
          exact h
      | _ => rw [hd] at h; first | exact h | cases h
def errT : TypeId := 723
theorem err_ups : ((List.range errT).all fun u => !(nameUp Tryz.prog 3 u == some "*errors.errorString")) = true := by as_aux_lemma => kernel_rfl
theorem err_is : (Tryz.prog.typeName? 3 errT == some "*errors.errorString") = true := by as_aux_lemma => kernel_rfl
theorem err_lt : Nat.ble (Nat.succ errT) Tryz.prog.types.size = true := by as_aux_lemma => kernel_rfl
theorem err_find : (List.range Tryz.prog.types.size).find? (fun u => Tryz.prog.typeName? 3 u == some "*errors.errorString") = some errT := by
  rw [List.find?_range_eq_some]
  refine ⟨err_is, List.mem_range.2 (Nat.le_of_ble_eq_true err_lt), fun j hj => ?_⟩
  have h := List.all_eq_true.1 err_ups j (List.mem_range.2 hj)
  cases hn : Tryz.prog.typeName? 3 j with
  | none => rfl
  | some m =>
    rw [nameUp_of _ _ _ _ hn] at h
    exact h

/-- a variable laid, its interface's type being told -/
def layT (P : Program) (T : TypeId) (t : TypeId) (n : Nat) (x : DataW Unit) : Option (List Value × List Obj) := match x with
  | .iface _ d => match P.underlying t with
    | some (.interface _) => match d.lay P T n with
      | some x => match Lay.pack P T x.1 with
        | some v => some ([.iface T v], x.2)
        | none => none
      | none => none
    | _ => none
  | x => x.lay P t n
def layListT (P : Program) (T : TypeId) (n : Nat) : List (String × DataW Unit) → Option (List (Nat × List Value) × List Obj)
  | [] => some ([], [])
  | x :: r => match P.globalNamed x.1 with
    | some g => match P.globals[g]? with
      | some gl => match layT P T gl.type n x.2 with
        | some y => match layListT P T (n + y.2.length) r with
          | some z => some ((g, y.1) :: z.1, y.2 ++ z.2)
          | none => none
        | none => none
      | none => none
    | none => none
/-- the only interface values are of that type -/
def ifaceOf (s : String) (x : DataW Unit) : Bool := match x with
  | .iface name _ => name == s
  | _ => true
theorem layT_eq {P : Program} {T : TypeId} {s : String} (hF : (List.range P.types.size).find? (fun u => P.typeName? 3 u == some s) = some T) {x : DataW Unit} (hx : ifaceOf s x = true) (t : TypeId) (n : Nat) : x.lay P t n = layT P T t n x := by
  cases x with
  | iface name d =>
    have : name = s := eq_of_beq hx
    subst this
    rw [DataW.lay, hF]
    unfold layT
    cases hu : P.underlying t with
    | none => rfl
    | some u => cases u <;> rfl
  | _ => rfl
theorem layListT_eq {P : Program} {T : TypeId} {s : String} (hF : (List.range P.types.size).find? (fun u => P.typeName? 3 u == some s) = some T) : ∀ (l : List (String × DataW Unit)) (n : Nat), (l.all fun x => ifaceOf s x.2) = true → Lay.layList P n l = layListT P T n l
  | [], n, _ => rfl
  | x :: r, n, h => by
    rw [List.all_cons, Bool.and_eq_true] at h
    unfold Lay.layList layListT
    cases P.globalNamed x.1 with
    | none => rfl
    | some g =>
      simp only
      cases P.globals[g]? with
      | none => rfl
      | some gl =>
        simp only
        rw [layT_eq hF h.1]
        cases layT P T gl.type n x.2 with
        | none => rfl
        | some y =>
          simp only
          rw [layListT_eq hF r _ h.2]
          all_goals rfl
theorem lay7_eq (n : Nat) : Lay.layList Tryz.prog n laid7 = layListT Tryz.prog errT n laid7 := layListT_eq err_find laid7 n (by as_aux_lemma => kernel_rfl)
/-- the world, laid -/
def laidW (P : Program) (T : TypeId) (os : Os) (l : List (String × DataW Unit)) : World := match layListT P T (World.holding P os ⟨#[], #[], []⟩).heap.size l with
  | some y => { World.holding P os ⟨#[], #[], []⟩ with heap := ⟨Lay.setRows (World.holding P os ⟨#[], #[], []⟩).heap.toList y.1 ++ y.2⟩ }
  | none => World.holding P os ⟨#[], #[], []⟩
theorem laidW_eq (os : Os) : World.laidAll Tryz.prog os laid7 = laidW Tryz.prog errT os laid7 := by
  unfold World.laidAll World.layVars laidW
  rw [lay7_eq]
  cases layListT Tryz.prog errT (World.holding Tryz.prog os ⟨#[], #[], []⟩).heap.size laid7 <;> rfl
theorem laid7_fits (os : Os) : (World.holding Tryz.prog os ⟨#[], #[], []⟩).layFits Tryz.prog laid7 [] = true := by
  unfold World.layFits
  rw [lay7_eq]
  as_aux_lemma => kernel_rfl
theorem laid7_ifaces (os : Os) : (World.holding Tryz.prog os ⟨#[], #[], []⟩).layIfaces Tryz.prog laid7 (World.laidAll Tryz.prog os laid7) = true := by
  rw [laidW_eq]
  unfold World.layIfaces
  rw [lay7_eq]
  as_aux_lemma => kernel_rfl
theorem laid7_met (os : Os) (args : Array Value) : laidMetH Tryz.prog laid7 ((World.laidAll Tryz.prog os laid7).forCall (fun _ _ => 0) ⟨#[], args, []⟩).memory := by
  rw [MakeChecks.laidMetH_plain _ _ _ (by as_aux_lemma => kernel_rfl)]
  exact laidMet_laidAll _ (laid7_fits os) (laid7_ifaces os)
theorem laid7_zip (os : Os) : (laidW Tryz.prog errT os laid7).variablesZipB Tryz.prog = true := by as_aux_lemma => kernel_rfl
theorem laid7_rest (os : Os) : ((laidW Tryz.prog errT os laid7).heap.toList.drop Tryz.prog.globals.size).take ((begin Tryz.prog (fun _ _ => 0) default).world.heap.size - Tryz.prog.globals.size) =
      (begin Tryz.prog (fun _ _ => 0) default).world.heap.toList.drop Tryz.prog.globals.size := by as_aux_lemma => kernel_rfl
theorem laid7_shape (os : Os) : (World.laidAll Tryz.prog os laid7).Shaped Tryz.prog := by
  rw [laidW_eq]
  exact World.shaped_of_ZipB (laid7_zip os) (laid7_rest os)
set_option maxHeartbeats 16000000 in
theorem ml_of_shape {W : World} (h : W.ShapedOpen Tryz.prog) : mlIs W :=
  cell_of_shapedOpen_int (P := Tryz.prog) (g := 3) (t := 3) (zero := #[.int .i64 0]) h (of_decide_eq_true (by as_aux_lemma => kernel_rfl)) (by as_aux_lemma => kernel_rfl) rfl (by as_aux_lemma => kernel_rfl) (by as_aux_lemma => kernel_rfl) Tryz.underlying3
/-- Where no function of the whole program starts a goroutine, no call does. -/
theorem goes_none (P : Program) (h : P.funcs.toList.any Func.goes = false) (f : FuncId) : P.goes f = false := by
  have key : ∀ g : FuncId, ((P.funcs[g]?).any Func.goes) = false := by
    intro g
    rcases hg : P.funcs[g]? with _ | fn
    · rfl
    · show fn.goes = false
      rw [Bool.eq_false_iff]
      intro hgo
      have hm : fn ∈ P.funcs.toList := List.mem_iff_getElem?.2 ⟨g, by rw [Array.getElem?_toList]; exact hg⟩
      have := List.any_eq_true.2 ⟨fn, hm, hgo⟩
      rw [h] at this
      cases this
  have h2 : P.funcs.any Func.goes = false := by rw [← Array.any_toList]; exact h
  unfold Program.goes
  simp only [key, h2, Bool.and_false, Bool.or_false]
  simp
theorem goesFrom_none (P : Program) (h : P.funcs.toList.any Func.goes = false) (s : String) : P.goesFrom s = false := by
  unfold Program.goesFrom
  rcases P.funcNamed s with _ | f
  · rfl
  · exact goes_none P h f

section
variable {H : Type} {enc : TypeId × Value → H}
/-- The wrap for a row that lists tables, the world's shape kept for the walk. -/
theorem returns_listed_shaped {a : Assume} {C : Checked} {os : Os} {f : FuncId} {fn : Func} {s : ChangeSpec} {conds : List PathCond} {apart fresh handsOn again : Bool} {X : World → Prop}
    (hX : ∀ (w w' : World), w.heap = w'.heap → X w → X w')
    (own : ownKnob C.prog.godebug = none) (started : os.Started) (noInit : C.prog.inits.idxOf? f = none) (hfn : C.prog.funcs[f]? = some fn)
    (witness : ∃ (w : World) (tape : Tape) (i : Input), w.os = os ∧ (w.forCall tape i).Shaped C.prog ∧ i.vars = [] ∧ Input.okWide C.prog (w.forCall tape i) .any w.heap.size f i ∧
      ((s.pre enc C.prog fn conds apart (w.forCall tape i).memory i.args ∧ X (w.forCall tape i).memory) ∧ sizedMet enc C.prog fn (OpenSpec.ofChange s) apart (w.forCall tape i).memory i.args) ∧ a.holds C.prog (lone (Frame.enter C.prog f i.args .normal) [] (w.forCall tape i)))
    (contract : ∀ (W : World) (base : Nat) (args : Array Value) (ds gs : List (DataW H)) (before : List MemPlace),
      (∀ (j : Nat) t v, fn.params[j]? = some t → args[j]? = some v → Value.okWide C.prog W .any base t v) →
      DataW.Whole enc C.prog fn.params.toList s.vars apart W args.toList ds gs before → X W → W.ShapedOpen C.prog →
      Calls C.prog f args W fun e W' => ∃ v, e = .returned v ∧ s.post enc C.prog fn apart fresh handsOn again W args v W') :
    ReturnsInHanded a C os f .any (fun w args => (s.pre enc C.prog fn conds apart w args ∧ X w) ∧ sizedMet enc C.prog fn (OpenSpec.ofChange s) apart w args) (s.post enc C.prog fn apart fresh handsOn again) := by
  refine returnsInHanded_of_calls own started noInit witness ?_
  intro w tape i _ hsh _ hok hpre _
  obtain ⟨_, _, _, g, hg, _, _, _, _, hval⟩ := hok
  obtain rfl : g = fn := Option.some.inj (hg.symm.trans hfn)
  obtain ⟨⟨⟨ds, gs, before, hw, _⟩, hx⟩, _⟩ := hpre
  refine (contract (w.forCall tape i) w.heap.size i.args ds gs before hval (DataW.Whole.of_heap (w' := w.forCall tape i) (by rfl) hw) (hX _ _ (by rfl) hx) hsh).mono fun e W' ⟨v, he, hp⟩ => ?_
  subst he
  exact ChangeSpec.post_blind hp
end
end Go.Proofs.YtccbdaffjkdpgaaGreatDoor
