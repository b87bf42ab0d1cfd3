/-
  From the reading of a statement's arguments to the words of the walks: devices' addresses, frames.
-/
import Derived.Test.YtjmeehmbccilkaaFrame
import Derived.Test.YtjmeehmbccilkaaEther3
namespace Go.Proofs.Ytjmeehmbccilkaa
open Go.ChangeShapes Go.WideShapes Go.ChangeAt Go.RowKit

theorem bytes_of_cells : ∀ (cs : List Value), (∀ i, i < cs.length → ∃ b : UInt8, cs[i]? = some (.int .u8 (b.toNat : Int))) → ∃ l : List UInt8, l.length = cs.length ∧ cs = bv l
  | [], _ => ⟨[], rfl, rfl⟩
  | c :: r, key => by
    obtain ⟨b, hb⟩ := key 0 (by simp)
    simp at hb
    obtain ⟨l, hll, hr⟩ := bytes_of_cells r (fun i hi => by simpa using key (i + 1) (by simp; omega))
    exact ⟨b :: l, by simp; omega, by rw [hb, hr]; rfl⟩

set_option maxRecDepth 100000 in
theorem cellsU8 : Try.prog.cellsOf 5 = 1 := by kernel_rfl
set_option maxRecDepth 100000 in
theorem cellsMac : Try.prog.cellsOf 24 = 6 := by kernel_rfl
set_option maxRecDepth 100000 in
theorem cellsInt : Try.prog.cellsOf 3 = 1 := by kernel_rfl
set_option maxRecDepth 100000 in
theorem cellsBytes : Try.prog.cellsOf 25 = 1 := by kernel_rfl
set_option maxRecDepth 100000 in
theorem cellsFrame : Try.prog.cellsOf 27 = 14 := by kernel_rfl

set_option maxRecDepth 100000 in
/-- Cells that read as an array of n bytes are n bytes. -/
theorem bytes_of_trod {H : Type} {enc : TypeId × Value → H} {W : World} {base fuel n : Nat} {spare : Nat → Bool} {held : Bool} {t : TypeId} {cs : List Value} {x : DataW H × List MemPlace}
    (ht : Try.prog.underlying t = some (.array n 5)) (hc : Try.prog.cellsOf t = n) (h : DataW.trod enc Try.prog W base spare held fuel t cs = some x) : ∃ l : List UInt8, l.length = n ∧ cs = bv l := by
  obtain ⟨xs, m, _, _, hl, hxl, hg⟩ := DataW.trod_array ht h
  rw [cellsU8] at hg
  rw [hc] at hl
  obtain ⟨l, h1, h2⟩ := bytes_of_cells cs (fun i hi => by
    have h1 := hg i (by omega)
    rw [Nat.mul_one, List.drop_eq_getElem_cons hi, List.take_succ_cons, List.take_zero, List.getElem?_eq_getElem (show i < xs.length by omega)] at h1
    obtain ⟨k, e0, e1, wf⟩ := DataW.trod_int Try.underlying5 h1
    obtain ⟨k0, k1⟩ := wf_u8 wf
    refine ⟨UInt8.ofNat k.toNat, ?_⟩
    simp at e0
    rw [List.getElem?_eq_getElem hi, e0, UInt8.toNat_ofNat']
    congr 2
    omega)
  exact ⟨l, h1.trans hl, h2⟩

theorem mac_of (l : List UInt8) (h : l.length = 6) : ∃ m : Mac6, bv l = bv m.bytes := by
  match l, h with
  | [a, b, c, d, e, f], _ => exact ⟨⟨a, b, c, d, e, f⟩, rfl⟩

set_option maxRecDepth 100000 in
theorem open_mac {H : Type} {enc : TypeId × Value → H} {W : World} {base : Nat} {v : Value} {d : DataW H} {p : List MemPlace}
    (hv : Value.okWide Try.prog W .any base 24 v) (h : DataW.Trod enc Try.prog W 0 (fun _ => true) true 24 v d p) : ∃ m : Mac6, v = macV m ∧ True := by
  unfold Value.okWide at hv
  rw [Try.underlying24] at hv
  obtain ⟨cs, rfl, hsz, _⟩ := hv
  obtain ⟨fuel, hf⟩ := h
  obtain ⟨l, hl, hc⟩ := bytes_of_trod Try.underlying24 cellsMac hf
  obtain ⟨m, hm⟩ := mac_of l hl
  refine ⟨m, ?_, trivial⟩
  have : cs.toList = bv m.bytes := by rw [← hm, ← hc]; rfl
  rw [show cs = cs.toList.toArray by simp, this]
  rfl

set_option maxRecDepth 100000 in
theorem open_frame {H : Type} {enc : TypeId × Value → H} {W : World} {base : Nat} {v : Value} {d : DataW H} {p : List MemPlace}
    (hv : Value.okWide Try.prog W .any base 27 v) (h : DataW.Trod enc Try.prog W 0 (fun _ => true) true 27 v d p) :
    ∃ t f k A n c l, v = frV t f k A n c ∧ BS W W.heap.size A n c l := by
  obtain ⟨cs, rfl, hsz⟩ := okWide_struct Try.underlying27 hv
  obtain ⟨fuel, hf⟩ := h
  obtain ⟨xs, n, _, hx, _, hlen, hg⟩ := DataW.trod_struct Try.underlying27 hf
  have g0 := hg 0 _ rfl
  have g1 := hg 1 _ rfl
  have g2 := hg 2 _ rfl
  have g3 := hg 3 _ rfl
  change DataW.trod enc Try.prog W 0 (fun _ => true) true n 24 ((cs.toList.drop 0).take (Try.prog.cellsOf 24)) = _ at g0
  change DataW.trod enc Try.prog W 0 (fun _ => true) true n 24 ((cs.toList.drop 6).take (Try.prog.cellsOf 24)) = _ at g1
  change DataW.trod enc Try.prog W 0 (fun _ => true) true n 3 ((cs.toList.drop 12).take (Try.prog.cellsOf 3)) = _ at g2
  change DataW.trod enc Try.prog W 0 (fun _ => true) true n 25 ((cs.toList.drop 13).take (Try.prog.cellsOf 25)) = _ at g3
  have hl : xs.length = 4 := hlen
  rw [cellsFrame] at hsz
  rw [List.getElem?_eq_getElem (show 0 < xs.length by omega), cellsMac] at g0
  rw [List.getElem?_eq_getElem (show 1 < xs.length by omega), cellsMac] at g1
  rw [List.getElem?_eq_getElem (show 2 < xs.length by omega), cellsInt] at g2
  rw [List.getElem?_eq_getElem (show 3 < xs.length by omega), cellsBytes] at g3
  obtain ⟨l0, hl0, hc0⟩ := bytes_of_trod Try.underlying24 cellsMac g0
  obtain ⟨l1, hl1, hc1⟩ := bytes_of_trod Try.underlying24 cellsMac g1
  obtain ⟨k, hk, _, _⟩ := DataW.trod_int Try.underlying3 g2
  obtain ⟨A, m, c, l, hs, hb⟩ := open_bytes_at g3
  obtain ⟨t, ht⟩ := mac_of l0 hl0
  obtain ⟨f, hf'⟩ := mac_of l1 hl1
  refine ⟨t, f, k, A, m, c, l, ?_, hb⟩
  obtain ⟨cl⟩ := cs
  have hcl : cl.length = 14 := hsz
  have e : cl = (cl.drop 0).take 6 ++ ((cl.drop 6).take 6 ++ ((cl.drop 12).take 1 ++ (cl.drop 13).take 1)) := by
    match cl, hcl with
    | [_, _, _, _, _, _, _, _, _, _, _, _, _, _], _ => rfl
  have e2 : cl = bv t.bytes ++ (bv f.bytes ++ ([.int .i64 k] ++ [.slice A m c])) := by
    rw [e]
    exact congr (congrArg _ (hc0.trans ht)) (congr (congrArg _ (hc1.trans hf')) (congr (congrArg _ hk) hs))
  rw [e2]
  rfl
end Go.Proofs.Ytjmeehmbccilkaa
