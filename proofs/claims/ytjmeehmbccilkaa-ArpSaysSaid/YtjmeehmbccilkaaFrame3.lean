/-
  From the reading of a statement's arguments to the words of the walks: addresses, packets.
-/
import Derived.Test.YtjmeehmbccilkaaFrame2
import Derived.Test.YtjmeehmbccilkaaArp1
namespace Go.Proofs.Ytjmeehmbccilkaa
open Go.ChangeShapes Go.WideShapes Go.ChangeAt Go.RowKit

set_option maxRecDepth 100000 in
theorem cellsAd : Try.prog.cellsOf 46 = 4 := by kernel_rfl
set_option maxRecDepth 100000 in
theorem cellsPk : Try.prog.cellsOf 48 = 21 := by kernel_rfl

theorem ad_of (l : List UInt8) (h : l.length = 4) : ∃ m : Ad4, bv l = bv m.bytes := by
  match l, h with
  | [a, b, c, d], _ => exact ⟨⟨a, b, c, d⟩, rfl⟩

set_option maxRecDepth 100000 in
theorem open_addr {H : Type} {enc : TypeId × Value → H} {W : World} {base : Nat} {v : Value} {d : DataW H} {p : List MemPlace}
    (hv : Value.okWide Try.prog W .any base 46 v) (h : DataW.Trod enc Try.prog W 0 (fun _ => true) true 46 v d p) : ∃ m : Ad4, v = adV m ∧ True := by
  unfold Value.okWide at hv
  rw [Try.underlying46] at hv
  obtain ⟨cs, rfl, hsz, _⟩ := hv
  obtain ⟨fuel, hf⟩ := h
  obtain ⟨l, hl, hc⟩ := bytes_of_trod Try.underlying46 cellsAd hf
  obtain ⟨m, hm⟩ := ad_of l hl
  refine ⟨m, ?_, trivial⟩
  have : cs.toList = bv m.bytes := by rw [← hm, ← hc]; rfl
  rw [show cs = cs.toList.toArray by simp, this]
  rfl

set_option maxRecDepth 100000 in
set_option maxHeartbeats 1000000 in
theorem open_packet {H : Type} {enc : TypeId × Value → H} {W : World} {base : Nat} {v : Value} {d : DataW H} {p : List MemPlace}
    (hv : Value.okWide Try.prog W .any base 48 v) (h : DataW.Trod enc Try.prog W 0 (fun _ => true) true 48 v d p) : ∃ m : Pk, v = pkV m ∧ True := by
  obtain ⟨cs, rfl, hsz⟩ := okWide_struct Try.underlying48 hv
  obtain ⟨fuel, hf⟩ := h
  obtain ⟨xs, n, _, hx, _, hlen, hg⟩ := DataW.trod_struct Try.underlying48 hf
  have g0 := hg 0 _ rfl
  have g1 := hg 1 _ rfl
  have g2 := hg 2 _ rfl
  have g3 := hg 3 _ rfl
  have g4 := hg 4 _ rfl
  change DataW.trod enc Try.prog W 0 (fun _ => true) true n 3 ((cs.toList.drop 0).take (Try.prog.cellsOf 3)) = _ at g0
  change DataW.trod enc Try.prog W 0 (fun _ => true) true n 24 ((cs.toList.drop 1).take (Try.prog.cellsOf 24)) = _ at g1
  change DataW.trod enc Try.prog W 0 (fun _ => true) true n 46 ((cs.toList.drop 7).take (Try.prog.cellsOf 46)) = _ at g2
  change DataW.trod enc Try.prog W 0 (fun _ => true) true n 24 ((cs.toList.drop 11).take (Try.prog.cellsOf 24)) = _ at g3
  change DataW.trod enc Try.prog W 0 (fun _ => true) true n 46 ((cs.toList.drop 17).take (Try.prog.cellsOf 46)) = _ at g4
  have hl : xs.length = 5 := hlen
  rw [cellsPk] at hsz
  rw [List.getElem?_eq_getElem (show 0 < xs.length by omega), cellsInt] at g0
  rw [List.getElem?_eq_getElem (show 1 < xs.length by omega), cellsMac] at g1
  rw [List.getElem?_eq_getElem (show 2 < xs.length by omega), cellsAd] at g2
  rw [List.getElem?_eq_getElem (show 3 < xs.length by omega), cellsMac] at g3
  rw [List.getElem?_eq_getElem (show 4 < xs.length by omega), cellsAd] at g4
  obtain ⟨k, hk, _, _⟩ := DataW.trod_int Try.underlying3 g0
  obtain ⟨l1, hl1, hc1⟩ := bytes_of_trod Try.underlying24 cellsMac g1
  obtain ⟨l2, hl2, hc2⟩ := bytes_of_trod Try.underlying46 cellsAd g2
  obtain ⟨l3, hl3, hc3⟩ := bytes_of_trod Try.underlying24 cellsMac g3
  obtain ⟨l4, hl4, hc4⟩ := bytes_of_trod Try.underlying46 cellsAd g4
  obtain ⟨m1, h1⟩ := mac_of l1 hl1
  obtain ⟨m2, h2⟩ := ad_of l2 hl2
  obtain ⟨m3, h3⟩ := mac_of l3 hl3
  obtain ⟨m4, h4⟩ := ad_of l4 hl4
  refine ⟨⟨k, m1, m2, m3, m4⟩, ?_, trivial⟩
  obtain ⟨cl⟩ := cs
  have hcl : cl.length = 21 := hsz
  have e : cl = (cl.drop 0).take 1 ++ ((cl.drop 1).take 6 ++ ((cl.drop 7).take 4 ++ ((cl.drop 11).take 6 ++ (cl.drop 17).take 4))) := by
    match cl, hcl with
    | [_, _, _, _, _, _, _, _, _, _, _, _, _, _, _, _, _, _, _, _, _], _ => rfl
  have e2 : cl = [.int .i64 k] ++ (bv m1.bytes ++ (bv m2.bytes ++ (bv m3.bytes ++ bv m4.bytes))) := by
    rw [e]
    exact congr (congrArg _ hk) (congr (congrArg _ (hc1.trans h1)) (congr (congrArg _ (hc2.trans h2)) (congr (congrArg _ (hc3.trans h3)) (hc4.trans h4))))
  rw [e2]
  rfl
end Go.Proofs.Ytjmeehmbccilkaa
