/-
  From the reading of a statement's arguments to the words of the walks: messages.
-/
import Derived.Test.YtjpmfmmgmlnanaaFrame4
import Derived.Test.YtjpmfmmgmlnanaaDh1
namespace Go.Proofs.Ytjpmfmmgmlnanaa
open Go.ChangeShapes Go.WideShapes Go.ChangeAt Go.RowKit

theorem bytes_of_cells : ∀ (cs : List Value), (∀ i, i < cs.length → ∃ b : UInt8, cs[i]? = some (.int .u8 (b.toNat : Int))) → ∃ l : List UInt8, l.length = cs.length ∧ cs = bv l
  | [], _ => ⟨[], rfl, rfl⟩
  | c :: r, key => by
    obtain ⟨b, hb⟩ := key 0 (by simp)
    simp at hb
    obtain ⟨l, hll, hr⟩ := bytes_of_cells r (fun i hi => by simpa using key (i + 1) (by simp; omega))
    exact ⟨b :: l, by simp; omega, by rw [hb, hr]; rfl⟩

set_option maxRecDepth 100000 in
theorem cellsU8 : Try.prog.cellsOf 5 = 1 := by kernel_rfl
set_option maxRecDepth 100000 in
theorem cellsMac : Try.prog.cellsOf 26 = 6 := by kernel_rfl
set_option maxRecDepth 100000 in
theorem cellsInt : Try.prog.cellsOf 3 = 1 := by kernel_rfl
set_option maxRecDepth 100000 in
theorem cellsBytes : Try.prog.cellsOf 62 = 1 := by kernel_rfl
set_option maxRecDepth 100000 in
/-- Cells that read as an array of n bytes are n bytes. -/
theorem bytes_of_trod {H : Type} {enc : TypeId × Value → H} {W : World} {base fuel n : Nat} {spare : Nat → Bool} {held : Bool} {t : TypeId} {cs : List Value} {x : DataW H × List MemPlace}
    (ht : Try.prog.underlying t = some (.array n 5)) (hc : Try.prog.cellsOf t = n) (h : DataW.trod enc Try.prog W base spare held fuel t cs = some x) : ∃ l : List UInt8, l.length = n ∧ cs = bv l := by
  obtain ⟨xs, m, _, _, hl, hxl, hg⟩ := DataW.trod_array ht h
  rw [cellsU8] at hg
  rw [hc] at hl
  obtain ⟨l, h1, h2⟩ := bytes_of_cells cs (fun i hi => by
    have h1 := hg i (by omega)
    rw [Nat.mul_one, List.drop_eq_getElem_cons hi, List.take_succ_cons, List.take_zero, List.getElem?_eq_getElem (show i < xs.length by omega)] at h1
    obtain ⟨k, e0, e1, wf⟩ := DataW.trod_int Try.underlying5 h1
    obtain ⟨k0, k1⟩ := wf_u8 wf
    refine ⟨UInt8.ofNat k.toNat, ?_⟩
    simp at e0
    rw [List.getElem?_eq_getElem hi, e0, UInt8.toNat_ofNat']
    congr 2
    omega)
  exact ⟨l, h1.trans hl, h2⟩

theorem mac_of (l : List UInt8) (h : l.length = 6) : ∃ m : Mac6, bv l = bv m.bytes := by
  match l, h with
  | [a, b, c, d, e, f], _ => exact ⟨⟨a, b, c, d, e, f⟩, rfl⟩

set_option maxRecDepth 100000 in
theorem cellsAd : Try.prog.cellsOf 34 = 4 := by kernel_rfl
theorem ad_of (l : List UInt8) (h : l.length = 4) : ∃ m : Ad4, bv l = bv m.bytes := by
  match l, h with
  | [a, b, c, d], _ => exact ⟨⟨a, b, c, d⟩, rfl⟩

set_option maxRecDepth 100000 in
theorem cellsU32 : Try.prog.cellsOf 30 = 1 := by kernel_rfl
set_option maxRecDepth 100000 in
theorem cellsOpts : Try.prog.cellsOf 35 = 1 := by kernel_rfl
set_option maxRecDepth 100000 in
theorem cellsMsg : Try.prog.cellsOf 37 = 28 := by kernel_rfl

set_option maxRecDepth 100000 in
set_option maxHeartbeats 1000000 in
theorem open_msg {H : Type} {enc : TypeId × Value → H} {W : World} {base : Nat} {v : Value} {d : DataW H} {p : List MemPlace}
    (hv : Value.okWide Try.prog W .any base 37 v) (h : DataW.Trod enc Try.prog W 0 (fun _ => true) true 37 v d p) :
    ∃ hd A n c l, v = msV hd A n c ∧ OS W W.heap.size A n c l ∧ 0 ≤ hd.xid ∧ hd.xid < 4294967296 := by
  obtain ⟨cs, rfl, hsz⟩ := okWide_struct Try.underlying37 hv
  obtain ⟨fuel, hf⟩ := h
  obtain ⟨xs, n, _, hx, _, hlen, hg⟩ := DataW.trod_struct Try.underlying37 hf
  have g0 := hg 0 _ rfl
  have g1 := hg 1 _ rfl
  have g2 := hg 2 _ rfl
  have g3 := hg 3 _ rfl
  have g4 := hg 4 _ rfl
  have g5 := hg 5 _ rfl
  have g6 := hg 6 _ rfl
  have g7 := hg 7 _ rfl
  have g8 := hg 8 _ rfl
  have g9 := hg 9 _ rfl
  have g10 := hg 10 _ rfl
  change DataW.trod enc Try.prog W 0 (fun _ => true) true n 3 ((cs.toList.drop 0).take (Try.prog.cellsOf 3)) = _ at g0
  change DataW.trod enc Try.prog W 0 (fun _ => true) true n 3 ((cs.toList.drop 1).take (Try.prog.cellsOf 3)) = _ at g1
  change DataW.trod enc Try.prog W 0 (fun _ => true) true n 30 ((cs.toList.drop 2).take (Try.prog.cellsOf 30)) = _ at g2
  change DataW.trod enc Try.prog W 0 (fun _ => true) true n 3 ((cs.toList.drop 3).take (Try.prog.cellsOf 3)) = _ at g3
  change DataW.trod enc Try.prog W 0 (fun _ => true) true n 3 ((cs.toList.drop 4).take (Try.prog.cellsOf 3)) = _ at g4
  change DataW.trod enc Try.prog W 0 (fun _ => true) true n 34 ((cs.toList.drop 5).take (Try.prog.cellsOf 34)) = _ at g5
  change DataW.trod enc Try.prog W 0 (fun _ => true) true n 34 ((cs.toList.drop 9).take (Try.prog.cellsOf 34)) = _ at g6
  change DataW.trod enc Try.prog W 0 (fun _ => true) true n 34 ((cs.toList.drop 13).take (Try.prog.cellsOf 34)) = _ at g7
  change DataW.trod enc Try.prog W 0 (fun _ => true) true n 34 ((cs.toList.drop 17).take (Try.prog.cellsOf 34)) = _ at g8
  change DataW.trod enc Try.prog W 0 (fun _ => true) true n 26 ((cs.toList.drop 21).take (Try.prog.cellsOf 26)) = _ at g9
  change DataW.trod enc Try.prog W 0 (fun _ => true) true n 35 ((cs.toList.drop 27).take (Try.prog.cellsOf 35)) = _ at g10
  have hl : xs.length = 11 := hlen
  rw [cellsMsg] at hsz
  rw [List.getElem?_eq_getElem (show 0 < xs.length by omega), cellsInt] at g0
  rw [List.getElem?_eq_getElem (show 1 < xs.length by omega), cellsInt] at g1
  rw [List.getElem?_eq_getElem (show 2 < xs.length by omega), cellsU32] at g2
  rw [List.getElem?_eq_getElem (show 3 < xs.length by omega), cellsInt] at g3
  rw [List.getElem?_eq_getElem (show 4 < xs.length by omega), cellsInt] at g4
  rw [List.getElem?_eq_getElem (show 5 < xs.length by omega), cellsAd] at g5
  rw [List.getElem?_eq_getElem (show 6 < xs.length by omega), cellsAd] at g6
  rw [List.getElem?_eq_getElem (show 7 < xs.length by omega), cellsAd] at g7
  rw [List.getElem?_eq_getElem (show 8 < xs.length by omega), cellsAd] at g8
  rw [List.getElem?_eq_getElem (show 9 < xs.length by omega), cellsMac] at g9
  rw [List.getElem?_eq_getElem (show 10 < xs.length by omega), cellsOpts] at g10
  obtain ⟨k0, hk0, _, wf0⟩ := DataW.trod_int Try.underlying3 g0
  obtain ⟨k1, hk1, _, wf1⟩ := DataW.trod_int Try.underlying3 g1
  obtain ⟨k2, hk2, _, wf2⟩ := DataW.trod_int Try.underlying30 g2
  obtain ⟨k3, hk3, _, wf3⟩ := DataW.trod_int Try.underlying3 g3
  obtain ⟨k4, hk4, _, wf4⟩ := DataW.trod_int Try.underlying3 g4
  obtain ⟨l5, hl5, hc5⟩ := bytes_of_trod Try.underlying34 cellsAd g5
  obtain ⟨m5, h5⟩ := ad_of l5 hl5
  obtain ⟨l6, hl6, hc6⟩ := bytes_of_trod Try.underlying34 cellsAd g6
  obtain ⟨m6, h6⟩ := ad_of l6 hl6
  obtain ⟨l7, hl7, hc7⟩ := bytes_of_trod Try.underlying34 cellsAd g7
  obtain ⟨m7, h7⟩ := ad_of l7 hl7
  obtain ⟨l8, hl8, hc8⟩ := bytes_of_trod Try.underlying34 cellsAd g8
  obtain ⟨m8, h8⟩ := ad_of l8 hl8
  obtain ⟨l9, hl9, hc9⟩ := bytes_of_trod Try.underlying26 cellsMac g9
  obtain ⟨m9, h9⟩ := mac_of l9 hl9
  obtain ⟨A, m, c, l, hs, hb⟩ := open_opts_at g10
  refine ⟨⟨k0, k1, k2, k3, k4, m5, m6, m7, m8, m9⟩, A, m, c, l, ?_, hb, (wf_u32 wf2).1, (wf_u32 wf2).2⟩
  obtain ⟨cl⟩ := cs
  have hcl : cl.length = 28 := hsz
  have e : cl = (cl.drop 0).take 1 ++ ((cl.drop 1).take 1 ++ ((cl.drop 2).take 1 ++ ((cl.drop 3).take 1 ++ ((cl.drop 4).take 1 ++ ((cl.drop 5).take 4 ++ ((cl.drop 9).take 4 ++ ((cl.drop 13).take 4 ++ ((cl.drop 17).take 4 ++ ((cl.drop 21).take 6 ++ ((cl.drop 27).take 1)))))))))) := by
    match cl, hcl with
    | [_, _, _, _, _, _, _, _, _, _, _, _, _, _, _, _, _, _, _, _, _, _, _, _, _, _, _, _], _ => rfl
  have e2 : cl = [.int .i64 k0] ++ ([.int .i64 k1] ++ ([.int .u32 k2] ++ ([.int .i64 k3] ++ ([.int .i64 k4] ++ (bv m5.bytes ++ (bv m6.bytes ++ (bv m7.bytes ++ (bv m8.bytes ++ (bv m9.bytes ++ ([.slice A m c])))))))))) := by
    rw [e]
    exact congr (congrArg _ hk0) (congr (congrArg _ hk1) (congr (congrArg _ hk2) (congr (congrArg _ hk3) (congr (congrArg _ hk4) (congr (congrArg _ (hc5.trans h5)) (congr (congrArg _ (hc6.trans h6)) (congr (congrArg _ (hc7.trans h7)) (congr (congrArg _ (hc8.trans h8)) (congr (congrArg _ (hc9.trans h9)) (hs))))))))))
  rw [e2]
  rfl
end Go.Proofs.Ytjpmfmmgmlnanaa
