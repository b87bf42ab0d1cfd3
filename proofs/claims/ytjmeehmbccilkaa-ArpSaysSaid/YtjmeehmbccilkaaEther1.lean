/-
  Contracts of package ether: Mac (a device's address out of a reader), Broad, Group, Mine.
-/
import Derived.Test.YtjmeehmbccilkaaOctet6
import Derived.Handy
namespace Go.Proofs.Ytjmeehmbccilkaa
open Go.RowKit

/-- A device's address. -/
structure Mac6 where
  a : UInt8
  b : UInt8
  c : UInt8
  d : UInt8
  e : UInt8
  f : UInt8
def Mac6.bytes (m : Mac6) : List UInt8 := [m.a, m.b, m.c, m.d, m.e, m.f]
abbrev macV (m : Mac6) : Value := .agg #[.int .u8 (m.a.toNat : Int), .int .u8 (m.b.toNat : Int), .int .u8 (m.c.toNat : Int), .int .u8 (m.d.toNat : Int), .int .u8 (m.e.toNat : Int), .int .u8 (m.f.toNat : Int)]
def macOf (l : List UInt8) : Mac6 := ⟨l.getD 0 0, l.getD 1 0, l.getD 2 0, l.getD 3 0, l.getD 4 0, l.getD 5 0⟩

theorem splice_mac (l : List UInt8) (hl : l.length = 0 ∨ l.length = 6) :
    splice8 #[.int .u8 0, .int .u8 0, .int .u8 0, .int .u8 0, .int .u8 0, .int .u8 0] 0 l =
      #[.int .u8 ((macOf l).a.toNat : Int), .int .u8 ((macOf l).b.toNat : Int), .int .u8 ((macOf l).c.toNat : Int), .int .u8 ((macOf l).d.toNat : Int), .int .u8 ((macOf l).e.toNat : Int), .int .u8 ((macOf l).f.toNat : Int)] := by
  match l, hl with
  | [], _ => simp [splice8, bv, macOf]
  | [a, b, c, d, e, f], _ => simp [splice8, bv, macOf]
theorem rdTake_len (l : List UInt8) (k : Nat) : (rdTake l k).length = 0 ∨ (rdTake l k).length = k := by
  unfold rdTake; split
  · right; simp; omega
  · left; rfl

def MacPost (w : World) (g : Nat) (l : List UInt8) (m : Mac6) (sh : Bool) (e : Ending) (w' : World) : Prop :=
  e = .returned (macV m) ∧ Rd w' g l sh ∧ w.grownBy w' (some g)

set_option maxHeartbeats 400000 in
theorem rmac_any (w : World) (g : Nat) (l : List UInt8) (sh : Bool) (h : Rd w g l sh) (hl : l.length ≤ 1099511627776) :
    Calls Try.prog 36 #[.pointer (some ⟨g, 0, none⟩)] w (MacPost w g (rdDrop l 6) (macOf (rdTake l 6)) (rdSh l 6 sh)) := by
  have hlen : (rdTake l 6).length = 0 ∨ (rdTake l 6).length = 6 := rdTake_len l 6
  go_enter Try.func36, Try.ntmps36
  go_wp2_with fail
  refine rg_begin (fun k => k = g ∨ w.heap.size ≤ k) (by kernel_rfl) ?_
  refine rg_take (v := ?_) 0 rfl (by kernel_rfl) (by kernel_rfl) (by kernel_rfl) (fun _ _ _ h => h) (by rfl) ?_ ?_; rotate_left
  · (intro x hx; go_simp; first | done | with_reducible rfl | (rw [if_pos (by omega)]; try with_reducible rfl))
  try simp only [Act.put, List.setIfInBounds_toArray, List.set_cons_zero, List.set_cons_succ]
  refine rg_take (v := ?_) 1 rfl (by kernel_rfl) (by kernel_rfl) (by kernel_rfl) (fun _ _ _ h => h) (by rfl) ?_ ?_; rotate_left
  · (intro x hx; go_simp; first | done | with_reducible rfl | (rw [if_pos (by omega)]; try with_reducible rfl))
  try simp only [Act.put, List.setIfInBounds_toArray, List.set_cons_zero, List.set_cons_succ]
  refine rg_step 2 rfl (by kernel_rfl) (by rfl) (fun K hK => ?_)
  go_simp
  refine (bytes_any _ g 6 l sh (((h.alloc _).alloc _).drew) hl).mono ?_
  rintro e w1 ⟨A, n, c, rfl, ho, hr, hg⟩
  refine hK.out _ _ (Ext.of_grown hg fun k hk => by injection hk with e; exact .inl e.symm) ?_
  clear hK K; try simp only [Act.put, List.setIfInBounds_toArray, List.set_cons_zero, List.set_cons_succ]
  refine rg_step 3 rfl (by kernel_rfl) (by rfl) (fun K hK => ?_)
  have hgl := h.lt
  have hb1 := (hg.block (w.heap.size + 1) (by simp) (by intro e; injection e with e; omega)).trans (heap_alloc_at (by simp))
  have hb0 := (hg.block w.heap.size (by simp; omega) (by intro e; injection e with e; omega)).trans (heap_alloc_of (heap_alloc_at rfl))
  refine wp_copy8 _ _ rfl (w.heap.size + 1) 0 6 6 _ 24 rfl hb1 _ n c A _ rfl ho.bs (by have := ho.1; omega) (by have := ho.1; simp; omega) ?_
  intro w2 hc2 hg2
  refine hK.out _ _ (Ext.of_grown hg2 fun k hk => by injection hk with e; exact .inr (by omega)) ?_
  clear hK K; try simp only [Act.put, List.setIfInBounds_toArray, List.set_cons_zero, List.set_cons_succ]
  refine rg_done (by kernel_rfl) ?_
  rw [splice_mac _ hlen] at hc2
  have hc0 := (hg2.block w.heap.size (by have := hg.size; simp at this; omega) (by intro e; injection e with e; omega)).trans hb0
  obtain ⟨k1, f1⟩ := cells_of hc2
  obtain ⟨k0, f0⟩ := cells_of hc0
  have G1 := Lib.hid hg
  have G2 := Lib.hid hg2
  have C0 := Lib.hid hc0
  clear hg hg2 hc0 hc2 hb0 hb1 ho
  generalize macOf (rdTake l 6) = m at *
  go_wp2_with fail
  refine bodyPost_ret (v := macV m) (by simp [results, Try.results36, go_sem, k0]) rfl ?_
  have s1 := G1.out.size
  have s2 := G2.out.size
  simp at s1
  have e1 : w.grownBy w1 (some g) := ((grown_drew (grown_alloc (grown_alloc (World.grownBy.refl w _) _) _)).trans G1.out)
  have e2 : w.grownBy w2 (some g) := ⟨G2.out.os.trans e1.os, G2.out.tape.trans e1.tape, G2.out.output.trans e1.output, by omega, fun k hk hn => (G2.out.block k (by omega) (by intro e; injection e with e; omega)).trans (e1.block k hk hn)⟩
  have hr2 := hr.grown G2.out (by omega)
  refine ⟨rfl, ?_, ?_⟩
  · refine hr2.below (H := w.heap.size) ?_ hgl
    go_grown
  · refine grown_below e2 (H := w.heap.size) ?_ (Nat.le_refl _)
    go_grown
end Go.Proofs.Ytjmeehmbccilkaa
