/-
  The script run; the statement TopNames.
-/
import Derived.Maps.AppendAt
import Derived.Test.YtccbdaffjkdpgaaGreatDoorTn5
namespace Go.Proofs.YtccbdaffjkdpgaaGreatDoor
section
section
section
open Go.RowKit

def TO (w : World) (H : Nat) (t : TypeId) (K : Nat) (A : Option Addr) (n c : Nat) (k : Nat) (l : List Value) : Prop := n = k ∧ w.ownsRow H t K (.slice A n c) n l
section
variable {w w' : World} {H K n c k : Nat} {t : TypeId} {A : Option Addr} {l : List Value}
theorem TO.nil_ (w : World) (H : Nat) (t : TypeId) (K : Nat) : TO w H t K none 0 0 0 [] := ⟨rfl, World.ownsRow_nil _ _ _ _⟩
theorem TO.ne (h : TO w H t K A n c k l) {g : Nat} {cs : Array Value} {t' : TypeId} {fr : Nat × Nat} (hg : w.heap[g]? = some (.cells cs t' fr)) (ht : t' ≠ t) : (Value.slice A n c).ownBlock = none ∨ (Value.slice A n c).ownBlock ≠ some g := by
  rcases h.2.2 with ⟨hv, _⟩ | ⟨g', cap, cur, hv, _, hh, _⟩
  · injection hv with e _ _
    subst e
    exact .inl rfl
  · right
    intro e
    injection hv with e1 _ _
    subst e1
    have : g' = g := by simpa [Value.ownBlock] using e
    subst this
    rw [hg] at hh
    injection hh with hh
    injection hh with _ hh
    exact ht hh
theorem TO.ne_of (h : TO w H t K A n c k l) {g : Nat} {o : Obj} (hg : w.heap[g]? = some o) (ho : ∀ cs fr, o ≠ .cells cs t fr) : (Value.slice A n c).ownBlock = none ∨ (Value.slice A n c).ownBlock ≠ some g := by
  rcases h.2.2 with ⟨hv, _⟩ | ⟨g', cap, cur, hv, _, hh, _⟩
  · injection hv with e _ _
    subst e
    exact .inl rfl
  · right
    intro e
    injection hv with e1 _ _
    subst e1
    have : g' = g := by simpa [Value.ownBlock] using e
    subst this
    rw [hg] at hh
    injection hh with hh
    exact ho _ _ hh
theorem TO.kept (h : TO w H t K A n c k l) {row : Option Nat} (hg : w.grownBy w' row) (h1 : (Value.slice A n c).ownBlock = none ∨ (Value.slice A n c).ownBlock ≠ row) : TO w' H t K A n c k l := ⟨h.1, h.2.kept hg h1⟩
theorem TO.below (h : TO w H t K A n c k l) (hb : Below w.heap.size w w') : TO w' H t K A n c k l := by
  refine h.kept (grown_of_below none hb) ?_
  rcases (Value.slice A n c).ownBlock with _ | k
  · exact .inl rfl
  · exact .inr (by simp)
theorem TO.lt (h : TO w H t K A n c k l) : ∀ b, (Value.slice A n c).ownBlock = some b → H ≤ b ∧ b < w.heap.size := h.2.lt
end
theorem TO.ext {M : Nat → Prop} {w w' : World} {H K n c k : Nat} {t : TypeId} {A : Option Addr} {l : List Value} (h : TO w H t K A n c k l) (hx : Ext M w w') (hM : ∀ j, (Value.slice A n c).ownBlock = some j → ¬ M j) : TO w' H t K A n c k l := by
  refine ⟨h.1, h.2.1, ?_⟩
  rcases h.2.2 with hn | ⟨g, cap, cur, hv, hb, hg, rest⟩
  · exact .inl hn
  · refine .inr ⟨g, cap, cur, hv, hb, ?_, rest⟩
    refine (hx.block g (heap_lt hg) (hM g ?_)).trans hg
    injection hv with e _ _
    subst e
    rfl
theorem TO.apart {w : World} {H K n c k : Nat} {t : TypeId} {A : Option Addr} {l : List Value} {H2 K2 n2 c2 k2 : Nat} {t2 : TypeId} {A2 : Option Addr} {l2 : List Value} (h : TO w H t K A n c k l) (h2 : TO w H2 t2 K2 A2 n2 c2 k2 l2) (ht : t ≠ t2) :
    ∀ j, (Value.slice A n c).ownBlock = some j → (Value.slice A2 n2 c2).ownBlock ≠ some j := by
  intro j hj
  rcases h.2.2 with ⟨hv, _⟩ | ⟨g, cap, cur, hv, _, hg, _⟩
  · injection hv with e _ _
    subst e
    cases hj
  · injection hv with e _ _
    subst e
    have : g = j := by simpa [Value.ownBlock] using hj
    subst this
    rcases h2.ne hg ht with e | e
    · rw [e]; simp
    · exact e
/-- append(own row of structs, one that was just made), at one operation. -/
theorem wp_appT {w : World} {o : Oper} {a : Act} {Kk : Act → World → Prop} {Q : Exit → Act → World → Prop} (s x : Operand) (T t : TypeId) (K B : Nat) (z : Value) (hT : Tryz.prog.underlying T = some (.slice t))
    (hI : (Tryz.prog.info? t).map (fun i => (i.zero, i.size, i.bytes)) = some (some z, K, B)) (hz : z.cells.size = K) (hK : 0 < K) (hB : B ≤ 1000)
    (ho : o.op = .call { callee := .builtin .append, args := #[s, x], argTypes := #[T, T] })
    (H : Nat) (A : Option Addr) (n c k : Nat) (l : List Value) (hs : a.eval s = .slice A n c) (hown : TO w H t K A n c k l)
    (g c2 : Nat) (hx : a.eval x = .slice (some ⟨g, 0, none⟩) 1 c2) (ys : Array Value) (hy : ys.size = K)
    (hg : w.heap[g]? = some (.cells ys t (0, 0))) (h1 : ys.all (·.oneCell') = true)
    (hlen : k ≤ 1000000) (hbase : H ≤ w.heap.size)
    (h : ∀ A' c' w', TO w' H t K A' (n + 1) c' (k + 1) (l ++ ys.toList) → Below H w w' → w.grownBy w' (Value.slice A n c).ownBlock → Kk (a.put o.dst (.slice A' (n + 1) c')) w') : o.wp Tryz.prog a w Kk Q := by
  obtain ⟨i0, hi, hz0, hz1, hz2⟩ := info_parts hI
  obtain ⟨rfl, hown⟩ := hown
  obtain ⟨v', w', hrun, h2, h3, _, h5⟩ := run_append_own_at (P := Tryz.prog) w H T o.type t i0 z K B hT hi hz0 hz1 hz2 hz hK _ n l hown ⟨g, 0, none⟩ 1 c2
    ys.toList (by simp [hy]) (fun j u hu => by rw [Addr.add_lit, Nat.zero_add, cell_of_row w g j _ _ _ hg]; simpa using hu) (fun u hu => by obtain ⟨i, hi, rfl⟩ := Array.getElem_of_mem (Array.mem_toList_iff.1 hu); exact Array.all_eq_true.1 h1 i hi) (by unfold maxLen; omega)
    (by have : (n + 1) * B ≤ 1000001 * 1000 := Nat.mul_le_mul (by omega) hB; omega) hbase
  have hform : ∃ A' c', v' = Value.slice A' (n + 1) c' := by
    rcases h2.2 with ⟨hv, h0⟩ | ⟨g', cap, _, hv, _⟩
    · omega
    · exact ⟨_, _, hv⟩
  obtain ⟨A', c', rfl⟩ := hform
  unfold Oper.wp execOp
  simp only [ho, resolve, invoke, builtin, Sem.run_bind, Sem.run_pure, Result.andThen_ok, List.map_toArray, List.map_cons, List.map_nil, hs, hx, hrun]
  exact h A' c' w' ⟨rfl, h2⟩ ((Below.refl H w).grown h3 hbase fun k hk => (hown.lt k hk).1) h3
theorem wpList_appT {w : World} {ops : Array Oper} {rest : List Oper} {o : Oper} {a : Act} {Q : Exit → Act → World → Prop} (hgd : o.guard = none) (s x : Operand) (T t : TypeId) (K B : Nat) (z : Value) (hT : Tryz.prog.underlying T = some (.slice t))
    (hI : (Tryz.prog.info? t).map (fun i => (i.zero, i.size, i.bytes)) = some (some z, K, B)) (hz : z.cells.size = K) (hK : 0 < K) (hB : B ≤ 1000)
    (ho : o.op = .call { callee := .builtin .append, args := #[s, x], argTypes := #[T, T] })
    (H : Nat) (A : Option Addr) (n c k : Nat) (l : List Value) (hs : a.eval s = .slice A n c) (hown : TO w H t K A n c k l)
    (g c2 : Nat) (hx : a.eval x = .slice (some ⟨g, 0, none⟩) 1 c2) (ys : Array Value) (hy : ys.size = K)
    (hg : w.heap[g]? = some (.cells ys t (0, 0))) (h1 : ys.all (·.oneCell') = true)
    (hlen : k ≤ 1000000) (hbase : H ≤ w.heap.size)
    (h : ∀ A' c' w', TO w' H t K A' (n + 1) c' (k + 1) (l ++ ys.toList) → Below H w w' → w.grownBy w' (Value.slice A n c).ownBlock → wpList Tryz.prog ops Q rest (a.put o.dst (.slice A' (n + 1) c')) w') : wpList Tryz.prog ops Q (o :: rest) a w :=
  wpList_plain hgd fun _ hK' => wp_appT s x T t K B z hT hI hz hK hB ho H A n c k l hs hown g c2 hx ys hy hg h1 hlen hbase fun A' c' w' h2 h3 h4 => hK' _ _ (h A' c' w' h2 h3 h4)
end
end
section
open Go.RowKit

abbrev lnZ : Array Value := #[.string ⟨#[]⟩, .int .i64 0, .slice none 0 0]
set_option maxRecDepth 100000 in
set_option maxHeartbeats 4000000 in
theorem read_one (w : World) (b o c : Nat) (s : List UInt8) (hs : s = sNow ∨ s = sAddr) (hc : w.cell? ⟨b, o, none⟩ = some (.string (str s))) (hb : b < w.heap.size) (_hn : 1 ≤ c) :
    Calls Tryz.prog 102 #[.slice (some ⟨b, o, none⟩) 1 c] w (fun e w' => e = .returned (.tuple #[.agg (lnC s), .bool true]) ∧ Below w.heap.size w w') := by
  have R0 := heap_alloc_new w (.cells lnZ 121)
  have b0 : Below w.heap.size w (w.alloc (.cells lnZ 121)) := (Below.refl _ w).alloc (Nat.le_refl _) _
  have hc0 := (World.cell?_of_block (w := w) (a := ⟨b, o, none⟩) (b0.block b hb)).trans hc
  clear hc
  have hss : (∃ x, str s = ⟨x⟩ ∧ (x = #[110, 111, 119] ∨ x = #[97, 100, 100, 114, 101, 115, 115])) := by
    rcases hs with rfl | rfl
    · exact ⟨_, rfl, .inl rfl⟩
    · exact ⟨_, rfl, .inr rfl⟩
  obtain ⟨x, hx, hxx⟩ := hss
  show Calls _ _ _ _ (fun e w' => e = .returned (.tuple #[.agg #[.string (str s), .int .i64 0, .slice none 0 0], .bool true]) ∧ _)
  rw [hx] at hc0 ⊢
  clear hs hx
  rcases hxx with rfl | rfl
  · go_enter Tryz.func102, Tryz.ntmps102
    go_upto_region 1 with fail
    change Code.wp _ _ _ _ (w.alloc (.cells lnZ 121))
    generalize w.alloc (.cells lnZ 121) = w0 at R0 b0 hc0 ⊢
    obtain ⟨g, hg⟩ : ∃ g, w.heap.size = g := ⟨_, rfl⟩
    rw [hg] at R0 b0 ⊢
    have HG := Lib.hid hg
    have hsz := heap_lt R0
    clear hg
    go_upto_region 2 with fail
    have q1 : Below w0.heap.size w0 (w0.alloc (.cells #[.string ⟨#[110, 111, 119]⟩, .int .i64 0, .slice none 0 0] 121)) := (Below.refl _ w0).alloc (Nat.le_refl _) _
    have X1 := heap_alloc_new w0 (.cells #[.string ⟨#[110, 111, 119]⟩, .int .i64 0, .slice none 0 0] 121)
    have R1 := below_at q1 R0 (heap_lt R0)
    have b1 := b0.trans (q1.mono (Nat.le_of_lt hsz))
    obtain ⟨y, hy⟩ : ∃ y, w0.heap.size = y := ⟨_, rfl⟩
    rw [hy] at X1 ⊢
    generalize w0.alloc (.cells #[.string ⟨#[110, 111, 119]⟩, .int .i64 0, .slice none 0 0] 121) = w1 at X1 R1 b1 ⊢
    clear R0 b0 hc0 q1 hy
    have f1 := (cells_of X1).1
    go_wp2_with ((with_reducible apply at_store_part 121); (case hx => exact rfl); (case hy => exact rfl); (case hg => exact R1); (case hle => simp); (case hi => kernel_rfl); (case h1 => kernel_rfl); (intro w3 g3 R3; replace R3 := Lib.hid R3))
    have R4 : w3.heap[g]? = some (.cells #[.string ⟨#[110, 111, 119]⟩, .int .i64 0, .slice none 0 0] 121 (0, 0)) := R3.out
    refine bodyPost_cell_tmp g _ _ _ rfl rfl R4 Tryz.underlying121 rfl (by kernel_rfl) rfl ?_
    exact ⟨rfl, by rw [HG.out]; exact below_grown b1 g3 (Nat.le_of_lt (heap_lt R1)) (Nat.le_refl _)⟩
  · go_enter Tryz.func102, Tryz.ntmps102
    go_upto_region 1 with fail
    change Code.wp _ _ _ _ (w.alloc (.cells lnZ 121))
    generalize w.alloc (.cells lnZ 121) = w0 at R0 b0 hc0 ⊢
    obtain ⟨g, hg⟩ : ∃ g, w.heap.size = g := ⟨_, rfl⟩
    rw [hg] at R0 b0 ⊢
    have HG := Lib.hid hg
    have hsz := heap_lt R0
    clear hg
    go_upto_region 2 with fail
    have q1 : Below w0.heap.size w0 (w0.alloc (.cells #[.string ⟨#[97, 100, 100, 114, 101, 115, 115]⟩, .int .i64 0, .slice none 0 0] 121)) := (Below.refl _ w0).alloc (Nat.le_refl _) _
    have X1 := heap_alloc_new w0 (.cells #[.string ⟨#[97, 100, 100, 114, 101, 115, 115]⟩, .int .i64 0, .slice none 0 0] 121)
    have R1 := below_at q1 R0 (heap_lt R0)
    have b1 := b0.trans (q1.mono (Nat.le_of_lt hsz))
    obtain ⟨y, hy⟩ : ∃ y, w0.heap.size = y := ⟨_, rfl⟩
    rw [hy] at X1 ⊢
    generalize w0.alloc (.cells #[.string ⟨#[97, 100, 100, 114, 101, 115, 115]⟩, .int .i64 0, .slice none 0 0] 121) = w1 at X1 R1 b1 ⊢
    clear R0 b0 hc0 q1 hy
    have f1 := (cells_of X1).1
    go_wp2_with ((with_reducible apply at_store_part 121); (case hx => exact rfl); (case hy => exact rfl); (case hg => exact R1); (case hle => simp); (case hi => kernel_rfl); (case h1 => kernel_rfl); (intro w3 g3 R3; replace R3 := Lib.hid R3))
    have R4 : w3.heap[g]? = some (.cells #[.string ⟨#[97, 100, 100, 114, 101, 115, 115]⟩, .int .i64 0, .slice none 0 0] 121 (0, 0)) := R3.out
    refine bodyPost_cell_tmp g _ _ _ rfl rfl R4 Tryz.underlying121 rfl (by kernel_rfl) rfl ?_
    exact ⟨rfl, by rw [HG.out]; exact below_grown b1 g3 (Nat.le_of_lt (heap_lt R1)) (Nat.le_refl _)⟩
end
section
open Go.RowKit

def tRun : List UInt8 := [110, 111, 119, 10, 97, 100, 100, 114, 101, 115, 115, 10]
theorem cut_run : cutB 10 tRun = [sNow, sAddr, []] := by kernel_rfl
theorem cut_word {s : List UInt8} (hs : s = sNow ∨ s = sAddr) : cutB 32 s = [s] := by
  rcases hs with rfl | rfl <;> kernel_rfl
def lnL (l : List (List UInt8)) : List Value := l.flatMap fun s => (lnC s).toList
theorem lnL_snoc (l : List (List UInt8)) (s : List UInt8) : lnL (l ++ [s]) = lnL l ++ (lnC s).toList := by simp [lnL]
abbrev LO (w : World) (H : Nat) (A : Option Addr) (n c : Nat) (l : List (List UInt8)) : Prop := TO w H 121 3 A n c l.length (lnL l)
theorem infoLn : (Tryz.prog.info? 121).map (fun i => (i.zero, i.size, i.bytes)) = some (some (.agg lnZ), 3, 48) := by kernel_rfl
/-- The two lines, by the number of those that are done. -/
def twoL : List (List UInt8) := [sNow, sAddr]
def ParseP (w : World) (e : Ending) (w' : World) : Prop := ∃ H A c, w.heap.size ≤ H ∧ e = .returned (.tuple #[.slice A 2 c, .int .i64 0]) ∧ LO w' H A 2 c twoL ∧ Below w.heap.size w w'
theorem two_at {i : Nat} (h : i < 2) : twoL[i]? = some (twoL.getD i []) ∧ (twoL.getD i [] = sNow ∨ twoL.getD i [] = sAddr) := by
  rcases (show i = 0 ∨ i = 1 by omega) with rfl | rfl
  · exact ⟨rfl, .inl rfl⟩
  · exact ⟨rfl, .inr rfl⟩
set_option maxRecDepth 100000 in
set_option maxHeartbeats 8000000 in
theorem sparse_any (w : World) (hm : mlIs w) : Calls Tryz.prog 30 #[.string (str tRun)] w (ParseP w) := by
  have hts : (str tRun).size = 12 := rfl
  have hsp := split_any w hm tRun 10 (by decide)
  rw [cut_run] at hsp
  obtain ⟨tr, htr⟩ : ∃ x, str tRun = x := ⟨_, rfl⟩
  rw [htr] at hts hsp ⊢
  clear htr
  go_enter Tryz.func30, Tryz.ntmps30
  go_wp2_with fail
  refine hsp.mono ?_
  rintro e w1 ⟨A, n, cc, rfl, ho, b1⟩
  obtain rfl : n = 3 := ho.1
  have hcap := ho.cap
  have m1 := hm.next b1
  obtain ⟨b, o, rfl, hbl, hc2⟩ := ho.at_ (k := 2) (s := []) rfl
  have hc0 := ho.row
  have hc2' : w1.cell? ⟨b, o + 2, none⟩ = some (.string ⟨#[]⟩) := hc2
  have HROW := Lib.hid hc0
  clear hsp ho hc2 hc0 hm
  go_wp2_with fail
  clear hc2'
  go_loopw [5, 37] (fun out v wr => ∃ (i : Nat) (A' : Option Addr) (c' : Nat), out = .slice A' i c' ∧ v = .int .i64 i ∧ i ≤ 2 ∧ TO wr w1.heap.size 121 3 A' i c' i (lnL (twoL.take i)) ∧ Below w1.heap.size w1 wr) (fun _ v _ => 2 - (intOf v).toNat)
  case atStart => exact ⟨0, none, 0, rfl, rfl, by omega, TO.nil_ _ _ _ _, Below.refl _ _⟩
  case round =>
    obtain ⟨i, A', c', rfl, rfl, hi, hl, bw⟩ := hrel
    have HL := Lib.hid hl
    have HBW := Lib.hid bw
    clear hl
    rcases Nat.lt_or_ge i 2 with hlt | hge
    · obtain ⟨hi2, hs⟩ := two_at hlt
      have hc := (HROW.out.below bw)
      have hsz := bw.size
      have hcell : wr.cell? ⟨b, o + i, none⟩ = some (.string (str (twoL.getD i []))) := by
        rcases hc with h | ⟨b', o', e, _, hcc⟩
        · cases h
        · injection e with e
          injection e with e1 e2
          subst e1 e2
          refine hcc i _ ?_
          rcases (show i = 0 ∨ i = 1 by omega) with rfl | rfl <;> rfl
      obtain ⟨s, hsE⟩ : ∃ s, twoL.getD i [] = s := ⟨_, rfl⟩
      rw [hsE] at hcell hi2 hs
      have HI2 := Lib.hid hi2
      have HS := Lib.hid hs
      have hbl2 : b < wr.heap.size := by omega
      have hne : (str s).toList.isEmpty = false := by rw [toList_str]; rcases hs with rfl | rfl <;> rfl
      have hspl := split_any wr (m1.next bw) s 32 (by rcases hs with rfl | rfl <;> decide)
      rw [cut_word hs] at hspl
      have hlti : decide ((i : Int) < 2) = true := decide_eq_true (by omega)
      have hin : (0 : Int) ≤ (i : Int) ∧ (i : Int) < 2 := by omega
      have w64 : IntKind.i64.wrap ((i : Int) + 1) = (i : Int) + 1 := IntWalk.i64_in _ (by omega)
      have HLT := Lib.hid hlt
      clear hc hi2 hs hsE hlt hi bw
      go_wp2_with fail
      refine hspl.mono ?_
      rintro e w3 ⟨A3, n3, c3, rfl, ho3, q3⟩
      obtain rfl : n3 = 1 := ho3.1
      obtain ⟨b3, o3, rfl, hb3, hc3⟩ := ho3.at_ (k := 0) (s := s) rfl
      have HB3 := Lib.hid (HBW.out.trans (q3.mono hsz))
      have HL3 := Lib.hid (HL.out.below q3)
      clear hspl hcell ho3 q3 hbl2
      rw [Nat.add_zero] at hc3
      go_wp2_with fail
      have hsz3 : w1.heap.size ≤ w3.heap.size := HB3.out.size
      go_loopw [8, 44] (fun l v wq => (l = .slice none 0 0 ∧ v = .int .i64 0 ∧ wq = w3) ∨ (v = .int .i64 1 ∧ ∃ A4 c4, l = .slice A4 1 c4 ∧ SO wq w3.heap.size A4 1 c4 [s] ∧ Below w3.heap.size w3 wq)) (fun _ v _ => 1 - (intOf v).toNat)
      case atStart => exact .inl ⟨rfl, rfl, rfl⟩
      case round =>
        rcases hrel with ⟨rfl, rfl, rfl⟩ | ⟨rfl, A4, c4, rfl, ho4, q4⟩
        · rename_i wr
          have hS0 : SO wr wr.heap.size none 0 0 [] := ⟨rfl, World.ownsRow_nil _ _ _ _⟩
          go_wp2_with (at_builtin; go_must (refine appS rfl _ _ rfl wr.heap.size none 0 0 [] rfl (hS0.alloc _) wr.heap.size 1 s rfl ((cells_of (heap_alloc_new wr _)).1 0) (by simp) (by simp) (by simp) ?_))
          intro A5 n5 c5 w5 ho5 hb5 hg5
          obtain rfl : n5 = 1 := ho5.1
          have q5 : Below wr.heap.size wr w5 := ((Below.refl _ wr).alloc (Nat.le_refl _) _).trans hb5
          go_wp2_with fail
          go_roundw
          case rel => exact .inr ⟨rfl, A5, c5, rfl, ho5, q5⟩
          case measure => simp [intOf]
        · have hcap4 := ho4.cap
          obtain ⟨b4, o4, rfl, hb4, hc4⟩ := ho4.at_ (k := 0) (s := s) rfl
          have HB4 := Lib.hid (HB3.out.trans (q4.mono hsz3))
          have HL4 := Lib.hid (HL3.out.below q4)
          rw [Nat.add_zero] at hc4
          clear ho4 q4
          go_wp2_with fail
          refine (read_one wr b4 o4 c4 s HS.out hc4 hb4 hcap4).mono ?_
          rintro e w6 ⟨rfl, q6⟩
          have HB6 := Lib.hid (HB4.out.trans (q6.mono HB4.out.size))
          have HL6 := Lib.hid (HL4.out.below q6)
          clear hc4 hb4 hcap4 q6
          go_upto_region 21 with fail
          have q7 : Below w6.heap.size w6 (w6.alloc (.cells (lnC s) 121)) := (Below.refl _ w6).alloc (Nat.le_refl _) _
          have X7 := heap_alloc_new w6 (.cells (lnC s) 121)
          have HB7 := Lib.hid (HB6.out.trans (q7.mono HB6.out.size))
          have HL7 := Lib.hid (HL6.out.below q7)
          obtain ⟨y, hy⟩ : ∃ y, w6.heap.size = y := ⟨_, rfl⟩
          rw [hy] at X7 ⊢
          generalize w6.alloc (.cells (lnC s) 121) = w7 at X7 HB7 HL7 ⊢
          clear q7 hy HB6 HL6
          have f7 := (cells_of X7).1
          have q8 : Below w7.heap.size w7 (w7.alloc (.cells (lnC s) 121)) := (Below.refl _ w7).alloc (Nat.le_refl _) _
          have HN8 := Lib.hid (heap_alloc_new w7 (.cells (lnC s) 121))
          have HL8 := Lib.hid (HL7.out.below q8)
          have HB8 := Lib.hid (HB7.out.trans (q8.mono HB7.out.size))
          have hz8 : w1.heap.size ≤ (w7.alloc (.cells (lnC s) 121)).heap.size := HB8.out.size
          clear q8
          go_wp2_with (at_builtin; go_must (refine wpList_appT rfl _ _ 111 121 3 48 _ Tryz.underlying111 infoLn rfl (by omega) (by omega) rfl w1.heap.size A' i _ _ (lnL (twoL.take i)) rfl HL8.out w7.heap.size 1 rfl (lnC s) rfl HN8.out (by simp [Value.oneCell']) (by have := HLT.out; omega) hz8 ?_))
          intro A9 c9 w9 L9 b9 g9
          have HL9 := Lib.hid (show TO w9 w1.heap.size 121 3 A9 (i + 1) c9 (i + 1) (lnL (twoL.take (i + 1))) by rw [List.take_add_one, HI2.out, Option.toList_some, lnL_snoc]; exact L9)
          have HB9 := Lib.hid (HB8.out.trans b9)
          clear L9 b9 g9 f7 X7 hz8
          go_wp2_with fail
          go_roundw
          case rel => exact ⟨i + 1, A9, c9, rfl, by push_cast; rfl, HLT.out, HL9.out, HB9.out⟩
          case measure => have := HLT.out; simp [intOf]; omega
    · obtain rfl : i = 2 := by omega
      have b2 := b1.trans (HBW.out.mono b1.size)
      go_wp2_with fail
      go_ret2
      exact ⟨w1.heap.size, A', c', b1.size, rfl, HL.out, b2⟩
end
end
section
open Go.RowKit

theorem LO.rowL {w : World} {H n c k : Nat} {t : TypeId} {K : Nat} {A : Option Addr} {l : List Value} (h : TO w H t K A n c k l) (hl : l ≠ []) : ∃ b o, A = some ⟨b, o, none⟩ ∧ b < w.heap.size ∧ (∀ j u, l[j]? = some u → w.cell? ⟨b, o + j, none⟩ = some u) ∧ n ≤ c := by
  obtain ⟨hn, h⟩ := h
  rcases h.2 with ⟨hv, h0⟩ | ⟨g, cap, cur, hv, _, hg, hnc, _⟩
  · exact absurd (List.eq_nil_of_length_eq_zero (by simpa [h0] using h.1)) hl
  · injection hv with hA _ e
    subst hA
    refine ⟨g, 0, rfl, (Array.getElem?_eq_some_iff.1 hg).1, fun j u hu => ?_, by omega⟩
    have := h.cells (g := g) rfl j u hu
    rwa [Addr.add_lit] at this
/-- What stands in the builder behind so many lines. -/
def outT : Nat → List UInt8
  | 0 => []
  | 1 => [48, 10]
  | _ => [48, 10, 110, 111, 110, 101, 10]
set_option maxRecDepth 100000 in
set_option maxHeartbeats 8000000 in
theorem run_any (w : World) (hm : mlIs w) (c : Cf) (U : UsI c) : Calls Tryz.prog 11 #[.agg (cfC c nilS nilS), .string (str tRun)] w (fun e w' => e = .returned (.tuple #[.string ⟨#[48, 10, 110, 111, 110, 101, 10]⟩, .int .i64 0]) ∧ Below w.heap.size w w') := by
  have P0 := heap_alloc_new w (.cells (cfC c nilS nilS) 76)
  have b0 : Below w.heap.size w (w.alloc (.cells (cfC c nilS nilS) 76)) := (Below.refl _ w).alloc (Nat.le_refl _) _
  have m0 := hm.next b0
  have HU := Lib.hid U
  obtain ⟨tr, htr⟩ : ∃ x, str tRun = x := ⟨_, rfl⟩
  have HT := Lib.hid htr
  rw [htr]
  clear U hm htr
  go_enter Tryz.func11, Tryz.ntmps11
  go_upto_region 1 with fail
  generalize w.alloc (.cells (cfC c nilS nilS) 76) = w0 at P0 b0 m0 ⊢
  obtain ⟨g0, hg⟩ : ∃ g, w.heap.size = g := ⟨_, rfl⟩
  rw [hg] at P0 ⊢
  have HB := Lib.hid b0
  clear hg b0
  go_wp2_with ((with_reducible apply at_load_row 76); (case hx => exact rfl); (case hg => exact P0); (case hu => exact Tryz.underlying76); (case hd => rfl); (case hi => kernel_rfl))
  refine (gateNew_any w0 c HU.out).mono ?_
  rintro e w1 ⟨⟨g, rfl, G1⟩, q1⟩
  have HB1 := Lib.hid (HB.out.trans (q1.mono HB.out.size))
  have m1 := m0.next q1
  clear P0 HB q1 m0
  go_wp2_with fail
  have hpa := sparse_any w1 m1
  rw [HT.out] at hpa
  refine hpa.mono ?_
  rintro e w2 ⟨H, A, k, hH, rfl, L2, q2⟩
  have HB2 := Lib.hid (HB1.out.trans (q2.mono HB1.out.size))
  have G2 := G1.next q2
  obtain ⟨b, o, rfl, hb, hcs, hk⟩ := LO.rowL L2 (by decide)
  have hrow : Row w2 w2.heap.size (some ⟨b, o, none⟩) (lnL twoL) := .inr ⟨b, o, rfl, hb, hcs⟩
  clear hpa m1 G1 HB1 q2 L2 hcs hH
  go_upto_region 8 with fail
  have q3 : Below w2.heap.size w2 (w2.alloc (.cells #[ptr g, .int .u32 0] 116)) := (Below.refl _ w2).alloc (Nat.le_refl _) _
  have L3 : PL (w2.alloc (.cells #[ptr g, .int .u32 0] 116)) w2.heap.size g := ⟨heap_alloc_new w2 _, G2.next q3⟩
  obtain ⟨pb, hpb⟩ : ∃ p, w2.heap.size = p := ⟨_, rfl⟩
  have HR3 := Lib.hid (hrow.below q3)
  have HB3 := Lib.hid (HB2.out.trans (q3.mono HB2.out.size))
  have hb3 : b < (w2.alloc (.cells #[ptr g, .int .u32 0] 116)).heap.size := Nat.lt_of_lt_of_le hb q3.size
  rw [hpb] at L3 ⊢
  generalize w2.alloc (.cells #[ptr g, .int .u32 0] 116) = w3 at L3 HR3 HB3 hb3 ⊢
  clear G2 HB2 q3 hrow hb hpb
  go_upto_region 9 with fail
  have B4 := BB.made w3
  have q4 : Below w3.heap.size w3 (w3.alloc (.cells #[.pointer none, .slice none 0 0] 119)) := (Below.refl _ w3).alloc (Nat.le_refl _) _
  obtain ⟨bb, hbb⟩ : ∃ p, w3.heap.size = p := ⟨_, rfl⟩
  have HBB := Lib.hid hbb
  rw [hbb] at B4 q4 ⊢
  generalize w3.alloc (.cells #[.pointer none, .slice none 0 0] 119) = w4 at B4 q4 ⊢
  clear hbb
  go_wp2_with fail
  go_loopw [34] (fun v wr => ∃ i : Nat, v = .int .i64 i ∧ i ≤ 2 ∧ BB bb bb (outT i) wr ∧ Below bb w3 wr) (fun v _ => 2 - (intOf v).toNat)
  case atStart => exact ⟨0, rfl, by omega, B4, q4⟩
  case round =>
    clear B4 q4
    obtain ⟨i, rfl, hi, B5, q5⟩ := hrel
    have q5' : Below w3.heap.size w3 wr := by rw [HBB.out]; exact q5
    have L5 := L3.next q5'
    have hbl : bb ≤ wr.heap.size := by have := q5.size; rw [HBB.out] at this; exact this
    have hcell : ∀ j u, (lnL twoL)[j]? = some u → wr.cell? ⟨b, o + j, none⟩ = some u := fun j u hu => (World.cell?_of_block (w := w3) (a := ⟨b, o + j, none⟩) (q5'.block b hb3)).trans (by
      rcases HR3.out with h | ⟨b', o', e, _, h⟩
      · cases h
      · injection e with e; injection e with e1 e2; subst e1 e2; exact h j u hu)
    have HB5 := Lib.hid (HB3.out.trans (q5'.mono HB3.out.size))
    rcases (show i = 0 ∨ i = 1 ∨ i = 2 by omega) with rfl | rfl | rfl
    · have hra : wr.rangeAt b (o + 0) (lnC sNow).toList := fun j v hj => by
        have hj3 : j < 3 := (List.getElem?_eq_some_iff.1 hj).1
        have := hcell (0 + j) v (by rcases (show j = 0 ∨ j = 1 ∨ j = 2 by omega) with rfl | rfl | rfl <;> exact hj)
        rwa [← Nat.add_assoc] at this
      clear hcell
      go_upto_region 12 with (first | ((with_reducible apply at_load_mid 121); (case hx => exact rfl); (case hc => exact hra); (case hu => exact Tryz.underlying121); (case hd => rfl); (case hi => kernel_rfl)) | ((with_reducible apply at_store_new 121); (case hx => exact rfl); (case hy => exact rfl); (case hg => first | rfl | simp); (case hi => kernel_rfl); (case hold => rfl); (case h1 => kernel_rfl)))
      have X6 := heap_alloc_new wr (.cells (lnC sNow) 121)
      have q6 : Below wr.heap.size wr (wr.alloc (.cells (lnC sNow) 121)) := (Below.refl _ wr).alloc (Nat.le_refl _) _
      have L6 := L5.next q6
      have B6 := B5.next q6
      have q36 := q5.trans (q6.mono hbl)
      obtain ⟨y, hy⟩ : ∃ y, wr.heap.size = y := ⟨_, rfl⟩
      rw [hy] at X6 ⊢
      generalize wr.alloc (.cells (lnC sNow) 121) = w6 at X6 L6 B6 q36 ⊢
      clear hra L5 B5 q5 q5' HB5 q6 hy
      go_wp2_with ((with_reducible apply at_load_row 121); (case hx => exact rfl); (case hg => exact X6); (case hu => exact Tryz.underlying121); (case hd => rfl); (case hi => kernel_rfl))
      refine (play_now w6 pb g L6).mono ?_
      rintro e w7 ⟨rfl, q7⟩
      have B7 := B6.next q7
      have hb6 : bb ≤ w6.heap.size := by have := q36.size; rw [HBB.out] at this; exact this
      have q37 := q36.trans (q7.mono hb6)
      have hb7 : bb ≤ w7.heap.size := by have := q37.size; rw [HBB.out] at this; exact this
      clear X6 L6 B6 q36 q7 hb6
      go_wp2_with fail
      refine (bwrite_any bb bb (outT 0) _ w7 B7 (by decide) hb7).mono ?_
      rintro e w8 ⟨rfl, B8, q8, _⟩
      have q38 := q37.trans q8
      clear B7 q37 q8 hb7
      go_wp2_with fail
      go_roundw
      case rel => exact ⟨1, rfl, by omega, B8, q38⟩
      case measure => simp [intOf]
    · have hra : wr.rangeAt b (o + 3) (lnC sAddr).toList := fun j v hj => by
        have hj3 : j < 3 := (List.getElem?_eq_some_iff.1 hj).1
        have := hcell (3 + j) v (by rcases (show j = 0 ∨ j = 1 ∨ j = 2 by omega) with rfl | rfl | rfl <;> exact hj)
        rwa [← Nat.add_assoc] at this
      clear hcell
      go_upto_region 12 with (first | ((with_reducible apply at_load_mid 121); (case hx => exact rfl); (case hc => exact hra); (case hu => exact Tryz.underlying121); (case hd => rfl); (case hi => kernel_rfl)) | ((with_reducible apply at_store_new 121); (case hx => exact rfl); (case hy => exact rfl); (case hg => first | rfl | simp); (case hi => kernel_rfl); (case hold => rfl); (case h1 => kernel_rfl)))
      have X6 := heap_alloc_new wr (.cells (lnC sAddr) 121)
      have q6 : Below wr.heap.size wr (wr.alloc (.cells (lnC sAddr) 121)) := (Below.refl _ wr).alloc (Nat.le_refl _) _
      have L6 := L5.next q6
      have B6 := B5.next q6
      have q36 := q5.trans (q6.mono hbl)
      obtain ⟨y, hy⟩ : ∃ y, wr.heap.size = y := ⟨_, rfl⟩
      rw [hy] at X6 ⊢
      generalize wr.alloc (.cells (lnC sAddr) 121) = w6 at X6 L6 B6 q36 ⊢
      clear hra L5 B5 q5 q5' HB5 q6 hy
      go_wp2_with ((with_reducible apply at_load_row 121); (case hx => exact rfl); (case hg => exact X6); (case hu => exact Tryz.underlying121); (case hd => rfl); (case hi => kernel_rfl))
      refine (play_addr w6 pb g L6).mono ?_
      rintro e w7 ⟨rfl, q7⟩
      have B7 := B6.next q7
      have hb6 : bb ≤ w6.heap.size := by have := q36.size; rw [HBB.out] at this; exact this
      have q37 := q36.trans (q7.mono hb6)
      have hb7 : bb ≤ w7.heap.size := by have := q37.size; rw [HBB.out] at this; exact this
      clear X6 L6 B6 q36 q7 hb6
      go_wp2_with fail
      refine (bwrite_any bb bb (outT 1) _ w7 B7 (by decide) hb7).mono ?_
      rintro e w8 ⟨rfl, B8, q8, _⟩
      have q38 := q37.trans q8
      clear B7 q37 q8 hb7
      go_wp2_with fail
      go_roundw
      case rel => exact ⟨2, rfl, by omega, B8, q38⟩
      case measure => simp [intOf]
    · clear hcell
      go_wp2_with fail
      refine (bstring_any bb bb (outT 2) wr B5 hbl).mono ?_
      rintro e w7 ⟨rfl, q7⟩
      have b7 := HB3.out.trans ((q5.trans q7).mono (by have := HB3.out.size; rw [HBB.out] at this; exact this))
      clear B5 q5 q5' HB5 L5 q7
      go_wp2_with fail
      go_ret2
      exact ⟨rfl, b7⟩
set_option maxRecDepth 100000 in
set_option maxHeartbeats 4000000 in
theorem awakeT_any (w : World) (hm : mlIs w) : Calls Tryz.prog 4 #[] w (fun e w' => e = .returned (.bool true) ∧ Below w.heap.size w w') := by
  have e0 : (⟨#[110, 111, 119, 10, 97, 100, 100, 114, 101, 115, 115, 10]⟩ : ByteArray) = str tRun := rfl
  go_enter Tryz.func4, Tryz.ntmps4
  go_wp2_with fail
  refine (usual_any w).mono ?_
  rintro e w1 ⟨rfl, q1⟩
  have HR := Lib.hid (run_any w1 (hm.next q1) usC usI)
  clear hm
  go_wp2_with fail
  refine HR.out.mono ?_
  rintro e w2 ⟨rfl, q2⟩
  have b2 := q1.trans (q2.mono q1.size)
  clear HR q1 q2
  go_wp2_with fail
  go_ret
  exact ⟨rfl, b2⟩
end
end Go.Proofs.YtccbdaffjkdpgaaGreatDoor
