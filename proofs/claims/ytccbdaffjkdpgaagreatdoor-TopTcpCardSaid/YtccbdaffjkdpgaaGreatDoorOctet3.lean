/-
  Contracts of package octet: number, U8, U16, U32, Left, Short.
-/
import Derived.Test.YtccbdaffjkdpgaaGreatDoorChecked
import Derived.Test.YtccbdaffjkdpgaaGreatDoorBase
namespace Go.Proofs.YtccbdaffjkdpgaaGreatDoor
section
open Go.RowKit

theorem infoU8 : (Tryz.prog.info? 5).map (fun i => (i.zero, i.size, i.bytes)) = some (some (.int .u8 0), 1, 1) := by kernel_rfl

/-- A byte slice that reads as the list l, below block B. -/
def BS (w : World) (B : Nat) (A : Option Addr) (n c : Nat) (l : List UInt8) : Prop := n = l.length ∧ n ≤ c ∧ c ≤ maxLen ∧ Row w B A (bv l)
/-- A byte slice of the call's own: its row lies in a block from H on. -/
def OB (w : World) (H : Nat) (A : Option Addr) (n c : Nat) (l : List UInt8) : Prop := n = l.length ∧ w.ownsRow H 5 1 (.slice A n c) n (bv l)
/-- A reader at block g: what is left; whether something was short. -/
def Rd (w : World) (g : Nat) (l : List UInt8) (sh : Bool) : Prop :=
  ∃ A n c, w.heap[g]? = some (.cells #[.slice A n c, .bool sh] 460 (0, 0)) ∧ BS w g A n c l

section
variable {w w' : World} {B B' H n c : Nat} {A : Option Addr} {l : List UInt8}
theorem OB.bs (h : OB w H A n c l) : BS w w.heap.size A n c l := by
  obtain ⟨hn, ho⟩ := h
  refine ⟨hn, ?_, ?_, Row.of_own ho⟩
  · rcases ho.2 with ⟨hv, h0⟩ | ⟨g, cap, cur, hv, _, _, hnc, _⟩
    · omega
    · injection hv with _ _ e; omega
  · rcases ho.2 with ⟨hv, h0⟩ | ⟨g, cap, cur, hv, _, _, _, hcm, _⟩
    · injection hv with _ _ e; subst e; unfold maxLen; omega
    · injection hv with _ _ e; omega
theorem OB.empty (w : World) (o : Array Value) (H g : Nat) (hg : w.heap.size = g) (hH : H ≤ g) (ho : o = #[]) : OB (w.alloc (.cells o 5)) H (some ⟨g, 0, none⟩) 0 0 [] := by
  subst ho; subst hg
  exact ⟨rfl, World.ownsRow_made w #[] 0 hH (by simp [maxLen]) rfl⟩
theorem OB.alloc (h : OB w H A n c l) (o : Obj) : OB (w.alloc o) H A n c l := ⟨h.1, h.2.alloc o⟩
theorem OB.drew (h : OB w H A n c l) : OB w.drew H A n c l := h
theorem BS.below (h : BS w B A n c l) (hb : Below B w w') : BS w' B A n c l := ⟨h.1, h.2.1, h.2.2.1, h.2.2.2.below hb⟩
theorem BS.more (h : BS w B A n c l) (hB : B ≤ B') : BS w B' A n c l := ⟨h.1, h.2.1, h.2.2.1, h.2.2.2.more hB⟩
theorem BS.alloc (h : BS w B A n c l) (hB : B ≤ w.heap.size) (o : Obj) : BS (w.alloc o) B A n c l := ⟨h.1, h.2.1, h.2.2.1, h.2.2.2.alloc hB o⟩
theorem BS.drew (h : BS w B A n c l) : BS w.drew B A n c l := h
theorem BS.grown (h : BS w B A n c l) {g : Option Nat} (hg : w.grownBy w' g) (hB : B ≤ w.heap.size) (hr : ∀ k, g = some k → B ≤ k) : BS w' B A n c l := ⟨h.1, h.2.1, h.2.2.1, h.2.2.2.grown hg hB hr⟩
end

/-- append(own row of bytes, bytes...). -/
theorem app8 {w : World} {ops : Array Oper} {rest : List Oper} {o : Oper} {a : Act} {Q : Exit → Act → World → Prop} (hgd : o.guard = none) (s x : Operand)
    (ho : o.op = .call { callee := .builtin .append, args := #[s, x], argTypes := #[27, 27] })
    (H : Nat) (A : Option Addr) (n c : Nat) (l : List UInt8) (hs : a.eval s = .slice A n c) (hown : OB w H A n c l)
    (B : Nat) (A2 : Option Addr) (n2 c2 : Nat) (l2 : List UInt8) (hx : a.eval x = .slice A2 n2 c2) (hr : BS w B A2 n2 c2 l2)
    (hlen : l.length + l2.length ≤ 140737488355328) (hbase : H ≤ w.heap.size)
    (h : ∀ A' n' c' w', OB w' H A' n' c' (l ++ l2) → Below H w w' → w.grownBy w' (Value.slice A n c).ownBlock → wpList Tryz.prog ops Q rest (a.put o.dst (.slice A' n' c')) w') : wpList Tryz.prog ops Q (o :: rest) a w := by
  obtain ⟨i0, hi, hz0, hz1, hz2⟩ := info_parts infoU8
  obtain ⟨rfl, hown⟩ := hown
  obtain ⟨rfl, hnc, hcm, hr⟩ := hr
  refine wpList_app w hgd s x 27 ho 5 i0 (.int .u8 0) 1 Tryz.underlying27 hi hz0 hz1 hz2 rfl H _ _ _ hs hown B A2 _ c2 (bv l2) hx hr (bv_length l2) (bv_one l2) (by unfold maxLen; omega) (by omega) hbase ?_
  intro A' c' w' ho' hg _
  exact h A' (l.length + l2.length) c' w' ⟨by simp, by rw [bv_append]; exact ho'⟩ ((Below.refl H w).grown hg hbase fun k hk => (hown.lt k hk).1) hg

def ReadPost (w : World) (l : List UInt8) (e : Ending) (w' : World) : Prop :=
  ∃ g, e = .returned (.pointer (some ⟨g, 0, none⟩)) ∧ w.heap.size ≤ g ∧ Rd w' g l false ∧ Below w.heap.size w w'

set_option maxHeartbeats 400000 in
theorem read_any (w : World) (A : Option Addr) (n c : Nat) (l : List UInt8) (h : BS w w.heap.size A n c l) (hl : l.length ≤ 1099511627776) :
    Calls Tryz.prog 186 #[.slice A n c] w (ReadPost w l) := by
  go_enter Tryz.func186, Tryz.ntmps186
  go_wp2_with (at_builtin; refine app8 rfl _ _ rfl w.heap.size _ 0 0 [] rfl (OB.empty w _ _ _ rfl (Nat.le_refl _) rfl) w.heap.size A n c l rfl (h.alloc (Nat.le_refl _) _) (by simp; omega) (by simp) ?_)
  intro A' n' c' w1 ho hb _
  have hz := hb.size
  go_wp2
  go_ret
  refine ⟨w1.heap.size, rfl, by simp at hz; omega, ⟨A', n', c', heap_alloc_new w1 _, ?_⟩, ?_⟩
  · exact (ho.bs.alloc (Nat.le_refl _) _)
  · exact ((((Below.refl _ _).alloc (Nat.le_refl _) _).trans hb).alloc (by simp at hz; omega) _)
end
section
open Go.RowKit

def BytesPost (w : World) (g : Nat) (l m : List UInt8) (sh : Bool) (e : Ending) (w' : World) : Prop :=
  ∃ A n c, e = .returned (.slice A n c) ∧ OB w' w.heap.size A n c m ∧ Rd w' g l sh ∧ w.grownBy w' (some g)

theorem BS.take {w : World} {B n c k : Nat} {A : Option Addr} {l : List UInt8} (h : BS w B A n c l) (hk : k ≤ n) (c' : Nat) (hkc : k ≤ c') (hc : c' ≤ maxLen) : BS w B A k c' (l.take k) :=
  ⟨by have := h.1; simp; omega, hkc, hc, by have := h.2.2.2.take k; rwa [bv_take] at this⟩
theorem BS.drop {w : World} {B n c k : Nat} {A : Option Addr} {l : List UInt8} (h : BS w B A n c l) (hk : k ≤ n) : BS w B (if c = k then A else A.map (·.add k)) (n - k) (c - k) (l.drop k) :=
  ⟨by have := h.1; simp; omega, by have := h.2.1; omega, by have := h.2.2.1; omega, by have := h.2.2.2.drop (k := k) (c := c) (by rw [bv_length]; have := h.1; have := h.2.1; omega); rwa [bv_drop] at this⟩
theorem BS.setCell {w : World} {B n c : Nat} {A : Option Addr} {l : List UInt8} (h : BS w B A n c l) {p : Addr} (hp : B ≤ p.block) (u : Value) : BS (w.setCell p u) B A n c l :=
  ⟨h.1, h.2.1, h.2.2.1, h.2.2.2.setCell hp u⟩

def TruePost (w : World) (e : Ending) (w' : World) : Prop := e = .returned (.bool true) ∧ Below w.heap.size w w'

theorem BS.block {w : World} {g : Nat} {cs : Array Value} {t : TypeId} {fr : Nat × Nat} (l : List UInt8) (h : w.heap[g]? = some (.cells cs t fr)) (hc : cs = (bv l).toArray) (hl : l.length ≤ maxLen) :
    BS w w.heap.size (some ⟨g, 0, none⟩) l.length l.length l := by
  refine ⟨rfl, Nat.le_refl _, hl, .inr ⟨g, 0, rfl, (Array.getElem?_eq_some_iff.1 h).1, fun j u hu => ?_⟩⟩
  subst hc
  rw [Nat.zero_add, cell_of_row w g j _ t fr h]
  simpa using hu

theorem below_grown {a w w' : World} {g H : Nat} (h : Below H a w) (hg : w.grownBy w' (some g)) (hH : H ≤ w.heap.size) (hgH : H ≤ g) : Below H a w' :=
  h.grown hg hH fun k hk => by injection hk with e; omega

theorem OB.grown {w w' : World} {H n c g : Nat} {A : Option Addr} {l : List UInt8} (h : OB w H A n c l) (hg : w.grownBy w' (some g)) (hH : g < H) : OB w' H A n c l :=
  ⟨h.1, h.2.kept hg (by
    rcases ho : (Value.slice A n c).ownBlock with _ | k
    · exact .inl rfl
    · have := (h.2.lt k ho).1
      exact .inr (by intro e; injection e with e; omega))⟩
theorem OB.setLow {w : World} {H n c : Nat} {A : Option Addr} {l : List UInt8} (h : OB w H A n c l) {p : Addr} (hp : p.block < H) (u : Value) : OB (w.setCell p u) H A n c l :=
  ⟨h.1, ownsRow_setCell_below h.2 hp u⟩
theorem OB.lower {w : World} {H H' n c : Nat} {A : Option Addr} {l : List UInt8} (h : OB w H A n c l) (hH : H' ≤ H) : OB w H' A n c l :=
  ⟨h.1, h.2.1, by
    rcases h.2.2 with h0 | ⟨g, cap, cur, hv, hb, rest⟩
    · exact .inl h0
    · exact .inr ⟨g, cap, cur, hv, Nat.le_trans hH hb, rest⟩⟩
theorem OB.below {w w' : World} {H n c : Nat} {A : Option Addr} {l : List UInt8} (h : OB w H A n c l) (hb : Below w.heap.size w w') : OB w' H A n c l :=
  ⟨h.1, h.2.kept (row := none) ⟨hb.os, hb.tape, hb.output, hb.size, fun k hk _ => hb.block k hk⟩ (by
    rcases ho : (Value.slice A n c).ownBlock with _ | k
    · exact .inl rfl
    · exact .inr (by simp))⟩
theorem heap_set_cells {w : World} {g k : Nat} {cs : Array Value} {t : TypeId} {fr : Nat × Nat} (h : w.heap[g]? = some (.cells cs t fr)) (v : Value) :
    (w.setCell ⟨g, k, none⟩ v).heap[g]? = some (.cells (cs.setIfInBounds k v) t fr) := by
  simp [World.setCell, Array.getElem?_modify, h]
theorem heap_lt {w : World} {g : Nat} {o : Obj} (h : w.heap[g]? = some o) : g < w.heap.size := (Array.getElem?_eq_some_iff.1 h).1
theorem grown_setCell {a w : World} {g : Nat} (h : a.grownBy w (some g)) (k : Nat) (u : Value) : a.grownBy (w.setCell ⟨g, k, none⟩ u) (some g) :=
  ⟨h.os, h.tape, h.output, by simpa [World.setCell] using h.size, fun i hi hne => (Below.heap_setCell w _ u i (by rintro rfl; exact hne rfl)).trans (h.block i hi hne)⟩
theorem grown_alloc {a w : World} {row : Option Nat} (h : a.grownBy w row) (o : Obj) : a.grownBy (w.alloc o) row :=
  ⟨h.os, h.tape, h.output, Nat.le_trans h.size (by simp), fun i hi hne => (Below.heap_alloc w o i (Nat.lt_of_lt_of_le hi h.size)).trans (h.block i hi hne)⟩
theorem grown_drew {a w : World} {row : Option Nat} (h : a.grownBy w row) : a.grownBy w.drew row := ⟨h.os, h.tape, h.output, h.size, h.block⟩
theorem grown_drewN {a w : World} {row : Option Nat} (h : a.grownBy w row) (k : Nat) : a.grownBy (w.drewN k) row := ⟨h.os, h.tape, h.output, h.size, h.block⟩
theorem grown_below {a w w' : World} {row : Option Nat} {H : Nat} (h : a.grownBy w row) (hb : Below H w w') (hH : a.heap.size ≤ H) : a.grownBy w' row :=
  ⟨hb.os.trans h.os, hb.tape.trans h.tape, hb.output.trans h.output, Nat.le_trans h.size hb.size, fun i hi hne => (hb.block i (by omega)).trans (h.block i hi hne)⟩

theorem Rd.lt {w : World} {g : Nat} {l : List UInt8} {sh : Bool} (h : Rd w g l sh) : g < w.heap.size := by
  obtain ⟨A, n, c, hg, _⟩ := h
  exact heap_lt hg
theorem Rd.below {w w' : World} {g H : Nat} {l : List UInt8} {sh : Bool} (h : Rd w g l sh) (hb : Below H w w') (hH : g < H) : Rd w' g l sh := by
  obtain ⟨A, n, c, hg, hs⟩ := h
  exact ⟨A, n, c, (hb.block g hH).trans hg, hs.below (hb.mono (by omega))⟩
theorem Rd.drew {w : World} {g : Nat} {l : List UInt8} {sh : Bool} (h : Rd w g l sh) : Rd w.drew g l sh := h
theorem Rd.alloc {w : World} {g : Nat} {l : List UInt8} {sh : Bool} (h : Rd w g l sh) (o : Obj) : Rd (w.alloc o) g l sh :=
  h.below ((Below.refl _ w).alloc (Nat.le_refl _) o) h.lt
theorem Rd.grown {w w' : World} {g g' : Nat} {l : List UInt8} {sh : Bool} (h : Rd w g l sh) (hb : w.grownBy w' (some g')) (hH : g < g') : Rd w' g l sh := by
  have hlt := h.lt
  obtain ⟨A, n, c, hg, hs⟩ := h
  exact ⟨A, n, c, (hb.block g (heap_lt hg) (by intro e; injection e with e; omega)).trans hg, hs.grown hb (by omega) (fun k hk => by injection hk with e; omega)⟩

set_option maxHeartbeats 400000 in
theorem bytes_ok (w : World) (g k : Nat) (l : List UInt8) (sh : Bool) (h : Rd w g l sh) (hl : l.length ≤ 1099511627776) (hk : k ≤ l.length) :
    Calls Tryz.prog 189 #[.pointer (some ⟨g, 0, none⟩), .int .i64 k] w (BytesPost w g (l.drop k) (l.take k) sh) := by
  obtain ⟨A, n, c, hg, hb⟩ := h
  have hn := hb.1
  have hkn : k ≤ n := by omega
  have hnl : n ≤ 1099511627776 := by omega
  have hnc : n ≤ c := hb.2.1
  have hd := hb.drop hkn
  clear hn hk
  have c0 : w.cell? ⟨g, 0, none⟩ = some (.slice A n c) := by simp [World.cell?, hg]
  have f0 : ∀ o, w.frozen? ⟨g, o, none⟩ = false := by intro o; simp [World.frozen?, hg]
  have HG := Lib.hid hg
  clear hg
  obtain ⟨Ak, hAk⟩ : ∃ Ak, (if c = k then A else Option.map (fun x => x.add k) A) = Ak := ⟨_, rfl⟩
  rw [hAk] at hd
  go_enter Tryz.func189, Tryz.ntmps189
  go_wp2_with (at_builtin; refine app8 rfl _ _ rfl w.heap.size _ 0 0 [] rfl (OB.empty _ _ _ _ ?h0 (Nat.le_refl _) rfl) g _ k _ (l.take k) rfl ?h1 ?h2 ?h3 ?_)
  case h0 => simp [World.setCell]
  case h1 => exact ((hb.take hkn k (Nat.le_refl _) (by have := hb.2.2.1; omega)).setCell (p := ⟨g, 0, none⟩) (Nat.le_refl _) _).alloc (by have := heap_lt HG.out; simp [World.setCell]; omega) _
  case h2 => simp; omega
  case h3 => simp [World.setCell]
  intro A' n' c' w1 ho hb1 _
  go_wp2
  go_ret
  have hgl := heap_lt HG.out
  have hgr : w.grownBy w1 (some g) := grown_below (grown_alloc (grown_setCell (World.grownBy.refl w (some g)) 0 _) _) hb1 (Nat.le_refl _)
  refine ⟨A', n', c', rfl, ho, ⟨Ak, n - k, c - k, ?_, ?_⟩, hgr⟩
  · rw [hb1.block g hgl, Below.heap_alloc _ _ _ (by simpa [World.setCell] using hgl), heap_set_cells HG.out]
    rfl
  · exact (((hd.setCell (p := ⟨g, 0, none⟩) (Nat.le_refl _) _).alloc (by simp [World.setCell]; omega) _).below (hb1.mono (by omega)))

set_option maxHeartbeats 400000 in
theorem bytes_short (w : World) (g : Nat) (k : Int) (l : List UInt8) (sh : Bool) (h : Rd w g l sh) (_hl : l.length ≤ 1099511627776) (hk : k < 0 ∨ l.length < k) :
    Calls Tryz.prog 189 #[.pointer (some ⟨g, 0, none⟩), .int .i64 k] w (BytesPost w g [] [] true) := by
  obtain ⟨A, n, c, hg, hb⟩ := h
  have hn := hb.1
  have c0 : w.cell? ⟨g, 0, none⟩ = some (.slice A n c) := by simp [World.cell?, hg]
  have c1 : w.cell? ⟨g, 1, none⟩ = some (.bool sh) := by simp [World.cell?, hg]
  have f0 : ∀ o, w.frozen? ⟨g, o, none⟩ = false := by intro o; simp [World.frozen?, hg]
  have HG := Lib.hid hg
  have fin : BytesPost w g [] [] true (.returned (.slice none 0 0)) ((w.setCell ⟨g, 0, none⟩ (.slice none 0 0)).setCell ⟨g, 1, none⟩ (.bool true)) := by
    refine ⟨none, 0, 0, rfl, ⟨rfl, World.ownsRow_nil _ _ _ _⟩, ⟨none, 0, 0, ?_, ⟨rfl, Nat.le_refl _, by simp [maxLen], .inl rfl⟩⟩, grown_setCell (grown_setCell (World.grownBy.refl w (some g)) 0 _) 1 _⟩
    rw [heap_set_cells (heap_set_cells hg _)]
    rfl
  clear hg
  have FIN := Lib.hid fin
  clear fin
  rcases hk with hk | hk
  · clear hn
    go_enter Tryz.func189, Tryz.ntmps189
    go_wp2
    go_ret
    exact FIN.out
  · have hk2 : (n : Int) < k := by omega
    clear hn hk
    by_cases hk0 : k < 0
    · omega
    go_enter Tryz.func189, Tryz.ntmps189
    go_wp2
    go_ret
    exact FIN.out
end
section
open Go.RowKit

/-- What is read, what is left, whether it was short. -/
def rdTake (l : List UInt8) (k : Int) : List UInt8 := if 0 ≤ k ∧ k ≤ l.length then l.take k.toNat else []
def rdDrop (l : List UInt8) (k : Int) : List UInt8 := if 0 ≤ k ∧ k ≤ l.length then l.drop k.toNat else []
def rdSh (l : List UInt8) (k : Int) (sh : Bool) : Bool := if 0 ≤ k ∧ k ≤ l.length then sh else true
/-- Bytes as a number, the first byte the greatest. -/
def beN (l : List UInt8) : Nat := l.foldl (fun v b => v * 256 + b.toNat) 0

theorem beN_snoc (l : List UInt8) (b : UInt8) : beN (l ++ [b]) = beN l * 256 + b.toNat := by simp [beN]
theorem foldl_be_lt (l : List UInt8) : ∀ v, l.foldl (fun v b => v * 256 + b.toNat) v < (v + 1) * 256 ^ l.length := by
  induction l with
  | nil => intro v; simp
  | cons b r ih =>
    intro v
    have := ih (v * 256 + b.toNat)
    have hb := b.toNat_lt
    simp only [List.foldl_cons, List.length_cons, Nat.pow_succ]
    have h2 : (v * 256 + b.toNat + 1) * 256 ^ r.length ≤ ((v + 1) * 256) * 256 ^ r.length := Nat.mul_le_mul_right _ (by omega)
    have h3 : (v + 1) * 256 * 256 ^ r.length = (v + 1) * (256 ^ r.length * 256) := by rw [Nat.mul_assoc, Nat.mul_comm 256]
    omega
theorem beN_lt (l : List UInt8) : beN l < 256 ^ l.length := by
  have := foldl_be_lt l 0
  simpa [beN] using this
theorem rdTake_length (l : List UInt8) (k : Int) (_h : 0 ≤ k) : (rdTake l k).length ≤ k.toNat := by
  unfold rdTake; split
  · simp; omega
  · simp
theorem take_succ_get {α : Type} (l : List α) (k : Nat) (h : k < l.length) : l.take (k + 1) = l.take k ++ [l[k]] := by
  rw [List.take_succ_eq_append_getElem h]

theorem or_step (v b : Nat) (hv : v < 16777216) (hb : b < 256) : bits BinOp.or IntKind.u32 ((v : Int) * 256 % 4294967296) ((b : Int) % 4294967296) = ((v * 256 + b : Nat) : Int) := by
  have e1 : (v : Int) * 256 % 4294967296 = ((v * 256 : Nat) : Int) := by omega
  have e2 : (b : Int) % 4294967296 = (b : Int) := by omega
  rw [e1, e2, u32_or_nat _ _ (by omega) (by omega), nat_join 8 (v * 256) b (by omega) (by omega)]

theorem bytes_any (w : World) (g : Nat) (k : Int) (l : List UInt8) (sh : Bool) (h : Rd w g l sh) (hl : l.length ≤ 1099511627776) :
    Calls Tryz.prog 189 #[.pointer (some ⟨g, 0, none⟩), .int .i64 k] w (BytesPost w g (rdDrop l k) (rdTake l k) (rdSh l k sh)) := by
  by_cases hk : 0 ≤ k ∧ k ≤ l.length
  · have h0 := bytes_ok w g k.toNat l sh h hl (by omega)
    rw [show ((k.toNat : Nat) : Int) = k by omega] at h0
    simpa only [rdDrop, rdTake, rdSh, if_pos hk] using h0
  · have h0 := bytes_short w g k l sh h hl (by omega)
    simpa only [rdDrop, rdTake, rdSh, if_neg hk] using h0

def NumPost (w : World) (g : Nat) (l : List UInt8) (v : Nat) (sh : Bool) (e : Ending) (w' : World) : Prop :=
  e = .returned (.int .u32 v) ∧ Rd w' g l sh ∧ w.grownBy w' (some g)

set_option maxHeartbeats 400000 in
theorem number_any (w : World) (g : Nat) (k : Int) (l : List UInt8) (sh : Bool) (h : Rd w g l sh) (hl : l.length ≤ 1099511627776) (hk : 0 ≤ k) (hk4 : k ≤ 4) :
    Calls Tryz.prog 283 #[.pointer (some ⟨g, 0, none⟩), .int .i64 k] w (NumPost w g (rdDrop l k) (beN (rdTake l k)) (rdSh l k sh)) := by
  have hm := rdTake_length l k hk
  generalize hmm : rdTake l k = m at *
  go_enter Tryz.func283, Tryz.ntmps283
  go_wp2_with fail
  refine (bytes_any w g k l sh h hl).mono ?_
  rintro e w1 ⟨A, n, c, rfl, ho, hrd, hgr⟩
  rw [hmm] at ho
  clear hmm
  have hn := ho.1
  have hb := ho.bs
  have hn4 : n ≤ 4 := by omega
  have HN := Lib.hid hn
  clear hn
  go_wp2_with fail
  go_loop [5, 12] (fun v i => ∃ j : Nat, j ≤ n ∧ i = .int .i64 j ∧ v = .int .u32 (beN (m.take j))) (fun _ i => n - (intOf i).toNat)
  case atStart => exact ⟨0, Nat.zero_le _, rfl, rfl⟩
  case round =>
    obtain ⟨j, hj, rfl, rfl⟩ := hrel
    by_cases hlt : j < n
    · have hjm : j < m.length := by have := HN.out; omega
      obtain ⟨b, o, rfl, _, hc⟩ := hb.2.2.2.at_ (bv_get m j hjm)
      have HS := Lib.hid (take_succ_get m j hjm)
      have HO := Lib.hid (or_step (beN (m.take j)) m[j].toNat (by
        have h1 := beN_lt (m.take j)
        have h2 : 256 ^ (m.take j).length ≤ 256 ^ 3 := Nat.pow_le_pow_right (by omega) (by simp; omega)
        omega) m[j].toNat_lt)
      go_wp2
      go_round
      case rel => exact ⟨j + 1, by omega, by go_num, by rw [HO.out, HS.out, beN_snoc]⟩
      case measure => simp [intOf]; omega
    · go_wp2
      go_ret
      have : m.take j = m := List.take_of_length_le (by have := HN.out; omega)
      exact ⟨by rw [this]; rfl, hrd, hgr⟩

theorem rdTake_lt (l : List UInt8) (k : Int) (h : 0 ≤ k) : beN (rdTake l k) < 256 ^ k.toNat :=
  Nat.lt_of_lt_of_le (beN_lt _) (Nat.pow_le_pow_right (by omega) (rdTake_length l k h))

def IntPost (w : World) (g : Nat) (l : List UInt8) (v : Nat) (sh : Bool) (e : Ending) (w' : World) : Prop :=
  e = .returned (.int .i64 v) ∧ Rd w' g l sh ∧ w.grownBy w' (some g)

set_option maxHeartbeats 400000 in
theorem ru8_any (w : World) (g : Nat) (l : List UInt8) (sh : Bool) (h : Rd w g l sh) (hl : l.length ≤ 1099511627776) :
    Calls Tryz.prog 289 #[.pointer (some ⟨g, 0, none⟩)] w (IntPost w g (rdDrop l 1) (beN (rdTake l 1)) (rdSh l 1 sh)) := by
  have hv := rdTake_lt l 1 (by omega)
  go_enter Tryz.func289, Tryz.ntmps289
  go_wp2_with fail
  refine (number_any w g 1 l sh h hl (by omega) (by omega)).mono ?_
  rintro e w1 ⟨rfl, hrd, hgr⟩
  generalize beN (rdTake l 1) = v at *
  have hv' : v < 256 := hv
  clear hv
  go_wp2
  go_ret
  exact ⟨rfl, hrd, hgr⟩

set_option maxHeartbeats 400000 in
theorem ru16_any (w : World) (g : Nat) (l : List UInt8) (sh : Bool) (h : Rd w g l sh) (hl : l.length ≤ 1099511627776) :
    Calls Tryz.prog 188 #[.pointer (some ⟨g, 0, none⟩)] w (IntPost w g (rdDrop l 2) (beN (rdTake l 2)) (rdSh l 2 sh)) := by
  have hv := rdTake_lt l 2 (by omega)
  go_enter Tryz.func188, Tryz.ntmps188
  go_wp2_with fail
  refine (number_any w g 2 l sh h hl (by omega) (by omega)).mono ?_
  rintro e w1 ⟨rfl, hrd, hgr⟩
  generalize beN (rdTake l 2) = v at *
  have hv' : v < 65536 := hv
  clear hv
  go_wp2
  go_ret
  exact ⟨rfl, hrd, hgr⟩

set_option maxHeartbeats 400000 in
theorem ru32_any (w : World) (g : Nat) (l : List UInt8) (sh : Bool) (h : Rd w g l sh) (hl : l.length ≤ 1099511627776) :
    Calls Tryz.prog 290 #[.pointer (some ⟨g, 0, none⟩)] w (NumPost w g (rdDrop l 4) (beN (rdTake l 4)) (rdSh l 4 sh)) := by
  go_enter Tryz.func290, Tryz.ntmps290
  go_wp2_with fail
  refine (number_any w g 4 l sh h hl (by omega) (by omega)).mono ?_
  rintro e w1 ⟨rfl, hrd, hgr⟩
  generalize beN (rdTake l 4) = v at *
  go_wp2
  go_ret
  exact ⟨rfl, hrd, hgr⟩

set_option maxHeartbeats 400000 in
theorem left_any (w : World) (g : Nat) (l : List UInt8) (sh : Bool) (h : Rd w g l sh) :
    Calls Tryz.prog 190 #[.pointer (some ⟨g, 0, none⟩)] w fun e w' => e = .returned (.int .i64 l.length) ∧ w = w' := by
  obtain ⟨A, n, c, hg, hb⟩ := h
  rw [← hb.1]
  have h0 : w.cell? ⟨g, 0, none⟩ = some (.slice A n c) := by simp [World.cell?, hg]
  clear hg
  go_enter Tryz.func190, Tryz.ntmps190
  go_wp2
  go_ret
  exact ⟨rfl, rfl⟩

set_option maxHeartbeats 400000 in
theorem short_any (w : World) (g : Nat) (l : List UInt8) (sh : Bool) (h : Rd w g l sh) :
    Calls Tryz.prog 455 #[.pointer (some ⟨g, 0, none⟩)] w fun e w' => e = .returned (.bool sh) ∧ w = w' := by
  obtain ⟨A, n, c, hg, hb⟩ := h
  have h0 : w.cell? ⟨g, 1, none⟩ = some (.bool sh) := by simp [World.cell?, hg]
  clear hg
  go_enter Tryz.func455, Tryz.ntmps455
  go_wp2
  go_ret
  exact ⟨rfl, rfl⟩
end
end Go.Proofs.YtccbdaffjkdpgaaGreatDoor
