/-
  conf: the words of any text: word by word as the bytes stand, or neither of ASCII bytes alone.
-/
import Derived.Test.YtnmdiageigbphaaGreatDoorKp3
namespace Go.Proofs.YtnmdiageigbphaaGreatDoor
open Go.RowKit

theorem asc_append {x y : List UInt8} : asc (x ++ y) ↔ asc x ∧ asc y := by
  unfold asc
  constructor
  · exact fun h => ⟨fun b hb => h b (by simp [hb]), fun b hb => h b (by simp [hb])⟩
  · rintro ⟨h, k⟩ b hb
    rcases List.mem_append.1 hb with hb | hb
    · exact h b hb
    · exact k b hb
theorem asc_nil : asc [] := fun _ h => by cases h
theorem pre_append (c : UInt8) (x u : List UInt8) : List.isPrefixOf [c] (x ++ u) = if x = [] then List.isPrefixOf [c] u else List.isPrefixOf [c] x := by
  cases x <;> simp [List.isPrefixOf]
/-- The same ASCII bytes, or neither such bytes alone. -/
def like (x y : List UInt8) : Prop := (y = x ∧ asc x) ∨ (¬ asc x ∧ ¬ asc y ∧ List.isPrefixOf [35] y = List.isPrefixOf [35] x)
theorem like.nil : like [] [] := .inl ⟨rfl, asc_nil⟩
theorem like.ne {x y : List UInt8} (h : like x y) : x = [] ↔ y = [] := by
  rcases h with ⟨rfl, _⟩ | ⟨h1, h2, _⟩
  · exact Iff.rfl
  · constructor
    · rintro rfl; exact absurd asc_nil h1
    · rintro rfl; exact absurd asc_nil h2
theorem like.pre {x y : List UInt8} (h : like x y) : List.isPrefixOf [35] y = List.isPrefixOf [35] x := by
  rcases h with ⟨rfl, _⟩ | ⟨_, _, h⟩
  · rfl
  · exact h
theorem like.add {x y u v : List UInt8} (h : like x y) (k : like u v) : like (x ++ u) (y ++ v) := by
  have hn := h.ne
  have hp : List.isPrefixOf [35] (y ++ v) = List.isPrefixOf [35] (x ++ u) := by
    rw [pre_append, pre_append]
    by_cases e : x = []
    · rw [if_pos e, if_pos (hn.1 e), k.pre]
    · rw [if_neg e, if_neg (fun e2 => e (hn.2 e2)), h.pre]
  rcases h with ⟨rfl, h⟩ | ⟨h1, h2, _⟩
  · rcases k with ⟨rfl, k⟩ | ⟨k1, k2, _⟩
    · exact .inl ⟨rfl, asc_append.2 ⟨h, k⟩⟩
    · exact .inr ⟨fun e => k1 (asc_append.1 e).2, fun e => k2 (asc_append.1 e).2, hp⟩
  · exact .inr ⟨fun e => h1 (asc_append.1 e).1, fun e => h2 (asc_append.1 e).1, hp⟩
def likeL (l m : List (List UInt8)) : Prop := l.length = m.length ∧ ∀ i, like (l.getD i []) (m.getD i [])
theorem likeL.nil : likeL [] [] := ⟨rfl, fun _ => like.nil⟩
theorem getD_snoc (l : List (List UInt8)) (x : List UInt8) (i : Nat) : (l ++ [x]).getD i [] = if i = l.length then x else l.getD i [] := by
  rw [List.getD, List.getD, List.getElem?_append]
  by_cases h : i < l.length
  · rw [if_pos h, if_neg (by omega)]
  · rw [if_neg h]
    by_cases e : i = l.length
    · rw [if_pos e, e, Nat.sub_self]; rfl
    · rw [if_neg e, List.getElem?_eq_none (by simp; omega), List.getElem?_eq_none (by omega)]
theorem likeL.snoc {l m : List (List UInt8)} {x y : List UInt8} (h : likeL l m) (k : like x y) : likeL (l ++ [x]) (m ++ [y]) := by
  refine ⟨by simp [h.1], fun i => ?_⟩
  rw [getD_snoc, getD_snoc, h.1]
  split
  · exact k
  · exact h.2 i
theorem wordsW_hi (s : List UInt8) (pos : Nat) : ∀ (k : Nat) (wd : List UInt8), pos + k ≤ s.length → (∀ j, pos ≤ j → j < pos + k → 128 ≤ (s.getD j 0).toNat) →
    wordsW wd (s.drop pos) = wordsW (wd ++ (s.drop pos).take k) (s.drop (pos + k))
  | 0, wd, _, _ => by simp
  | k + 1, wd, h, hb => by
    rw [wordsW_hi s pos k wd (by omega) (fun j h1 h2 => hb j h1 (by omega)), drop_get s (pos + k) (by omega), wordsW, if_neg, List.append_assoc, Nat.add_assoc]
    · congr 2
      rw [List.take_add_one, List.getElem?_drop]
      simp [List.getD, show pos + k < s.length by omega]
    · have := hb (pos + k) (by omega) (by omega)
      intro e
      simp only [blk, Bool.or_eq_true, beq_iff_eq] at e
      rcases e with e | e <;> rw [e] at this <;> simp at this
theorem take_hi {s : List UInt8} {pos k : Nat} (hk : 1 ≤ k) (h : pos + k ≤ s.length) (hb : ∀ j, pos ≤ j → j < pos + k → 128 ≤ (s.getD j 0).toNat) :
    ¬ asc ((s.drop pos).take k) ∧ List.isPrefixOf [35] ((s.drop pos).take k) = false := by
  have h0 := hb pos (Nat.le_refl _) (by omega)
  rw [drop_get s pos (by omega), show k = (k - 1) + 1 by omega, List.take_succ_cons]
  refine ⟨fun e => by have := e (s.getD pos 0) (by simp); omega, ?_⟩
  simp only [List.isPrefixOf, Bool.and_true, beq_eq_false_iff_ne]
  intro e
  rw [← e] at h0
  simp at h0
theorem enc_hi (r : Int) (h : 128 ≤ r) : ∃ u, Utf8.encode r = str u ∧ ¬ asc u ∧ List.isPrefixOf [35] u = false ∧ u.length ≤ 4 := by
  have key : ∀ (x : UInt8) (r : List UInt8), 128 ≤ x.toNat → ¬ asc (x :: r) ∧ List.isPrefixOf [35] (x :: r) = false := by
    intro x r hx
    refine ⟨fun e => by have := e x (by simp); omega, ?_⟩
    simp only [List.isPrefixOf, Bool.and_true, beq_eq_false_iff_ne]
    intro e
    rw [← e] at hx
    simp at hx
  obtain ⟨c, hc, h1, h2⟩ : ∃ c, (if Utf8.valid r then r.toNat else Utf8.runeError) = c ∧ 128 ≤ c ∧ c ≤ 1114111 := by
    refine ⟨_, rfl, ?_⟩
    by_cases hv : Utf8.valid r = true
    · rw [if_pos hv]
      simp [Utf8.valid] at hv
      omega
    · rw [if_neg hv]
      decide
  have hE : Utf8.encode r = (if c < 0x80 then ⟨#[UInt8.ofNat c]⟩
    else if c < 0x800 then ⟨#[UInt8.ofNat (0xC0 + c / 64), UInt8.ofNat (0x80 + c % 64)]⟩
    else if c < 0x10000 then ⟨#[UInt8.ofNat (0xE0 + c / 4096), UInt8.ofNat (0x80 + c / 64 % 64), UInt8.ofNat (0x80 + c % 64)]⟩
    else ⟨#[UInt8.ofNat (0xF0 + c / 262144), UInt8.ofNat (0x80 + c / 4096 % 64), UInt8.ofNat (0x80 + c / 64 % 64), UInt8.ofNat (0x80 + c % 64)]⟩) := by
    rw [Utf8.encode, hc]
  rw [hE, if_neg (by omega)]
  split
  · refine ⟨[_, _], rfl, ?_⟩
    have := key (UInt8.ofNat (0xC0 + c / 64)) [UInt8.ofNat (0x80 + c % 64)] (by rw [UInt8.toNat_ofNat']; omega)
    exact ⟨this.1, this.2, by simp⟩
  · split
    · refine ⟨[_, _, _], rfl, ?_⟩
      have := key (UInt8.ofNat (0xE0 + c / 4096)) [UInt8.ofNat (0x80 + c / 64 % 64), UInt8.ofNat (0x80 + c % 64)] (by rw [UInt8.toNat_ofNat']; omega)
      exact ⟨this.1, this.2, by simp⟩
    · refine ⟨[_, _, _, _], rfl, ?_⟩
      have := key (UInt8.ofNat (0xF0 + c / 262144)) [UInt8.ofNat (0x80 + c / 4096 % 64), UInt8.ofNat (0x80 + c / 64 % 64), UInt8.ofNat (0x80 + c % 64)] (by rw [UInt8.toNat_ofNat']; omega)
      exact ⟨this.1, this.2, by simp⟩
theorem rune_hi (r : Nat) (h : 128 ≤ r) : ∃ u, ¬ asc u ∧ List.isPrefixOf [35] u = false ∧ u.length ≤ 4 ∧ ∀ w, (convert 21 9 (.int .i32 (r : Int))).run Tryz.prog w = .ok (.string (str u)) w := by
  obtain ⟨u, hu, h1, h2, h3⟩ := enc_hi r (by omega)
  refine ⟨u, h1, h2, h3, fun w => ?_⟩
  rw [run_convert_int_string w _ _ _ _ (by rw [Tryz.underlying21]; rfl) Tryz.underlying9, hu]
theorem blank_hi (w : World) (r : Nat) (h : 128 ≤ r) : Calls Tryz.prog 82 #[.int .i32 (r : Int)] w (BlP w false) := by
  have x1 : ((r : Int) == 32) = false := by rw [beq_eq_false_iff_ne]; omega
  have x2 : ((r : Int) == 9) = false := by rw [beq_eq_false_iff_ne]; omega
  clear h
  go_enter Tryz.func82, Tryz.ntmps82
  go_wp2_with fail
  go_ret
  exact ⟨rfl, rfl⟩
/-- Behind some rounds. -/
def WRelU (w : World) (s : List UInt8) (v x : Value) (wr : World) (pos : Nat) : Prop :=
  ∃ A n cc l m wd wu, v = .slice A n cc ∧ x = .string (str wu) ∧ SO wr w.heap.size A n cc m ∧ likeL l m ∧ like wd wu ∧ (∀ y ∈ m, y.length ≤ 4 * s.length) ∧ pos ≤ s.length ∧ m.length ≤ pos ∧ wu.length ≤ 4 * pos ∧ words s = l ++ wordsW wd (s.drop pos) ∧
    wr.heap[w.heap.size]? = some (.stringIter (str s) pos) ∧ Below w.heap.size w wr
def WordsP (w : World) (s : List UInt8) (e : Ending) (w' : World) : Prop := ∃ m, likeL (words s) m ∧ (∀ y ∈ m, y.length ≤ 4 * s.length) ∧ PartsPost w m e w'
theorem mem_snoc {m : List (List UInt8)} {x : List UInt8} {N : Nat} (h : ∀ y ∈ m, y.length ≤ N) (k : x.length ≤ N) : ∀ y ∈ m ++ [x], y.length ≤ N := by
  intro y hy
  rcases List.mem_append.1 hy with hy | hy
  · exact h y hy
  · obtain rfl : y = x := by simpa using hy
    exact k
set_option maxRecDepth 100000 in
set_option maxHeartbeats 8000000 in
theorem words_all (w : World) (s : List UInt8) (hl : s.length ≤ 100000) :
    Calls Tryz.prog 54 #[.string (str s)] w (WordsP w s) := by
  go_enter Tryz.func54, Tryz.ntmps54
  go_wp2_with fail
  go_loopw [3, 4] (fun v f wr => ∃ pos, WRelU w s v f wr pos) (fun _ _ wr => s.length - wr.iterPos w.heap.size)
  case atStart => exact ⟨0, none, 0, 0, [], [], [], [], rfl, rfl, ⟨rfl, World.ownsRow_nil _ _ _ _⟩, likeL.nil, like.nil, (fun _ h => by cases h), Nat.zero_le _, Nat.zero_le _, Nat.zero_le _, rfl, World.iter_heap w (str s) 0, below_iter w _ _⟩
  case round =>
    obtain ⟨pos, A, n, cc, l, m, wd, wu, rfl, rfl, ho, hlm, hlw, hmy, hp, hlp, hwp, hcut, hit, hb⟩ := hrel
    have HC := Lib.hid hcut
    have HI := Lib.hid hit
    have HLM := Lib.hid hlm
    have HLW := Lib.hid hlw
    have HMY := Lib.hid hmy
    clear hcut hlm hlw hmy
    have hz := hb.size
    by_cases hlt : pos < s.length
    · obtain ⟨r, kk, hd, hk1, hk2, hr, hrk⟩ := dec_step s pos hlt
      have hnx : ∀ ty, (Instr.next (.pointer (some ⟨w.heap.size, 0, none⟩)) true ty).run Tryz.prog wr = .ok (.tuple #[.bool true, .int .i64 pos, .int .i32 (r : Int)]) (wr.iterAt w.heap.size (str s) (pos + kk)) := by
        intro ty
        have := Lib.run_next_any_at (P := Tryz.prog) wr w.heap.size (str s) pos ty hit hlt
        rw [hd] at this
        exact this
      have ho2 := ho.iterAt hit (pos + kk)
      have hit2 := Lib.iterAt_heap wr w.heap.size (str s) pos (pos + kk) hit
      have hb2 := Lib.below_iterAt hb (k := w.heap.size) (Nat.le_refl _) (str s) (pos + kk)
      have hz2 : w.heap.size < (wr.iterAt w.heap.size (str s) (pos + kk)).heap.size := heap_lt hit2
      have HZ := Lib.hid hz2
      clear hit ho hz2 hd
      generalize wr.iterAt w.heap.size (str s) (pos + kk) = wi at hnx ho2 hit2 hb2 HZ
      rcases hrk with ⟨h1, h2, rfl⟩ | ⟨h1, h2, h3⟩
      · have HD := Lib.hid (drop_get s pos hlt)
        obtain ⟨b, hbb⟩ : ∃ b, s.getD pos 0 = b := ⟨_, rfl⟩
        rw [hbb] at h1 h2 HD
        subst h2
        have HA := Lib.hid h1
        have HAB := Lib.hid (show asc [b] from fun x hx => by rw [List.mem_singleton.1 hx]; exact h1)
        clear hbb h1
        go_wp2_with fail
        refine (blank_any wi b).mono ?_
        rintro e w4 ⟨rfl, rfl⟩
        rcases hbk : blk b with _ | _
        · have sconv : ∀ w, (convert 21 9 (.int .i32 (b.toNat : Int))).run Tryz.prog w = .ok (.string (str [b])) w := rune_str b HA.out
          have sadd : ∀ w, (Op.stringOp .add (str wu) (str [b])).run Tryz.prog w = .ok (.string (str (wu ++ [b]))) w := fun w => str_addL w wu [b] (by simp; omega)
          have HC2 := Lib.hid (show words s = l ++ wordsW (wd ++ [b]) (s.drop (pos + 1)) by rw [HC.out, HD.out, wordsW, if_neg (by rw [hbk]; decide)])
          have HLW2 := Lib.hid (show like (wd ++ [b]) (wu ++ [b]) from HLW.out.add (.inl ⟨rfl, HAB.out⟩))
          have hwl : (wu ++ [b]).length ≤ 4 * (pos + 1) := by simp; omega
          obtain ⟨wd', hwd⟩ : ∃ x, wu ++ [b] = x := ⟨_, rfl⟩
          rw [hwd] at sadd HLW2 hwl
          clear hbk hwd HD
          go_wp2_with fail
          go_roundw
          case rel => exact ⟨pos + 1, A, n, cc, l, m, wd ++ [b], wd', rfl, rfl, ho2, HLM.out, HLW2.out, HMY.out, by omega, by omega, hwl, HC2.out, hit2, hb2⟩
          case measure => simp [World.iterPos, hit2, HI.out]; omega
        · by_cases hw : wu = []
          · have hwd := HLW.out.ne.2 hw
            have HC2 := Lib.hid (show words s = l ++ wordsW [] (s.drop (pos + 1)) by rw [HC.out, HD.out, wordsW, if_pos hbk, if_pos hwd])
            subst hw
            have hts : (str []).toList.isEmpty = true := by rw [toList_str]; rfl
            clear hbk HD hwd
            go_wp2_with fail
            go_roundw
            case rel => exact ⟨pos + 1, A, n, cc, l, m, [], [], rfl, rfl, ho2, HLM.out, like.nil, HMY.out, by omega, by omega, by simp, HC2.out, hit2, hb2⟩
            case measure => simp [World.iterPos, hit2, HI.out]; omega
          · have HC2 := Lib.hid (show words s = (l ++ [wd]) ++ wordsW [] (s.drop (pos + 1)) by rw [HC.out, HD.out, wordsW, if_pos hbk, if_neg (fun e => hw (HLW.out.ne.1 e))]; simp)
            have hts : (str wu).toList.isEmpty = false := by rw [toList_str]; simp [hw]
            have HMY2 := Lib.hid (mem_snoc HMY.out (show wu.length ≤ 4 * s.length by omega))
            clear hbk HD hw
            go_wp2_with (at_builtin; go_must (refine appS rfl _ _ rfl w.heap.size A n cc m rfl (ho2.alloc _) w4.heap.size 1 wu rfl ((cells_of (heap_alloc_new w4 _)).1 0) (by simp) (by omega) (by have := HZ.out; simp; omega) ?_))
            intro A' n' c' w' ho' hbw hg
            have hit3 := SO.grow_ne (ho2.alloc _) (heap_alloc_of hit2) hg
            have hb3 := (hb2.alloc (Nat.le_of_lt HZ.out) _).trans hbw
            go_wp2_with fail
            go_roundw
            case rel => exact ⟨pos + 1, A', n', c', _, _, [], [], rfl, rfl, ho', HLM.out.snoc HLW.out, like.nil, HMY2.out, by omega, by simp; omega, by simp, HC2.out, hit3, hb3⟩
            case measure => simp [World.iterPos, hit3, HI.out]; omega
      · obtain ⟨u, u1, u2, u3, sconv⟩ := rune_hi r h2
        have hth := take_hi hk1 hk2 h3
        have HWH := Lib.hid (wordsW_hi s pos kk wd hk2 h3)
        have sadd : ∀ w, (Op.stringOp .add (str wu) (str u)).run Tryz.prog w = .ok (.string (str (wu ++ u))) w := fun w => str_addL w wu u (by omega)
        have HC2 := Lib.hid (show words s = l ++ wordsW (wd ++ (s.drop pos).take kk) (s.drop (pos + kk)) by rw [HC.out, HWH.out])
        have HLW2 := Lib.hid (show like (wd ++ (s.drop pos).take kk) (wu ++ u) from HLW.out.add (.inr ⟨hth.1, u1, by rw [u2, hth.2]⟩))
        have hwl : (wu ++ u).length ≤ 4 * (pos + kk) := by simp; omega
        obtain ⟨wd', hwd⟩ : ∃ x, wu ++ u = x := ⟨_, rfl⟩
        obtain ⟨wx, hwx⟩ : ∃ x, wd ++ (s.drop pos).take kk = x := ⟨_, rfl⟩
        rw [hwd] at sadd HLW2 hwl
        rw [hwx] at HC2 HLW2
        clear hwd hwx HWH hth u1 u2 h1 h3
        go_wp2_with fail
        refine (blank_hi wi r h2).mono ?_
        rintro e w4 ⟨rfl, rfl⟩
        go_wp2_with fail
        go_roundw
        case rel => exact ⟨pos + kk, A, n, cc, l, m, wx, wd', rfl, rfl, ho2, HLM.out, HLW2.out, HMY.out, by omega, by omega, hwl, HC2.out, hit2, hb2⟩
        case measure => simp [World.iterPos, hit2, HI.out]; omega
    · obtain rfl : pos = s.length := by omega
      have hnx : ∀ ty, (Instr.next (.pointer (some ⟨w.heap.size, 0, none⟩)) true ty).run Tryz.prog wr = .ok (.tuple #[.bool false]) wr := fun ty => Lib.run_next_end_at wr w.heap.size (str s) s.length ty hit (by rw [str_size]; omega)
      have HZ := Lib.hid (heap_lt hit)
      clear hit
      by_cases hw : wu = []
      · have hwd := HLW.out.ne.2 hw
        have HF := Lib.hid (show words s = l by rw [HC.out, List.drop_length, wordsW, if_pos hwd, List.append_nil])
        subst hw
        have hts : (str []).toList.isEmpty = true := by rw [toList_str]; rfl
        clear hwd
        go_wp2_with fail
        go_ret
        exact ⟨m, by rw [HF.out]; exact HLM.out, HMY.out, A, n, cc, rfl, ho, hb⟩
      · have HF := Lib.hid (show words s = l ++ [wd] by rw [HC.out, List.drop_length, wordsW, if_neg (fun e => hw (HLW.out.ne.1 e))])
        have hts : (str wu).toList.isEmpty = false := by rw [toList_str]; simp [hw]
        have HMY2 := Lib.hid (mem_snoc HMY.out hwp)
        clear hw
        go_wp2_with (at_builtin; go_must (refine appS rfl _ _ rfl w.heap.size A n cc m rfl (ho.alloc _) wr.heap.size 1 wu rfl ((cells_of (heap_alloc_new wr _)).1 0) (by simp) (by omega) (by have := HZ.out; simp; omega) ?_))
        intro A' n' c' w' ho' hbw hg
        have hb3 := (hb.alloc (Nat.le_of_lt HZ.out) _).trans hbw
        go_wp2_with fail
        go_ret
        exact ⟨m ++ [wu], by rw [HF.out]; exact HLM.out.snoc HLW.out, HMY2.out, A', n', c', rfl, ho', hb3⟩
end Go.Proofs.YtnmdiageigbphaaGreatDoor
