/- What lexer.IsIdent answers: a text of 1 to 24 bytes, all of them letters, digits or underscores, the first no digit; for every string. -/
import Derived.Test.YtjfpaglnadfppaaProg
import Derived.WalkKit
import Derived.WalkSpells
import Derived.Lib.OthersKept
import Derived.Lib.DecodeN
import Derived.Lib.Hide
import Derived.Deep.LoopGhost
namespace Go.Proofs.Ytjfpaglnadfppaa.P
open Go.RowKit

def digN (n : Nat) : Bool := decide (48 ≤ n ∧ n ≤ 57)
def letN (n : Nat) : Bool := decide (65 ≤ n ∧ n ≤ 90 ∨ 97 ≤ n ∧ n ≤ 122 ∨ n = 95)
def wordN (n : Nat) : Bool := letN n || digN n
/-- All bytes are of words, and the first is no digit. -/
def idHead (l : List UInt8) : Bool := l.all (fun c => wordN c.toNat) && !(l.head?.any fun c => digN c.toNat)
def idB (s : ByteArray) : Bool := idHead s.data.toList && decide (0 < s.size ∧ s.size ≤ 24)
def lexer_IsIdent.f (a0 : ByteArray) : Option Bool := some (idB a0)

theorem idHead_nil : idHead [] = true := rfl
theorem idHead_snoc (l : List UInt8) (c : UInt8) : idHead (l ++ [c]) = (idHead l && wordN c.toNat && !(l.isEmpty && digN c.toNat)) := by
  cases l with
  | nil => simp [idHead]
  | cons a l => simp [idHead, Bool.and_comm, Bool.and_left_comm]
theorem idHead_pre (l m : List UInt8) (h : idHead (l ++ m) = true) : idHead l = true := by
  cases l with
  | nil => rfl
  | cons a l => simp [idHead] at h ⊢; exact ⟨⟨h.1.1, h.1.2.1⟩, h.2⟩
theorem take_snoc (s : ByteArray) (k : Nat) (h : k < s.size) : s.data.toList.take (k + 1) = s.data.toList.take k ++ [s[k]] := by
  rw [List.take_succ_eq_append_getElem (by simpa using h)]; rfl
theorem idB_step (s : ByteArray) (k : Nat) (h : k < s.size) (hw : (wordN s[k].toNat && !(decide (k = 0) && digN s[k].toNat)) = true) (hi : idHead (s.data.toList.take k) = true) : idHead (s.data.toList.take (k + 1)) = true := by
  rw [take_snoc s k h, idHead_snoc, hi]
  have e : (List.take k s.data.toList).isEmpty = decide (k = 0) := by
    cases k with
    | zero => simp
    | succ k =>
      have : 0 < s.data.toList.length := by simp; omega
      cases hl : s.data.toList with
      | nil => rw [hl] at this; simp at this
      | cons a l => simp
  rw [e]; simpa using hw
theorem idB_stop (s : ByteArray) (k : Nat) (h : k < s.size) (hw : (wordN s[k].toNat && !(decide (k = 0) && digN s[k].toNat)) = false) : idB s = false := by
  by_cases hi : idHead s.data.toList = true
  · have h1 : idHead (s.data.toList.take (k + 1)) = true := idHead_pre _ (s.data.toList.drop (k + 1)) (by rw [List.take_append_drop]; exact hi)
    rw [take_snoc s k h, idHead_snoc] at h1
    have e : (List.take k s.data.toList).isEmpty = decide (k = 0) := by
      cases k with
      | zero => simp
      | succ k =>
        have : 0 < s.data.toList.length := by simp; omega
        cases hl : s.data.toList with
        | nil => rw [hl] at this; simp at this
        | cons a l => simp
    rw [e, Bool.and_assoc, hw] at h1
    simp at h1
  · have : idHead s.data.toList = false := by simpa using hi
    simp [idB, this]
theorem decode_hi (s : ByteArray) (pos : Nat) (h : pos < s.size) (ha : 128 ≤ (s[pos]'h).toNat) : 128 ≤ (Utf8.decode s pos).1 ∧ (Utf8.decode s pos).1 ≤ 1114111 := by
  have e : s.get! pos = s[pos]'h := by
    simp [ByteArray.get!, getElem!_pos, h]
    rfl
  rw [Lib.decode_at, e]
  unfold Lib.decodeN
  repeat' split
  all_goals (first | (simp; omega) | (simp only []; omega) | omega)
theorem idB_end (s : ByteArray) (h : idHead s.data.toList = true) : idB s = decide (0 < s.size ∧ s.size ≤ 24) := by simp [idB, h]
theorem ret_bool {a b : Bool} (h : a = b) : Ending.returned (.bool a) = .returned (.bool b) := by rw [h]
theorem iterPos_of {w : World} {k : Nat} {s : ByteArray} {p : Nat} (h : w.heap[k]? = some (.stringIter s p)) : w.iterPos k = p := by simp [World.iterPos, h]

set_option maxRecDepth 100000 in
set_option maxHeartbeats 1000000 in
theorem lexer_IsIdent.calls (a0 : ByteArray) (r : Bool) (w : World) (h : lexer_IsIdent.f a0 = some r) :
    Calls Try.prog 13 #[.string a0] w fun e w' => e = .returned (.bool r) ∧ Below w.heap.size w w' := by
  obtain rfl := Option.some.inj h
  clear h
  go_enter Try.func13, Try.ntmps13
  go_wp2
  go_loopw [2] (fun v wr => v = .bool false ∧ ∃ pos : Nat, pos ≤ a0.size ∧ wr.heap[w.heap.size]? = some (.stringIter a0 pos) ∧ Below w.heap.size w wr ∧ Hid (idHead (a0.data.toList.take pos) = true)) (fun _ wr => a0.size - wr.iterPos w.heap.size)
  case atStart => exact ⟨rfl, 0, Nat.zero_le _, World.iter_heap w a0 0, (Below.refl _ _).alloc (Nat.le_refl _) _, idHead_nil⟩
  case round =>
    obtain ⟨rfl, pos, hpos, hit, hbw, HI⟩ := hrel
    have hpos0 := iterPos_of hit
    by_cases hp : pos < a0.size
    · have hnx : ∀ ty, (Instr.next (.pointer (some ⟨w.heap.size, 0, none⟩)) true ty).run Try.prog wr = _ := fun ty => Lib.run_next_any_at wr w.heap.size a0 pos ty hit hp
      by_cases ha : (a0[pos]'hp).toNat < 128
      · have hd := decode_ascii a0 pos hp ha
        simp only [hd] at hnx
        have hit2 := Lib.iterAt_heap wr w.heap.size a0 pos (pos + 1) hit
        have hbw2 := Lib.below_iterAt hbw (k := w.heap.size) (Nat.le_refl _) a0 (pos + 1)
        obtain ⟨W1, hW1⟩ : ∃ W1, W1 = wr.iterAt w.heap.size a0 (pos + 1) := ⟨_, rfl⟩
        rw [← hW1] at hnx hit2 hbw2
        have HS := Lib.hid (fun (hw : (wordN (a0[pos]'hp).toNat && !(decide (pos = 0) && digN (a0[pos]'hp).toNat)) = true) => idB_step a0 pos hp hw HI.out)
        have HX := Lib.hid (idB_stop a0 pos hp)
        clear HI hW1 hit hbw
        obtain ⟨n, hn⟩ : ∃ n, n = (a0[pos]'hp).toNat := ⟨_, rfl⟩
        rw [← hn] at hnx HS HX ha
        clear hd hn
        go_wp2
        all_goals first
          | (go_roundw
             case rel => exact ⟨rfl, pos + 1, by omega, hit2, hbw2, HS.out (by simp [wordN, letN, digN]; omega)⟩
             case measure => rw [iterPos_of hit2, hpos0]; omega)
          | (go_ret
             exact ⟨ret_bool (HX.out (by simp [wordN, letN, digN]; omega)).symm, hbw2⟩)
      · have hd := decode_hi a0 pos hp (by omega)
        have HX := Lib.hid (idB_stop a0 pos hp)
        have hb2 := Lib.below_iterAt hbw (k := w.heap.size) (Nat.le_refl _) a0 (pos + (Utf8.decode a0 pos).2)
        obtain ⟨W1, hW1⟩ : ∃ W1, W1 = wr.iterAt w.heap.size a0 (pos + (Utf8.decode a0 pos).2) := ⟨_, rfl⟩
        rw [← hW1] at hnx hb2
        clear HI hW1 hit hbw
        obtain ⟨n, hn⟩ : ∃ n, n = (Utf8.decode a0 pos).1 := ⟨_, rfl⟩
        rw [← hn] at hnx hd
        obtain ⟨hd1, hd2⟩ := hd
        go_wp2
        go_ret
        exact ⟨ret_bool (HX.out (by simp [wordN, letN, digN]; omega)).symm, hb2⟩
    · have hnx : ∀ ty, (Instr.next (.pointer (some ⟨w.heap.size, 0, none⟩)) true ty).run Try.prog wr = _ := fun ty => Lib.run_next_end_at wr w.heap.size a0 pos ty hit hp
      have HE := Lib.hid (idB_end a0 (by have h := HI.out; rwa [List.take_of_length_le (by simp; omega)] at h))
      clear HI
      by_cases h0 : a0.size = 0
      · have h1 : a0.toList = [] := by rw [ByteArray.toList_eq]; exact List.eq_nil_of_length_eq_zero (by simpa using h0)
        go_wp2
        go_ret
        exact ⟨ret_bool (by rw [HE.out]; simp [h0]), hbw⟩
      · have h1 : ¬ a0.toList = [] := by
          rw [ByteArray.toList_eq]; intro h; apply h0; have := congrArg List.length h; simpa using this
        have h2 : a0.toList.isEmpty = false := by simpa using h1
        go_wp2
        go_ret
        exact ⟨ret_bool (by rw [HE.out, decide_eq_decide]; omega), hbw⟩
end Go.Proofs.Ytjfpaglnadfppaa.P
