/- The examples of the chapter on lexical analysis: awake answers true. -/
import Derived.Test.YtjfpaglnadfppaaPx4
import Derived.Test.YtjfpaglnadfppaaLexImpl
namespace Go.Proofs.Ytjfpaglnadfppaa.Pure
open Go.RowKit Go.Proofs.Ytjfpaglnadfppaa.P Go.Proofs.YtjfpaglnadfppaaW.PrintWords Go.Proofs.YtjfpaglnadfppaaW.PrintLast Lex

theorem awake_ok : Ev (fun k => burnishlaw13_awake.f k) true := by
  have a1 := scan_f (⟨#[114, 49, 32, 61, 32, 97, 100, 100, 32, 114, 48, 32, 45, 53]⟩ : ByteArray) (by decide)
  have a2 := scan_f (⟨#[97, 32, 48, 49, 50]⟩ : ByteArray) (by decide)
  have a3 := scan_f (⟨#[97, 32, 59]⟩ : ByteArray) (by decide)
  have a4 := scan_f (⟨#[49, 50, 97]⟩ : ByteArray) (by decide)
  have v1 : res34 (scanF ((⟨#[114, 49, 32, 61, 32, 97, 100, 100, 32, 114, 48, 32, 45, 53]⟩ : ByteArray).size + 1) (L ⟨#[114, 49, 32, 61, 32, 97, 100, 100, 32, 114, 48, 32, 45, 53]⟩) 0 []) = ([⟨1, 0, 0, ⟨#[114, 49]⟩⟩, ⟨3, 3, 0, ⟨#[61]⟩⟩, ⟨1, 5, 0, ⟨#[97, 100, 100]⟩⟩, ⟨1, 9, 0, ⟨#[114, 48]⟩⟩, ⟨2, 12, -5, ⟨#[]⟩⟩], 0, 0) := by kernel_rfl
  have v2 : res34 (scanF ((⟨#[97, 32, 48, 49, 50]⟩ : ByteArray).size + 1) (L ⟨#[97, 32, 48, 49, 50]⟩) 0 []) = ([], 2, 3) := by kernel_rfl
  have v3 : res34 (scanF ((⟨#[97, 32, 59]⟩ : ByteArray).size + 1) (L ⟨#[97, 32, 59]⟩) 0 []) = ([], 2, 12) := by kernel_rfl
  have v4 : res34 (scanF ((⟨#[49, 50, 97]⟩ : ByteArray).size + 1) (L ⟨#[49, 50, 97]⟩) 0 []) = ([], 0, 3) := by kernel_rfl
  rw [v1] at a1
  rw [v2] at a2
  rw [v3] at a3
  rw [v4] at a4
  unfold burnishlaw13_awake.f
  refine Ev.bind a1 (Ev.bind a2 (Ev.bind a3 (Ev.bind a4 ?_)))
  refine Ev.congr (f := fun _ => some true) (fun k => ?_) (Ev.now _)
  simp only [L_toList]
  kernel_rfl

theorem scanF_len : ∀ (f : Nat) (l : List UInt8) (o : Nat) (acc : List Tk), acc.length ≤ 20000 → (scanF f l o acc).1.length ≤ 20000 := by
  intro f
  induction f with
  | zero => intro l o acc h; exact h
  | succ f ih =>
    intro l o acc h
    rw [scanF]
    split
    · exact h
    · split
      · exact Nat.zero_le _
      · split
        · exact Nat.zero_le _
        · exact ih _ _ _ (by rw [List.length_append, List.length_singleton]; omega)

end Go.Proofs.Ytjfpaglnadfppaa.Pure
