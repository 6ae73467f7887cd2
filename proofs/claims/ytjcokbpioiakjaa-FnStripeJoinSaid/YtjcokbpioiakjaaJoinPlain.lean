/- What StripeJoin answers, in plain words. -/
import Derived.Test.YtjcokbpioiakjaaStripe
namespace Go.Proofs.Ytjcokbpioiakjaa
open Go.RowKit

/-- there is a block of these columns -/
def joinOk (cs : List ByteArray) (size lost : Int) : Bool :=
  match cs with
  | [a, b, c] => inR size 1 128 && inR lost (-1) 1 && (lost == 0 || (a.size : Int) == (size + 1) / 2) && (lost == 1 || (b.size : Int) == size - (size + 1) / 2) && (lost == -1 || (c.size : Int) == (size + 1) / 2)
  | _ => false
/-- the other column -/
def othT (c x : ByteArray) : ByteArray := ⟨(xr c.data.toList x.data.toList).toArray⟩
/-- the block -/
def joinT (cs : List ByteArray) (size lost : Int) : ByteArray :=
  match cs with
  | [a, b, c] => if lost = 0 then othT c b ++ b else if lost = 1 then a ++ (othT c a).extract 0 (size - (size + 1) / 2).toNat else a ++ b
  | _ => ⟨#[]⟩
/-- what it answers -/
def joinV (cs : List ByteArray) (size lost : Int) : Value := if joinOk cs size lost then .tuple #[.string (joinT cs size lost), .bool true] else .tuple #[.string ⟨#[]⟩, .bool false]

theorem oth_size (c x : ByteArray) : (othT c x).size = c.size := by
  show (xr c.data.toList x.data.toList).toArray.size = c.data.size
  simp [xr_len]
theorem oth_take (c x : ByteArray) (m : Nat) (_h : m ≤ c.size) : ByteArray.mk ((xr c.data.toList x.data.toList).take m).toArray = (othT c x).extract 0 m := by
  have e : ((othT c x).extract 0 m).data = ((xr c.data.toList x.data.toList).take m).toArray := by
    rw [ByteArray.data_extract]
    apply Array.ext'
    simp [othT, List.extract_eq_take_drop]
  rw [← e]
theorem oth_all (c x : ByteArray) (m : Nat) (h : m = c.size) : ByteArray.mk ((xr c.data.toList x.data.toList).take m).toArray = othT c x := by
  subst h
  unfold othT
  rw [List.take_of_length_le (by rw [xr_len, Array.length_toList]; exact Nat.le_refl _)]


section
variable {a b c : ByteArray} {size lost q m : Int}
theorem join_a (hq : (size + 1) / 2 = q) (hl : (lost == 0) = false) (e : ((a.size : Int) == q) = false) : joinV [a, b, c] size lost = .tuple #[.string ⟨#[]⟩, .bool false] := by
  have h : joinOk [a, b, c] size lost = false := by simp only [joinOk]; rw [hq, e, hl]; simp
  unfold joinV
  rw [if_neg (by rw [h]; decide)]
theorem join_b (hm : size - (size + 1) / 2 = m) (hl : (lost == 1) = false) (e : ((b.size : Int) == m) = false) : joinV [a, b, c] size lost = .tuple #[.string ⟨#[]⟩, .bool false] := by
  have h : joinOk [a, b, c] size lost = false := by simp only [joinOk]; rw [hm, e, hl]; simp
  unfold joinV
  rw [if_neg (by rw [h]; decide)]
theorem join_c (hq : (size + 1) / 2 = q) (hl : (lost == -1) = false) (e : ((c.size : Int) == q) = false) : joinV [a, b, c] size lost = .tuple #[.string ⟨#[]⟩, .bool false] := by
  have h : joinOk [a, b, c] size lost = false := by simp only [joinOk]; rw [hq, e, hl]; simp
  unfold joinV
  rw [if_neg (by rw [h]; decide)]
theorem join_r (h : inR size 1 128 = false) : joinV [a, b, c] size lost = .tuple #[.string ⟨#[]⟩, .bool false] := by
  have h : joinOk [a, b, c] size lost = false := by simp only [joinOk]; rw [h]; simp
  unfold joinV
  rw [if_neg (by rw [h]; decide)]
theorem join_l (h : inR lost (-1) 1 = false) : joinV [a, b, c] size lost = .tuple #[.string ⟨#[]⟩, .bool false] := by
  have h : joinOk [a, b, c] size lost = false := by simp only [joinOk]; rw [h]; simp
  unfold joinV
  rw [if_neg (by rw [h]; decide)]
theorem join_m (hq : (size + 1) / 2 = q) (hm : size - (size + 1) / 2 = m) (h1 : inR size 1 128 = true) (e1 : ((a.size : Int) == q) = true) (e2 : ((b.size : Int) == m) = true) : joinV [a, b, c] size (-1) = .tuple #[.string (a ++ b), .bool true] := by
  have h : joinOk [a, b, c] size (-1) = true := by simp only [joinOk]; rw [hm, hq, e1, e2, h1]; simp [inR]
  unfold joinV
  rw [if_pos h]
  simp [joinT]
theorem join_0 (hq : (size + 1) / 2 = q) (hm : size - (size + 1) / 2 = m) (h1 : inR size 1 128 = true) (e1 : ((b.size : Int) == m) = true) (e2 : ((c.size : Int) == q) = true) : joinV [a, b, c] size 0 = .tuple #[.string (othT c b ++ b), .bool true] := by
  have h : joinOk [a, b, c] size 0 = true := by simp only [joinOk]; rw [hm, hq, e1, e2, h1]; simp [inR]
  unfold joinV
  rw [if_pos h]
  simp [joinT]
theorem join_1 {m : Nat} (hq : (size + 1) / 2 = q) (hm : size - (size + 1) / 2 = (m : Int)) (h1 : inR size 1 128 = true) (e1 : ((a.size : Int) == q) = true) (e2 : ((c.size : Int) == q) = true) : joinV [a, b, c] size 1 = .tuple #[.string (a ++ (othT c a).extract 0 m), .bool true] := by
  have h : joinOk [a, b, c] size 1 = true := by simp only [joinOk]; rw [hq, e1, e2, h1]; simp [inR]
  unfold joinV
  rw [if_pos h]
  have h2 : joinT [a, b, c] size 1 = a ++ (othT c a).extract 0 m := by
    unfold joinT
    simp only []
    rw [if_neg (by decide), if_pos trivial, hm]
    rfl
  rw [h2]
end
end Go.Proofs.Ytjcokbpioiakjaa
