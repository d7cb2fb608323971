/- Plain lemmas on strings as lists of bytes; no program in sight. No conditions. -/
import Derived.RowKit
import Derived.Laws.BytesArg
import Derived.Laws.BitsLemmas
import Derived.Test.YtafpbechcjcdbaaDoorVFnDateText
import Derived.Test.YtafpbechcjcdbaaDoorVFnDateTextMBase
namespace Go.Proofs.YtafpbechcjcdbaaDoor.M
open Go.RowKit Go.Proofs.YtafpbechcjcdbaaDoorW.PrintWords
def S (l : List UInt8) : ByteArray := ⟨l.toArray⟩
theorem S_eta (s : ByteArray) : S s.data.toList = s := by
  apply ByteArray.ext
  show s.data.toList.toArray = s.data
  simp
theorem ex_S (s : ByteArray) : ∃ l, s = S l := ⟨s.data.toList, (S_eta s).symm⟩
theorem data_S (l : List UInt8) : (S l).data.toList = l := rfl
theorem size_S (l : List UInt8) : (S l).size = l.length := by
  show l.toArray.size = l.length
  simp
theorem S_inj {a b : List UInt8} (h : S a = S b) : a = b := by
  have := congrArg (fun s : ByteArray => s.data.toList) h
  exact this
theorem append_S (a b : List UInt8) : S a ++ S b = S (a ++ b) := by
  apply ByteArray.ext
  rw [ByteArray.data_append]
  show a.toArray ++ b.toArray = (a ++ b).toArray
  simp
theorem extract_S (l : List UInt8) (i j : Nat) : (S l).extract i j = S ((l.drop i).take (j - i)) := by
  apply ByteArray.ext
  rw [ByteArray.data_extract]
  show l.toArray.extract i j = ((l.drop i).take (j - i)).toArray
  simp [List.extract_eq_drop_take']
theorem strOfNums_S (xs : List Int) : strOfNums xs = S (xs.map fun n => UInt8.ofNat n.toNat) := rfl
theorem bt_S (l : List UInt8) (i : Int) : bt (S l) i = ((l.getD i.toNat 0).toNat : Int) := by
  unfold bt
  by_cases h : i.toNat < (S l).size
  · rw [dif_pos h]
    have h' : i.toNat < l.length := by rw [size_S] at h; exact h
    have : (S l)[i.toNat]'h = l[i.toNat]'h' := rfl
    rw [this, List.getD_eq_getElem?_getD, List.getElem?_eq_getElem h']
    rfl
  · rw [dif_neg h]
    have h' : l.length ≤ i.toNat := by rw [size_S] at h; omega
    rw [List.getD_eq_getElem?_getD, List.getElem?_eq_none h']
    rfl
theorem toList_loop (s : ByteArray) : ∀ (d i : Nat) (acc : List UInt8), s.size - i = d → ByteArray.toList.loop s i acc = acc.reverse ++ s.data.toList.drop i := by
  intro d
  induction d with
  | zero =>
    intro i acc h
    unfold ByteArray.toList.loop
    rw [if_neg (by omega), List.drop_of_length_le (by have : s.data.toList.length = s.size := data_length s; omega)]
    simp
  | succ d ih =>
    intro i acc h
    unfold ByteArray.toList.loop
    rw [if_pos (by omega), ih (i + 1) _ (by omega)]
    have hl : i < s.data.toList.length := by have : s.data.toList.length = s.size := data_length s; omega
    rw [List.drop_eq_getElem_cons hl]
    have hd : i < s.data.size := by omega
    have : s.get! i = s.data.toList[i]'hl := by
      show s.data[i]! = _
      rw [getElem!_pos s.data i hd]
      simp
    rw [this]
    simp
theorem toList_S (l : List UInt8) : (S l).toList = l := by
  unfold ByteArray.toList
  rw [toList_loop (S l) _ 0 [] rfl]
  simp [data_S]
theorem drop_cons {l : List UInt8} {i : Nat} (h : i < l.length) : l.drop i = l[i] :: l.drop (i + 1) := List.drop_eq_getElem_cons h
theorem u8_eq {c d : UInt8} : (c.toNat : Int) = (d.toNat : Int) ↔ c = d := by
  constructor
  · intro h
    exact UInt8.toNat_inj.1 (by omega)
  · intro h
    rw [h]
theorem u8_is {c : UInt8} {n : Nat} (hn : n < 256) : (c.toNat : Int) = (n : Int) ↔ c = UInt8.ofNat n := by
  constructor
  · intro h
    apply UInt8.toNat_inj.1
    rw [UInt8.toNat_ofNat']
    omega
  · intro h
    rw [h, UInt8.toNat_ofNat']
    omega
end Go.Proofs.YtafpbechcjcdbaaDoor.M
