/-
  LISTS AS SETS: what changes do to membership and order.
-/
import Derived.Test.YtfgchoifgocclaaDoorCmLaw
namespace Go.Cm

theorem add_small {a : List Int} {c : Int} (h : a.length < 255) : add a c = ins c (asc a) := by
  unfold add
  rw [if_neg]
  have := len_asc a
  omega
theorem join_small {a b : List Int} (h : a.length + b.length < 255) : join a b = asc (a ++ b) := by
  unfold join
  rw [join_eq, List.take_of_length_le]
  have := len_asc (a ++ b)
  simp at this
  omega
theorem contains_add {a : List Int} {c : Int} (h : a.length < 255) (d : Int) : (add a c).contains d = (a.contains d || c == d) := by
  rw [add_small h, Bool.eq_iff_iff]
  have := mem_ins c d (asc a)
  have := mem_asc a d
  simp
  grind
theorem contains_drop (a : List Int) (c d : Int) : (drop a c).contains d = (a.contains d && c != d) := by
  rw [Bool.eq_iff_iff]
  have := mem_asc a d
  simp [drop]
  grind
theorem contains_join {a b : List Int} (h : a.length + b.length < 255) (d : Int) : (join a b).contains d = (a.contains d || b.contains d) := by
  rw [join_small h, Bool.eq_iff_iff]
  have := mem_asc (a ++ b) d
  simp at this ⊢
  exact this
theorem check_add {a : List Int} {c : Int} (h : a.length < 255) : check (add a c) = 0 := by
  rw [add_small h]
  have h1 := len_ins c (asc a)
  have h2 := len_asc a
  exact check_up (by omega) (up_ins c _ (up_asc a))
theorem up_drop (a : List Int) (c : Int) : Up (drop a c) := (up_asc a).filter _
theorem len_drop (a : List Int) (c : Int) : (drop a c).length ≤ a.length := Nat.le_trans (List.length_filter_le _ _) (len_asc a)
theorem check_drop {a : List Int} {c : Int} (h : a.length < 255) : check (drop a c) = 0 := by
  have := len_drop a c
  exact check_up (by omega) (up_drop a c)
theorem check_join {a b : List Int} (h : a.length + b.length < 255) : check (join a b) = 0 := by
  rw [join_small h]
  have := len_asc (a ++ b)
  simp at this
  exact check_up (by omega) (up_asc _)
theorem join_comm {a b : List Int} (h : a.length + b.length < 255) : join a b = join b a := by
  rw [join_small h, join_small (by omega)]
  exact asc_eq (up_asc _) fun z => by rw [mem_asc]; simp [or_comm]
theorem drop_add {a : List Int} {c : Int} (h : a.length < 255) : drop (add a c) c = drop a c := by
  refine uniq _ _ (up_drop _ _) (up_drop _ _) fun z => ?_
  rw [add_small h]
  have := mem_ins c z (asc a)
  simp [drop, mem_asc]
  grind [mem_asc]
theorem len_add (a : List Int) (c : Int) : (add a c).length ≤ a.length + 1 := by
  have h1 := len_ins c (asc a)
  have h2 := len_asc a
  unfold add
  split <;> omega
theorem len_join (a b : List Int) : (join a b).length ≤ 255 := by unfold join; simp; omega
end Go.Cm
