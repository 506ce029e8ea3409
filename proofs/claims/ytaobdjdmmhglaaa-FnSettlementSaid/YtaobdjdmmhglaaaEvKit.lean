/- Small lemmas on printed functions: how a function with a number of rounds comes to its answer, on reads of lists, and on wrapped numbers. They hold for all values. -/
import Derived.Test.YtaobdjdmmhglaaaWMore
namespace Go.Proofs.Ytaobdjdmmhglaaa.EvKit
open Go.RowKit Go.Proofs.YtaobdjdmmhglaaaW.PrintWords Go.Proofs.YtaobdjdmmhglaaaW.PrintMore

theorem evSucc {α : Type} {g : Nat → Option α} {r : α} (h : Ev (fun k => g (k + 1)) r) : Ev g r := Ev.step (fun _ => rfl) h
theorem evSome {α : Type} {a r : α} (h : a = r) : Ev (fun _ => some a) r := by subst h; exact Ev.now a
theorem evPos {α : Type} {c : Prop} [Decidable c] {g f : Nat → Option α} {r : α} (hc : c) (h : Ev g r) : Ev (fun k => if c then g k else f k) r := by simp only [if_pos hc]; exact h
theorem evNeg {α : Type} {c : Prop} [Decidable c] {g f : Nat → Option α} {r : α} (hc : ¬ c) (h : Ev f r) : Ev (fun k => if c then g k else f k) r := by simp only [if_neg hc]; exact h
theorem evIte {α : Type} {c : Prop} [Decidable c] {g f : Nat → Option α} {r : α} (h1 : c → Ev g r) (h2 : ¬ c → Ev f r) : Ev (fun k => if c then g k else f k) r := by
  by_cases hc : c
  · exact evPos hc (h1 hc)
  · exact evNeg hc (h2 hc)
/-- A part without rounds whose answer is known. -/
theorem evBindS {α β : Type} {g : Option α} {f : Nat → α → Option β} {a : α} {r : β} (h : g = some a) (k : Ev (fun n => f n a) r) : Ev (fun n => g.bind (f n)) r := by subst h; exact k
theorem evBind {α β : Type} {g : Nat → Option α} {f : Nat → α → Option β} {a : α} {r : β} (h : Ev g a) (k : Ev (fun n => f n a) r) : Ev (fun n => (g n).bind (f n)) r := Ev.bind h k
theorem evConst {α : Type} {g : Option α} {r : α} (h : g = some r) : Ev (fun _ => g) r := by subst h; exact Ev.now r
theorem evTrue {α : Type} {g : Nat → Option α} {r : α} {b : Bool} (hb : b = true) (f : Nat → Option α) (h : Ev g r) : Ev (fun k => if b = true then g k else f k) r := evPos hb h
theorem evEq {α : Type} {g : Nat → Option α} {r r' : α} (h : Ev g r) (e : r = r') : Ev g r' := by subst e; exact h

theorem wrapId {x : Int} (h : -9223372036854775808 ≤ x ∧ x ≤ 9223372036854775807) : wrap64 x = x := by unfold wrap64; omega
theorem wrapIn (x : Int) : -9223372036854775808 ≤ wrap64 x ∧ wrap64 x ≤ 9223372036854775807 := by unfold wrap64; omega
theorem wrap_add_l (x y : Int) : wrap64 (wrap64 x + y) = wrap64 (x + y) := by unfold wrap64; omega
theorem wrap_add_r (x y : Int) : wrap64 (x + wrap64 y) = wrap64 (x + y) := by unfold wrap64; omega
theorem wrap_sub_l (x y : Int) : wrap64 (wrap64 x - y) = wrap64 (x - y) := by unfold wrap64; omega
theorem wrap_sub_r (x y : Int) : wrap64 (x - wrap64 y) = wrap64 (x - y) := by unfold wrap64; omega
theorem wrap_wrap (x : Int) : wrap64 (wrap64 x) = wrap64 x := by unfold wrap64; omega

theorem getD_at {α : Type} {xs pre t : List α} {a d : α} (h : xs = pre ++ a :: t) {i : Int} (hi : i = pre.length) : xs.getD i.toNat d = a := by
  subst h hi; simp
theorem rd_at {xs pre t : List Int} {a : Int} (h : xs = pre ++ a :: t) {i : Int} (hi : i = pre.length) : rd xs i = a := getD_at h hi
theorem set_at {α : Type} {xs pre t : List α} {a b : α} (h : xs = pre ++ a :: t) {i : Int} (hi : i = pre.length) : xs.set i.toNat b = pre ++ b :: t := by
  subst h hi; simp
theorem len_nil {α : Type} {xs pre : List α} (h : xs = pre ++ []) : (xs.length : Int) = pre.length := by subst h; simp
theorem len_cons {α : Type} {xs pre t : List α} {a : α} (h : xs = pre ++ a :: t) : (xs.length : Int) = pre.length + t.length + 1 := by subst h; simp; omega
theorem snoc {α : Type} {xs pre t : List α} {a : α} (h : xs = pre ++ a :: t) : xs = (pre ++ [a]) ++ t := by subst h; simp
theorem len_snoc {α : Type} (pre : List α) (a : α) : ((pre ++ [a]).length : Int) = pre.length + 1 := by simp
end Go.Proofs.Ytaobdjdmmhglaaa.EvKit
