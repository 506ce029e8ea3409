/- What reads as data of a type has cells of the type's kind: one lemma for each form of type. It holds for every program, every world and every value. -/
import Derived.Test.YtaobdjdmmhglaaaWWords
import Derived.ChangeArms
import Derived.OpenShut
import Derived.Deep.Slices
namespace Go.Proofs.Ytaobdjdmmhglaaa.KReads
open Go.ChangeShapes Go.WideShapes Go.Deep Go.RowKit
open Go.Proofs.YtaobdjdmmhglaaaW.PrintWords

/-- A number of Go's int. -/
def InI (n : Int) : Prop := -9223372036854775808 ≤ n ∧ n ≤ 9223372036854775807

section
variable {H : Type} {enc : TypeId × Value → H} {P : Program} {w : World}

/-- Whatever reads as data of type t has cells of kind d, and what they say is in order. -/
def Tells (enc : TypeId × Value → H) (P : Program) (w : World) (t : TypeId) {α : Type} (d : Kd α) (ok : α → Prop) : Prop :=
  ∀ (fuel : Nat) (cs : List Value) (x : DataW H × List MemPlace), DataW.trod enc P w 0 (fun _ => true) true fuel t cs = some x → ∃ a, d.K w a cs ∧ ok a

theorem tells_i64 {t : TypeId} (ht : P.underlying t = some (.int .i64)) : Tells enc P w t (Kd.int .i64) InI := by
  intro fuel cs x h
  obtain ⟨n, rfl, _, hw⟩ := DataW.trod_int ht h
  exact ⟨n, rfl, bounds_i64 hw⟩
theorem tells_u8 {t : TypeId} (ht : P.underlying t = some (.int .u8)) : Tells enc P w t (Kd.int .u8) (fun n => 0 ≤ n ∧ n ≤ 255) := by
  intro fuel cs x h
  obtain ⟨n, rfl, _, hw⟩ := DataW.trod_int ht h
  exact ⟨n, rfl, bounds_u8 hw⟩
theorem tells_bool {t : TypeId} (ht : P.underlying t = some .bool) : Tells enc P w t Kd.bool (fun _ => True) := by
  intro fuel cs x h
  obtain ⟨b, rfl, _⟩ := DataW.trod_bool ht h
  exact ⟨b, rfl, trivial⟩
theorem tells_string {t : TypeId} (ht : P.underlying t = some .string) : Tells enc P w t Kd.string (fun s => s.size ≤ maxLen) := by
  intro fuel cs x h
  obtain ⟨s, rfl, _, hs⟩ := DataW.trod_string ht h
  exact ⟨s, rfl, hs⟩

/-- A slice whose elements tell. -/
theorem tells_slice {t e : TypeId} {α : Type} {d : Kd α} {ok : α → Prop} (ht : P.underlying t = some (.slice e)) (he : Tells enc P w e d ok) (hc : P.cellsOf e = d.sz) :
    Tells enc P w t (Kd.slice e d) (fun l => l.length ≤ 9223372036854775807 ∧ ∀ x ∈ l, ok x) := by
  intro fuel cs x h
  rcases DataW.trod_slice ht h with ⟨rfl, _⟩ | ⟨a, len, cap, elems, rest, n, _, rfl, _, _, hl, hm, hlen, hel, hsp⟩
  · exact ⟨[], ⟨none, 0, rfl, Nat.le_refl _, rfl, by simp, fun h0 => by simp at h0⟩, by simp, fun x hx => by simp at hx⟩
  · have hone : ∀ i, i < len → ∃ (y : α) (c : List Value), c.length = d.sz ∧ d.K w y c ∧ ok y ∧ ∀ j u, c[j]? = some u → w.cell? (a.add (i * d.sz + j)) = some u := by
      intro i hi
      have h1 := hel i hi
      have hi' : i < elems.length := by omega
      rw [List.getElem?_eq_getElem hi'] at h1
      obtain ⟨cs', h2, h3⟩ := Option.bind_eq_some_iff.mp h1
      obtain ⟨_, h4, h5⟩ := World.cells?_some h2
      obtain ⟨y, h6, h7⟩ := he _ _ _ h3
      rw [hc] at h4 h5
      refine ⟨y, cs', h4, h6, h7, fun j u hu => ?_⟩
      have hj : j < cs'.length := by
        rcases Nat.lt_or_ge j cs'.length with h | h
        · exact h
        · rw [List.getElem?_eq_none h] at hu; cases hu
      have h8 := h5 j (by omega)
      rw [Go.Deep.add_add] at h8
      rw [h8, hu]
    have hall : ∃ l : List α, l.length = len ∧ ∀ i (hi : i < l.length), ∃ c : List Value, c.length = d.sz ∧ d.K w l[i] c ∧ ok l[i] ∧ ∀ j u, c[j]? = some u → w.cell? (a.add (i * d.sz + j)) = some u := by
      clear hel hlen h hl hm hsp
      induction len with
      | zero => exact ⟨[], rfl, fun i hi => by simp at hi⟩
      | succ m ih =>
        obtain ⟨l, hl, hlc⟩ := ih (fun i hi => hone i (by omega))
        obtain ⟨y, c, hy⟩ := hone m (by omega)
        refine ⟨l ++ [y], by simp [hl], fun i hi => ?_⟩
        rcases Nat.lt_or_ge i l.length with h | h
        · rw [List.getElem_append_left h]; exact hlc i h
        · have : i = l.length := by simp at hi; omega
          subst this
          rw [List.getElem_append_right (Nat.le_refl _)]
          simp only [Nat.sub_self, List.getElem_cons_zero]
          rw [hl]
          exact ⟨c, hy⟩
    obtain ⟨l, hl2, hlc⟩ := hall
    have hbig : l.length ≤ 9223372036854775807 := by unfold maxLen at hm; omega
    refine ⟨l, ⟨some a, cap, by rw [hl2], by omega, rfl, hbig, fun _ => ⟨a, rfl, fun j p hj => ?_⟩⟩, hbig, fun x hx => ?_⟩
    · obtain ⟨hj1, rfl⟩ := List.getElem?_eq_some_iff.mp hj
      obtain ⟨c, h1, h2, _, h4⟩ := hlc j hj1
      exact ⟨c, h1, h2, h4⟩
    · obtain ⟨i, hi, rfl⟩ := List.getElem_of_mem hx
      obtain ⟨c, _, _, h3, _⟩ := hlc i hi
      exact h3

/-- The fields fs, the first of them at offset off, tell. -/
def TellsF (enc : TypeId × Value → H) (P : Program) (w : World) (fs : List Field) (off : Nat) {α : Type} (d : Kd α) (ok : α → Prop) : Prop :=
  ∀ (fuel : Nat) (cs : List Value) (xs : List (DataW H × List MemPlace)), xs.length = fs.length → cs.length = off + d.sz →
    (∀ (i : Nat) (f : Field), fs[i]? = some f → DataW.trod enc P w 0 (fun _ => true) true fuel f.type ((cs.drop f.offset).take (P.cellsOf f.type)) = xs[i]?) → ∃ a, d.K w a (cs.drop off) ∧ ok a

theorem tellsF_one {f : Field} {off : Nat} {α : Type} {d : Kd α} {ok : α → Prop} (h0 : Tells enc P w f.type d ok) (ho : f.offset = off) (hc : P.cellsOf f.type = d.sz) : TellsF enc P w [f] off d ok := by
  intro fuel cs xs hx hl h
  have h1 := h 0 f rfl
  have hx' : 0 < xs.length := by rw [hx]; simp
  rw [List.getElem?_eq_getElem hx', hc, ho, List.take_of_length_le (by rw [List.length_drop]; omega)] at h1
  exact h0 _ _ _ h1
theorem tellsF_cons {f : Field} {fs : List Field} {off : Nat} {α β : Type} {d : Kd α} {d' : Kd β} {ok : α → Prop} {ok' : β → Prop} (h0 : Tells enc P w f.type d ok) (ho : f.offset = off) (hc : P.cellsOf f.type = d.sz)
    (hr : TellsF enc P w fs (off + d.sz) d' ok') : TellsF enc P w (f :: fs) off (Kd.pair d d') (fun x => ok x.1 ∧ ok' x.2) := by
  intro fuel cs xs hx hl h
  have h1 := h 0 f rfl
  obtain ⟨x, xs, rfl⟩ : ∃ x ys, xs = x :: ys := by
    cases xs with
    | nil => simp at hx
    | cons x ys => exact ⟨x, ys, rfl⟩
  rw [hc, ho] at h1
  obtain ⟨a, ha, hoka⟩ := h0 _ _ _ h1
  have hl' : cs.length = off + (d.sz + d'.sz) := hl
  obtain ⟨b, hb, hokb⟩ := hr fuel cs xs (by simpa using hx) (by omega) (fun i g hg => by simpa using h (i + 1) g (by simpa using hg))
  refine ⟨(a, b), ⟨(cs.drop off).take d.sz, cs.drop (off + d.sz), ?_, ha, hb⟩, hoka, hokb⟩
  rw [← List.drop_drop, List.take_append_drop]
theorem tells_struct {t : TypeId} {fs : List Field} {α : Type} {d : Kd α} {ok : α → Prop} (ht : P.underlying t = some (.struct fs.toArray)) (hC : P.cellsOf t = d.sz) (h : TellsF enc P w fs 0 d ok) : Tells enc P w t d ok := by
  intro fuel cs x hx
  obtain ⟨xs, n, _, _, hl, hxl, hf⟩ := DataW.trod_struct ht hx
  obtain ⟨a, ha, hok⟩ := h n cs xs (by simpa using hxl) (by omega) (fun i f hi => hf i f (by simpa using hi))
  exact ⟨a, by simpa using ha, hok⟩
theorem tells_iso {t : TypeId} {α β : Type} {d : Kd α} {ok : α → Prop} (h : Tells enc P w t d ok) (f : β → α) (g : α → β) (hg : ∀ y, f (g y) = y) : Tells enc P w t (Kd.iso d f) (fun x => ok (f x)) := by
  intro fuel cs x hx
  obtain ⟨a, ha, hok⟩ := h fuel cs x hx
  exact ⟨g a, by show d.K w (f (g a)) cs; rw [hg]; exact ha, by show ok (f (g a)); rw [hg]; exact hok⟩
theorem tells_mono {t : TypeId} {α : Type} {d : Kd α} {ok ok' : α → Prop} (h : Tells enc P w t d ok) (hi : ∀ x, ok x → ok' x) : Tells enc P w t d ok' := by
  intro fuel cs x hx
  obtain ⟨a, ha, hok⟩ := h fuel cs x hx
  exact ⟨a, ha, hi a hok⟩

/-- A slice that came in, opened. -/
theorem arg_slice {t e : TypeId} {α : Type} {d : Kd α} {ok : List α → Prop} (T : Tells enc P w t (Kd.slice e d) ok) {A : Option Addr} {len cap : Nat} {x : DataW H} {p : List MemPlace}
    (h : DataW.Trod enc P w 0 (fun _ => true) true t (.slice A len cap) x p) : ∃ l : List α, len = l.length ∧ l.length ≤ cap ∧ d.C w A l.length l ∧ ok l := by
  obtain ⟨fuel, hf⟩ := h
  obtain ⟨l, ⟨A', c', he, hc, hr⟩, hok⟩ := T _ _ _ hf
  have he' : ([.slice A len cap] : List Value) = [.slice A' l.length c'] := he
  simp only [List.cons.injEq, Value.slice.injEq, and_true] at he'
  obtain ⟨rfl, rfl, rfl⟩ := he'
  exact ⟨l, rfl, hc, hr, hok⟩
/-- A struct that came in by value, opened: its cells. -/
theorem arg_struct {t : TypeId} {α : Type} {d : Kd α} {ok : α → Prop} (T : Tells enc P w t d ok) {cs : Array Value} {x : DataW H} {p : List MemPlace}
    (h : DataW.Trod enc P w 0 (fun _ => true) true t (.agg cs) x p) : ∃ a, d.K w a cs.toList ∧ ok a := by
  obtain ⟨fuel, hf⟩ := h
  exact T _ _ _ hf
end
end Go.Proofs.Ytaobdjdmmhglaaa.KReads
