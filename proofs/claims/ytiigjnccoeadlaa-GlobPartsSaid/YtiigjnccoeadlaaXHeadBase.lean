/- Heads of patterns: plain, and what the walks need beside it. -/
import Derived.Test.YtiigjnccoeadlaaPAx0
import Derived.Test.YtiigjnccoeadlaaXEmptyW
import Derived.Test.YtiigjnccoeadlaaXGlobApp
import Derived.Test.YtiigjnccoeadlaaXGlobBase
import Derived.Test.YtiigjnccoeadlaaXGlobSpec
import Derived.Test.YtiigjnccoeadlaaXMatchW
namespace Go.Proofs.Ytiigjnccoeadlaa.PA
open Go.RowKit Go.Proofs.YtiigjnccoeadlaaW.PrintWords Go.Proofs.YtiigjnccoeadlaaW.PrintLast Go.Proofs.YtiigjnccoeadlaaW.PrintMore
attribute [local go_sem] max2_int min2_int max_two min_two max_three min_three max_four min_four
set_option linter.unusedVariables false
set_option linter.unusedSimpArgs false
def patO (s : ByteArray) : Option (List Tok) := if s.size ≤ 100 then parse (s.size + 1) (gL s) else none
def hdL : List Tok → List Int
  | .lit c :: r => c :: hdL r
  | _ => []
def litAll : List Tok → Bool
  | [] => true
  | .lit _ :: r => litAll r
  | _ => false
structure HRow (T U : Nat) (w0 wr : World) (A : Option Addr) (L : List Sg) (v : Value) (out : List Int) : Prop where
  below : Below w0.heap.size w0 wr
  sg : SgVal T wr A L
  row_ : (Kd.int .u8).R U wr w0.heap.size (fun k => w0.heap.size ≤ k) v out
theorem HRow.start {T U : Nat} {w0 wr : World} {A : Option Addr} {L : List Sg} {v : Value} (h : SgRow T w0 wr v L) (hS : SgVal T wr A L) : HRow T U w0 wr A L (.slice none 0 0) [] := ⟨h.1, hS, Kd.R_nil _ _ _ _ _⟩
theorem byteApp {P : Program} {ops : Array Oper} {rest : List Oper} {o : Oper} {a : Act} {Q : Exit → Act → World → Prop} {w0 W : World} {T : Nat} {A : Option Addr} {L : List Sg} (hgd : o.guard = none) (s x : Operand) (t e : TypeId)
    (ho : o.op = .call { callee := .builtin .append, args := #[s, x], argTypes := #[t, t] }) (d : Option Tmp) (hd : o.dst = d)
    (ht : P.underlying t = some (.slice e)) (hinfo : (P.info? e).map (fun i => (i.zero, i.size, i.bytes)) = some (some (.int .u8 0), 1, 1)) (hne : T ≠ e)
    (v : Value) (out : List Int) (c : Int) (hs : a.eval s = v) (hx : a.eval x = .slice (some ⟨W.heap.size, 0, none⟩) 1 1) (HO : HRow T e w0 W A L v out) (hl : out.length < 1000000)
    (h : ∀ v1 w1, HRow T e w0 w1 A L v1 (out ++ [c]) → wpList P ops Q rest (a.put d v1) w1) : wpList P ops Q (o :: rest) a (W.alloc (.cells #[.int .u8 c] e)) := by
  subst hd
  refine Kd.R_append (Kd.int .u8) (w0 := w0) w0.heap.size hgd s x t e (.int .u8 0) 1 ho ht hinfo rfl (by decide) (by decide) v out c [.int .u8 c] (fun k => w0.heap.size ≤ k) (fun _ => False) hs hx rfl (fun _ hk => hk.elim) (fun k hk => Nat.le_trans (below_size HO.below) hk) HO.row_ HO.below (below_size HO.below) (by omega) (fun v1 w1 h1 h2 hg _ => h v1 w1 ⟨h2, fun hL => ?_, h1⟩)
  obtain ⟨g, cur, k1, k2, k3⟩ := HO.sg hL
  refine ⟨g, cur, k1, (hg.block g (blk_lt k2) (fun he => ?_)).trans k2, k3⟩
  obtain ⟨inner, ho2⟩ := Kd.R_own HO.row_
  obtain ⟨cells, hc⟩ := own_typed ho2 g he.symm
  rw [k2] at hc
  injection hc with hc
  injection hc with _ hc
  exact hne hc
theorem HRow.cell {T U : Nat} {w0 wr : World} {A : Option Addr} {v : Value} {out : List Int} {l : List Tok} {f : Tok → Sg} {k : Nat} {t : Tok} (h : HRow T U w0 wr A (l.map f) v out) (hk : l[k]? = some t) : ∃ g, A = some ⟨g, 0, none⟩ ∧ wr.cell? ⟨g, k * 259, none⟩ = some (.int .i64 (f t).k) ∧ wr.cell? ⟨g, k * 259 + 1, none⟩ = some (.int .u8 (f t).c) := by
  obtain ⟨g, hg, hh⟩ := h.sg.has k (f t) (by rw [List.getElem?_map, hk]; rfl)
  have h0 := hh 0 (.int .i64 (f t).k) rfl
  rw [Nat.add_zero] at h0
  exact ⟨g, hg, h0, hh 1 (.int .u8 (f t).c) rfl⟩
/-- The state of the loop over the signs. -/
def HInv (l : List Tok) (k : Nat) (out : List Int) : Prop := k ≤ l.length ∧ out.length ≤ k ∧ hdL l = out ++ hdL (l.drop k) ∧ litAll l = litAll (l.drop k)
theorem HInv.start (l : List Tok) : HInv l 0 [] := ⟨Nat.zero_le _, Nat.le_refl _, rfl, rfl⟩
theorem drop_at {l : List Tok} {k : Nat} {t : Tok} (h : l[k]? = some t) : l.drop k = t :: l.drop (k + 1) := by
  obtain ⟨hl, hg⟩ := List.getElem?_eq_some_iff.1 h
  rw [List.drop_eq_getElem_cons hl, hg]
theorem HInv.next {l : List Tok} {k : Nat} {out : List Int} {c : Int} (h : HInv l k out) (hk : l[k]? = some (.lit c)) : HInv l (k + 1) (out ++ [c]) := by
  obtain ⟨h1, h2, h3, h4⟩ := h
  rw [drop_at hk] at h3 h4
  have := (List.getElem?_eq_some_iff.1 hk).1
  exact ⟨this, by simp; omega, by rw [h3]; simp [hdL], by rw [h4]; rfl⟩
theorem HInv.done {l : List Tok} {out : List Int} (h : HInv l l.length out) : hdL l = out ∧ litAll l = true := by
  obtain ⟨h1, h2, h3, h4⟩ := h
  rw [List.drop_length] at h3 h4
  exact ⟨by rw [h3]; simp [hdL], by rw [h4]; rfl⟩
theorem HInv.stop {l : List Tok} {k : Nat} {out : List Int} {t : Tok} (h : HInv l k out) (hk : l[k]? = some t) (ht : ∀ c, t ≠ .lit c) : hdL l = out ∧ litAll l = false := by
  obtain ⟨h1, h2, h3, h4⟩ := h
  rw [drop_at hk] at h3 h4
  cases t with
  | lit c => exact absurd rfl (ht c)
  | star2 => exact ⟨by rw [h3]; simp [hdL], by rw [h4]; rfl⟩
  | star => exact ⟨by rw [h3]; simp [hdL], by rw [h4]; rfl⟩
  | one => exact ⟨by rw [h3]; simp [hdL], by rw [h4]; rfl⟩
  | cls n s => exact ⟨by rw [h3]; simp [hdL], by rw [h4]; rfl⟩
theorem code_lit {t : Tok} (h : ∀ c, t ≠ .lit c) : ((codeSg t).k == 0) = false ∧ ((refSg t).k == 0) = false := by
  cases t <;> first | exact ⟨rfl, rfl⟩ | exact absurd rfl (h _)
theorem patO_len {s : ByteArray} {l : List Tok} (h : patO s = some l) : l.length ≤ 100 := by
  unfold patO at h
  split at h
  · have := parse_len _ _ _ h
    rw [gl_len] at this
    omega
  · cases h
theorem hd_str {P : Program} {w : World} {src dst e : TypeId} {A : Option Addr} {base c : Nat} {ok : Nat → Prop} {out : List Int} (hs : P.underlying src = some (.slice e)) (he : P.underlying e = some (.int .u8)) (hd : P.underlying dst = some .string) (h : (Kd.int .u8).R e w base ok (.slice A out.length c) out) :
    (convert src dst (.slice A out.length c)).run P w = .ok (.string (strOfNums out)) w := Kd.C_string hs he hd (Kd.R_reads' h).2.2
end Go.Proofs.Ytiigjnccoeadlaa.PA
