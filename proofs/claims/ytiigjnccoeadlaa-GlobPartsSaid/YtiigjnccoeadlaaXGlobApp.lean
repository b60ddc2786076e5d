/- append(l, sign) in one law: the literal of one sign, and the append; the readings of a row of signs. -/
import Derived.Great.BuildSlice
import Derived.Laws.CopyOwn
import Derived.Test.YtiigjnccoeadlaaPAx0
import Derived.Test.YtiigjnccoeadlaaXGlobBase
import Derived.Test.YtiigjnccoeadlaaXGlobSpec
namespace Go.Proofs.Ytiigjnccoeadlaa.PA
open Go.RowKit Go.Proofs.YtiigjnccoeadlaaW.PrintWords Go.Proofs.YtiigjnccoeadlaaW.PrintLast Go.Proofs.YtiigjnccoeadlaaW.PrintMore
attribute [local go_sem] max2_int min2_int max_two min_two max_three min_three max_four min_four
set_option linter.unusedVariables false
set_option linter.unusedSimpArgs false
theorem fill_sg (x : Sg) (z : Array Value) (hz : z.size = 259) : Instr.fill (fun i => some (i * 259, 259)) z [(0, .agg (sgA x))] = some (sgA x) := by
  obtain ⟨r, h1, h2, h3⟩ := Great.fill_dense (s := 259) (by decide) [.agg (sgA x)] 0 z (fun v hv => by
    rw [List.mem_singleton.1 hv]
    exact sgA_len x) (by rw [hz]; simp)
  have e : r = sgA x := by
    apply Array.ext_getElem?
    intro k
    rw [h3 k]
    by_cases hk : k < 259
    · have hd : k / 259 = 0 := Nat.div_eq_of_lt hk
      have hm : k % 259 = k := Nat.mod_eq_of_lt hk
      rw [if_pos ⟨by omega, by simpa using hk⟩, hd, hm]
      rfl
    · rw [if_neg (by simp; omega), Array.getElem?_eq_none (by rw [hz]; omega), Array.getElem?_eq_none (by rw [sgA_len]; omega)]
  rw [e] at h1
  exact h1
theorem sg_range (z : Array Value) : ((Array.range (1 * 259)).map (z[· % z.size]!)).size = 259 := by simp
/-- The literal of one sign: its block. -/
theorem wpList_oneSg {P : Program} {ops : Array Oper} {rest : List Oper} {o : Oper} {a : Act} {w : World} {Q : Exit → Act → World → Prop} (hg : o.guard = none) (t e : TypeId) (y : Operand) (ho : o.op = .buildSlice t 1 #[(0, y)])
    (d : Option Tmp) (hd : o.dst = d) (hu : P.underlying t = some (.slice e)) (hi : (P.info? e).map (fun i => (i.zero, i.size, i.bytes)) = some (some (.agg (sgA sgz)), 259, 272)) (x : Sg) (hy : a.eval y = .agg (sgA x))
    (h : wpList P ops Q rest (a.put d (.slice (some ⟨w.heap.size, 0, none⟩) 1 1)) (w.alloc (.cells (sgA x) e))) : wpList P ops Q (o :: rest) a w := by
  subst hd
  cases hie : P.info? e with
  | none => simp [hie] at hi
  | some ie =>
    simp only [hie, Option.map_some, Option.some.injEq, Prod.mk.injEq] at hi
    obtain ⟨h1, h2, h3⟩ := hi
    refine wpList_buildSlice hg t e 1 #[(0, y)] ho (sgA x) ie (.agg (sgA sgz)) hu hie h1 (by rw [h2]; decide) (by rw [h2]; decide) ?_ h
    rw [h2]
    simp only [List.map_toArray, List.map_cons, List.map_nil, hy]
    exact fill_sg x _ (sg_range _)
/-- The signs so far, in a row of the call's own. -/
def SgRow (T : Nat) (w0 wr : World) (v : Value) (l : List Sg) : Prop := Below w0.heap.size w0 wr ∧ kSg.R T wr w0.heap.size (fun k => w0.heap.size ≤ k) v l
theorem SgRow.start (T : Nat) (w : World) : SgRow T w w (.slice none 0 0) [] := ⟨Below.refl _ _, Kd.R_nil _ _ _ _ _⟩
theorem SgRow.step {T : Nat} {w0 wr w2 : World} {v : Value} {l : List Sg} (h : SgRow T w0 wr v l) (hb : Below wr.heap.size wr w2) : SgRow T w0 w2 v l := ⟨below_step h.1 hb, Kd.R_below h.2 hb⟩
/-- append of one sign, behind its literal. -/
theorem sgApp {P : Program} {ops : Array Oper} {rest : List Oper} {o : Oper} {a : Act} {Q : Exit → Act → World → Prop} {w0 W : World} (hgd : o.guard = none) (s x : Operand) (t e : TypeId)
    (ho : o.op = .call { callee := .builtin .append, args := #[s, x], argTypes := #[t, t] }) (d : Option Tmp) (hd : o.dst = d)
    (ht : P.underlying t = some (.slice e)) (hinfo : (P.info? e).map (fun i => (i.zero, i.size, i.bytes)) = some (some (.agg (sgA sgz)), 259, 272))
    (v : Value) (l : List Sg) (p : Sg) (hs : a.eval s = v) (hx : a.eval x = .slice (some ⟨W.heap.size, 0, none⟩) 1 1) (HO : SgRow e w0 W v l) (hl : l.length < 1000000)
    (h : ∀ v1 w1, SgRow e w0 w1 v1 (l ++ [p]) → wpList P ops Q rest (a.put d v1) w1) : wpList P ops Q (o :: rest) a (W.alloc (.cells (sgA p) e)) := by
  subst hd
  exact Kd.R_append kSg (w0 := w0) w0.heap.size hgd s x t e (.agg (sgA sgz)) 272 ho ht hinfo (sgA_len _) (by decide) (by decide) v l p (sgL p) (fun k => w0.heap.size ≤ k) (fun _ => False) hs hx rfl (fun _ hk => hk.elim) (fun k hk => Nat.le_trans (below_size HO.1) hk) HO.2 HO.1 (below_size HO.1) (by omega) (fun v1 w1 h1 h2 _ _ => h v1 w1 ⟨h2, h1⟩)
def SgsPost (T : Nat) (f : Tok → Sg) (o : Option (List Tok)) (w : World) (e : Ending) (w' : World) : Prop := Below w.heap.size w w' ∧
  match o with
  | some l => ∃ v, e = .returned (.tuple #[v, .bool true]) ∧ SgRow T w w' v (l.map f)
  | none => e = .returned (.tuple #[.slice none 0 0, .bool false])
theorem SgsPost.none {T : Nat} {f : Tok → Sg} {o : Option (List Tok)} {w w' : World} (hb : Below w.heap.size w w') (ho : o = .none) : SgsPost T f o w (.returned (.tuple #[.slice Option.none 0 0, .bool false])) w' := by
  subst ho
  exact ⟨hb, rfl⟩
theorem SgsPost.some {T : Nat} {f : Tok → Sg} {o : Option (List Tok)} {w w' : World} {v : Value} {l : List Tok} (hb : SgRow T w w' v (l.map f)) (ho : o = .some l) : SgsPost T f o w (.returned (.tuple #[v, .bool true])) w' := by
  subst ho
  exact ⟨hb.1, v, rfl, hb⟩
/-- The state of the loop over a pattern. -/
def PInv (a0 : ByteArray) (i : Nat) (l : List Tok) : Prop := i ≤ a0.size ∧ l.length ≤ i ∧ ∃ n, (dropL a0 i).length < n ∧ (parse n (dropL a0 i)).map (l ++ ·) = parse (a0.size + 1) (gL a0)
theorem PInv.start (a0 : ByteArray) : PInv a0 0 [] := ⟨Nat.zero_le _, Nat.le_refl _, a0.size + 1, by rw [dropL_len]; omega, by simp [dropL]⟩
section
variable {a0 : ByteArray} {i : Nat} {l : List Tok}
theorem PInv.eq (h : PInv a0 i l) (hk : i < a0.size) : ∃ n, a0.size - i ≤ n ∧ (parse (n + 1) (bt a0 (i : Int) :: dropL a0 (i + 1))).map (l ++ ·) = parse (a0.size + 1) (gL a0) := by
  obtain ⟨h1, h2, n, hn, he⟩ := h
  rw [dropL_len] at hn
  cases n with
  | zero => omega
  | succ n =>
    rw [gl_drop a0 i hk] at he
    exact ⟨n, by omega, he⟩
theorem parse_eq (n : Nat) (c : Int) (r : List Int) : parse (n + 1) (c :: r) =
    if c = 42 then (parse n (sk r)).map ((if (sk r).length < r.length then Tok.star2 else Tok.star) :: ·)
    else if c = 63 then (parse n r).map (Tok.one :: ·)
    else if c = 91 then (match cls0 r with | none => none | some tr => (parse n tr.2).map (tr.1 :: ·))
    else if c = 92 then (match r with | [] => none | d :: r' => (parse n r').map (Tok.lit d :: ·))
    else (parse n r).map (Tok.lit c :: ·) := rfl
theorem map_snoc (o : Option (List Tok)) (l : List Tok) (t : Tok) : (o.map (t :: ·)).map (l ++ ·) = o.map ((l ++ [t]) ++ ·) := by
  cases o with
  | none => rfl
  | some q => simp
theorem PInv.done (h : PInv a0 i l) (hk : ¬ i < a0.size) : parse (a0.size + 1) (gL a0) = some l := by
  obtain ⟨h1, h2, n, hn, he⟩ := h
  cases n with
  | zero => omega
  | succ n =>
    rw [gl_end a0 i (by omega)] at he
    rw [← he]
    simp [parse]
theorem PInv.star (h : PInv a0 i l) (hk : i < a0.size) (hc : bt a0 (i : Int) = 42) {j : Nat} (hj : sk (dropL a0 (i + 1)) = dropL a0 j) (hij : i + 1 ≤ j) (hle : j ≤ a0.size) : PInv a0 j (l ++ [if i + 1 < j then Tok.star2 else Tok.star]) := by
  obtain ⟨n, hn, he⟩ := h.eq hk
  rw [parse_eq, if_pos hc, hj, map_snoc] at he
  have e : (if (dropL a0 j).length < (dropL a0 (i + 1)).length then Tok.star2 else Tok.star) = (if i + 1 < j then Tok.star2 else Tok.star) := by
    rw [dropL_len, dropL_len]
    by_cases hl : i + 1 < j
    · rw [if_pos hl, if_pos (by omega)]
    · rw [if_neg hl, if_neg (by omega)]
  rw [e] at he
  refine ⟨hle, ?_, n, by rw [dropL_len]; omega, he⟩
  have := h.2.1
  simp
  omega
theorem PInv.one (h : PInv a0 i l) (hk : i < a0.size) (hc : bt a0 (i : Int) = 63) : PInv a0 (i + 1) (l ++ [Tok.one]) := by
  obtain ⟨n, hn, he⟩ := h.eq hk
  rw [parse_eq, hc, if_neg (by decide), if_pos rfl, map_snoc] at he
  refine ⟨hk, by have := h.2.1; simp; omega, n, by rw [dropL_len]; omega, he⟩
theorem PInv.cls (h : PInv a0 i l) (hk : i < a0.size) (hc : bt a0 (i : Int) = 91) {t : Tok} {j : Nat} (h0 : cls0 (dropL a0 (i + 1)) = some (t, dropL a0 j)) (hle : j ≤ a0.size) : i < j ∧ PInv a0 j (l ++ [t]) := by
  obtain ⟨n, hn, he⟩ := h.eq hk
  rw [parse_eq, hc, if_neg (by decide), if_neg (by decide), if_pos rfl, h0] at he
  dsimp only at he
  rw [map_snoc] at he
  have h3 := cls0_len h0
  rw [dropL_len, dropL_len] at h3
  exact ⟨by omega, hle, by have := h.2.1; simp; omega, n, by rw [dropL_len]; omega, he⟩
theorem PInv.nocls (h : PInv a0 i l) (hk : i < a0.size) (hc : bt a0 (i : Int) = 91) (h0 : cls0 (dropL a0 (i + 1)) = none) : parse (a0.size + 1) (gL a0) = none := by
  obtain ⟨n, hn, he⟩ := h.eq hk
  rw [parse_eq, hc, if_neg (by decide), if_neg (by decide), if_pos rfl, h0] at he
  exact he.symm
theorem PInv.esc (h : PInv a0 i l) (hk : i < a0.size) (hc : bt a0 (i : Int) = 92) (hk2 : i + 1 < a0.size) : PInv a0 (i + 2) (l ++ [Tok.lit (bt a0 ((i : Int) + 1))]) := by
  obtain ⟨n, hn, he⟩ := h.eq hk
  rw [parse_eq, hc, if_neg (by decide), if_neg (by decide), if_neg (by decide), if_pos rfl, gl_drop a0 (i + 1) hk2] at he
  dsimp only at he
  rw [map_snoc] at he
  exact ⟨hk2, by have := h.2.1; simp; omega, n, by rw [dropL_len]; omega, he⟩
theorem PInv.noesc (h : PInv a0 i l) (hk : i < a0.size) (hc : bt a0 (i : Int) = 92) (hk2 : ¬ i + 1 < a0.size) : parse (a0.size + 1) (gL a0) = none := by
  obtain ⟨n, hn, he⟩ := h.eq hk
  rw [parse_eq, hc, if_neg (by decide), if_neg (by decide), if_neg (by decide), if_pos rfl, gl_end a0 (i + 1) (by omega)] at he
  exact he.symm
theorem PInv.lit (h : PInv a0 i l) (hk : i < a0.size) (h1 : bt a0 (i : Int) ≠ 42) (h2 : bt a0 (i : Int) ≠ 63) (h3 : bt a0 (i : Int) ≠ 91) (h4 : bt a0 (i : Int) ≠ 92) : PInv a0 (i + 1) (l ++ [Tok.lit (bt a0 (i : Int))]) := by
  obtain ⟨n, hn, he⟩ := h.eq hk
  rw [parse_eq, if_neg h1, if_neg h2, if_neg h3, if_neg h4, map_snoc] at he
  exact ⟨hk, by have := h.2.1; simp; omega, n, by rw [dropL_len]; omega, he⟩
theorem PInv.short (h : PInv a0 i l) (hs : a0.size < 1000000) (f : Tok → Sg) : (l.map f).length < 1000000 := by
  have := h.1
  have := h.2.1
  rw [List.length_map]
  omega
end
theorem sk_hit (a0 : ByteArray) (j : Nat) (h : j < a0.size) (hc : bt a0 (j : Int) = 42) : sk (dropL a0 j) = sk (dropL a0 (j + 1)) := by
  rw [gl_drop a0 j h]
  conv => lhs; unfold sk
  rw [if_pos hc]
theorem sk_stop (a0 : ByteArray) (j : Nat) (h : ¬ (j < a0.size ∧ bt a0 (j : Int) = 42)) : sk (dropL a0 j) = dropL a0 j := by
  by_cases h0 : j < a0.size
  · rw [gl_drop a0 j h0]
    unfold sk
    rw [if_neg (fun hc => h ⟨h0, hc⟩)]
  · rw [gl_end a0 j (by omega)]
    rfl
end Go.Proofs.Ytiigjnccoeadlaa.PA
