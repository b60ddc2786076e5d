/- GlobEscapes: for any texts the law returns true and leaves its arguments as they were. No condition. -/
import Derived.Test.YtiigjnccoeadlaaPAx0
import Derived.Test.YtiigjnccoeadlaaXGlobSpec
import Derived.Test.YtiigjnccoeadlaaXHeadBase
import Derived.Test.YtiigjnccoeadlaaXMatchPure
import Derived.Test.YtiigjnccoeadlaaXRMatchW
import Derived.Test.YtiigjnccoeadlaaPAfremoralaw14awake
import Derived.Test.YtiigjnccoeadlaaXglobCheck
import Derived.Test.YtiigjnccoeadlaaXglobMatch
import Derived.Test.YtiigjnccoeadlaaXremoraref14Check
import Derived.ProofKit
import Derived.Test.YtiigjnccoeadlaaRows
import Derived.WalkKit
import Derived.Below
import Derived.Carry
import Derived.ChangeOld
import Derived.OpenShut
import Derived.ShutString
import Derived.SizedLaws
import Derived.Test.YtiigjnccoeadlaaPAfremoralaw14GlobEscapes
import Derived.Test.YtiigjnccoeadlaaXGlobPure
import Derived.Test.YtiigjnccoeadlaaXglobEscape
import Derived.Test.YtiigjnccoeadlaaXremoraref14Head
import Derived.Test.YtiigjnccoeadlaaXremoraref14Plain
/-! ### YtiigjnccoeadlaaXremoraref14Match -/
namespace Go.Proofs.Ytiigjnccoeadlaa.PA
open Go.RowKit Go.Proofs.YtiigjnccoeadlaaW.PrintWords Go.Proofs.YtiigjnccoeadlaaW.PrintLast Go.Proofs.YtiigjnccoeadlaaW.PrintMore
attribute [local go_sem] max2_int min2_int max_two min_two max_three min_three max_four min_four
set_option linter.unusedVariables false
set_option linter.unusedSimpArgs false
def remoraref14_Match.f (a0 a1 : ByteArray) : Option Bool := if a0.size < 1000000 ∧ a1.size < 1000000 then some (mO (patO a0) a1) else none
theorem remoraref14_Match.calls (a0 a1 : ByteArray) (r : Bool) (w : World) (h : remoraref14_Match.f a0 a1 = some r) : Calls Try.prog 14 #[.string a0, .string a1] w fun e w' => e = .returned (.bool r) ∧ Below w.heap.size w w' := by
  unfold remoraref14_Match.f at h
  split at h
  · rename_i hs
    obtain rfl := Option.some.inj h
    refine (rmatch_call a0 a1 hs.1 hs.2 w).mono ?_
    rintro e w' ⟨rfl, hb⟩
    refine ⟨?_, hb⟩
    unfold mO patO
    cases (if a0.size ≤ 100 then parse (a0.size + 1) (gL a0) else none) with
    | none => rfl
    | some l =>
      dsimp only
      rw [rowR_mL]
  · cases h
end Go.Proofs.Ytiigjnccoeadlaa.PA
/-! ### YtiigjnccoeadlaaXAwake14 -/
namespace Go.Proofs.Ytiigjnccoeadlaa.PA
open Go.RowKit Go.Proofs.YtiigjnccoeadlaaW.PrintWords Go.Proofs.YtiigjnccoeadlaaW.PrintLast Go.Proofs.YtiigjnccoeadlaaW.PrintMore
attribute [local go_sem] max2_int min2_int max_two min_two max_three min_three max_four min_four
set_option linter.unusedVariables false
set_option linter.unusedSimpArgs false
theorem awake14 : remoralaw14_awake.f = some true := by kernel_rfl
theorem chk_f (s : ByteArray) (h : s.size < 1000000) : glob_Check.f s = some (chkO s) := by rw [glob_Check.f, if_pos h]
theorem rchk_f (s : ByteArray) (h : s.size < 1000000) : remoraref14_Check.f s = some (chkO s) := by rw [remoraref14_Check.f, if_pos h]
theorem mat_f (p s : ByteArray) (h : p.size < 1000000) (h2 : s.size < 1000000) : glob_Match.f p s = some (mO (patO p) s) := by rw [glob_Match.f, if_pos ⟨h, h2⟩]
theorem rmat_f (p s : ByteArray) (h : p.size < 1000000) (h2 : s.size < 1000000) : remoraref14_Match.f p s = some (mO (patO p) s) := by rw [remoraref14_Match.f, if_pos ⟨h, h2⟩]
end Go.Proofs.Ytiigjnccoeadlaa.PA
/-! ### YtiigjnccoeadlaaXOpn -/
namespace Go.Proofs.Ytiigjnccoeadlaa.PA
open Go.RowKit Go.Proofs.YtiigjnccoeadlaaW.PrintWords Go.Proofs.YtiigjnccoeadlaaW.PrintLast Go.Proofs.YtiigjnccoeadlaaW.PrintMore
attribute [local go_sem] max2_int min2_int max_two min_two max_three min_three max_four min_four
set_option linter.unusedVariables false
set_option linter.unusedSimpArgs false
theorem bulk_pos {H : Type} : ∀ d : DataW H, 1 ≤ Rows.uptoBulk d
  | .lit (.string b) => by simp [Rows.uptoBulk]
  | .lit (.int _ _) => by simp [Rows.uptoBulk]
  | .lit (.bool _) => by simp [Rows.uptoBulk]
  | .lit (.float _ _) => by simp [Rows.uptoBulk]
  | .lit .nil => by simp [Rows.uptoBulk]
  | .nil => by simp [Rows.uptoBulk]
  | .ptr d => by simp [Rows.uptoBulk]
  | .slice _ _ => by simp [Rows.uptoBulk]
  | .agg _ => by simp [Rows.uptoBulk]
  | .iface _ _ => by simp [Rows.uptoBulk]
  | .map _ => by simp [Rows.uptoBulk]
  | .held _ => by simp [Rows.uptoBulk]
theorem bulk_len {H : Type} : ∀ l : List (DataW H), l.length ≤ Rows.uptoBulkAll l
  | [] => by simp [Rows.uptoBulkAll]
  | d :: r => by
    have h1 := bulk_pos d
    have h2 := bulk_len r
    simp only [List.length_cons, Rows.uptoBulkAll]
    omega
theorem bulk_mem {H : Type} : ∀ (l : List (DataW H)) (d : DataW H), d ∈ l → Rows.uptoBulk d ≤ Rows.uptoBulkAll l
  | [], d, h => by simp at h
  | e :: r, d, h => by
    simp only [Rows.uptoBulkAll]
    rcases List.mem_cons.1 h with rfl | h
    · omega
    · have := bulk_mem r d h
      omega
/-- A reading at type t opens into a value of kind d, which is as wf says (of the reading's bulk). -/
structure Opn {α : Type} (P : Program) (t : TypeId) (d : Kd α) (wf : Nat → α → Prop) : Prop where
  sz : d.sz = P.cellsOf t
  mono : ∀ n m a, n ≤ m → wf n a → wf m a
  op : ∀ {H : Type} (enc : TypeId × Value → H) (w : World) (base : Nat) (spare : Nat → Bool) (held : Bool) (fuel : Nat) (cs : List Value) (x : DataW H × List MemPlace), DataW.trod enc P w base spare held fuel t cs = some x → ∃ a, d.K w a cs ∧ wf (Rows.uptoBulk x.1) a
section
variable {P : Program} {t : TypeId}
theorem opn_int {k : IntKind} (ht : P.underlying t = some (.int k)) (hs : P.cellsOf t = 1) : Opn P t (Kd.int k) (fun _ a => (Lit.int k a).wf = true) where
  sz := hs.symm
  mono := fun _ _ _ _ h => h
  op := fun enc w base spare held fuel cs x h => by
    obtain ⟨n, rfl, rfl, hw⟩ := DataW.trod_int ht h
    exact ⟨n, rfl, hw⟩
theorem opn_bool (ht : P.underlying t = some .bool) (hs : P.cellsOf t = 1) : Opn P t Kd.bool (fun _ _ => True) where
  sz := hs.symm
  mono := fun _ _ _ _ h => h
  op := fun enc w base spare held fuel cs x h => by
    obtain ⟨n, rfl, rfl⟩ := DataW.trod_bool ht h
    exact ⟨n, rfl, trivial⟩
theorem opn_string (ht : P.underlying t = some .string) (hs : P.cellsOf t = 1) : Opn P t Kd.string (fun n s => s.size < n ∧ s.size ≤ maxLen) where
  sz := hs.symm
  mono := fun _ _ _ h h' => ⟨Nat.lt_of_lt_of_le h'.1 h, h'.2⟩
  op := fun enc w base spare held fuel cs x h => by
    obtain ⟨s, rfl, rfl, hw⟩ := DataW.trod_string ht h
    refine ⟨s, rfl, ?_, hw⟩
    simp [Rows.uptoBulk]
theorem cells_get {w : World} {base : Nat} {a : Addr} {n : Nat} {cs : List Value} (h : w.cells? base a n = some cs) : cs.length = n ∧ ∀ i u, cs[i]? = some u → w.cell? (a.add i) = some u := by
  unfold World.cells? at h
  split at h
  · refine ⟨by simpa using mapM_some_length h, fun i u hu => ?_⟩
    have hl := mapM_some_length h
    have hi : i < cs.length := (List.getElem?_eq_some_iff.1 hu).1
    have := mapM_some_get h i i (by rw [List.getElem?_range]; simp at hl; omega)
    rw [this, hu]
  · cases h
theorem add_add (a : Addr) (i j : Nat) : (a.add i).add j = a.add (i + j) := by
  unfold Addr.add
  by_cases hi : i = 0 <;> by_cases hj : j = 0 <;> simp [hi, hj, Nat.add_assoc]
theorem opn_slice {α : Type} {e : TypeId} {d : Kd α} {wf : Nat → α → Prop} (ht : P.underlying t = some (.slice e)) (hs : P.cellsOf t = 1) (O : Opn P e d wf) :
    Opn P t (Kd.slice e d) (fun n xs => xs.length < n ∧ ∀ a ∈ xs, wf n a) where
  sz := hs.symm
  mono := fun n m a h h' => ⟨Nat.lt_of_lt_of_le h'.1 h, fun x hx => O.mono n m x h (h'.2 x hx)⟩
  op := fun enc w base spare held fuel cs x h => by
    rcases DataW.trod_slice ht h with ⟨rfl, rfl⟩ | ⟨a, len, cap, elems, rest, n, _, rfl, rfl, hb, hl, hm, hlen, hel, hsp, hns⟩
    · exact ⟨[], ⟨none, 0, rfl, Nat.le_refl _, Kd.C_nil _ _⟩, by simp [Rows.uptoBulk], by simp⟩
    · have each : ∀ i, i < len → ∃ y, elems[i]? = some y ∧ ∃ cs', w.cells? base (a.add (i * P.cellsOf e)) (P.cellsOf e) = some cs' ∧ ∃ v, d.K w v cs' ∧ wf (Rows.uptoBulk y.1) v := by
        intro i hi
        have h1 := hel i hi
        have h2 : elems[i]? = some (elems[i]'(by omega)) := List.getElem?_eq_getElem (by omega)
        rw [h2, Option.bind_eq_some_iff] at h1
        obtain ⟨cs', hc, ht'⟩ := h1
        obtain ⟨v, hv, hw⟩ := O.op enc w base spare held n cs' _ ht'
        exact ⟨_, h2, cs', hc, v, hv, hw⟩
      have ex : ∀ m, m ≤ len → ∃ xs : List α, xs.length = m ∧ ∀ i v, xs[i]? = some v → ∃ y, elems[i]? = some y ∧ ∃ cs', w.cells? base (a.add (i * P.cellsOf e)) (P.cellsOf e) = some cs' ∧ d.K w v cs' ∧ wf (Rows.uptoBulk y.1) v := by
        intro m
        induction m with
        | zero => exact fun _ => ⟨[], rfl, by simp⟩
        | succ m ih =>
          intro hm'
          obtain ⟨xs, hx, hg⟩ := ih (by omega)
          obtain ⟨y, hy, cs', hc, v, hv, hw⟩ := each m (by omega)
          refine ⟨xs ++ [v], by simp [hx], fun i u hu => ?_⟩
          by_cases hi : i < xs.length
          · rw [List.getElem?_append_left hi] at hu
            exact hg i u hu
          · rw [List.getElem?_append_right (by omega)] at hu
            have hi' : i = m := by
              have := (List.getElem?_eq_some_iff.1 hu).1
              simp at this
              omega
            subst hi'
            rw [hx, Nat.sub_self] at hu
            have : v = u := by simpa using hu
            subst this
            exact ⟨y, hy, cs', hc, hv, hw⟩
      obtain ⟨xs, hx, hg⟩ := ex len (Nat.le_refl _)
      have htot : Rows.uptoBulkAll (elems.map (·.1)) + 1 ≤ Rows.uptoBulk (DataW.slice (elems.map (·.1)) (rest.map (·.1))) := by
        simp only [Rows.uptoBulk]
        omega
      refine ⟨xs, ⟨some a, cap, by rw [hx], by omega, ⟨rfl, by unfold maxLen at hm; omega, fun _ => ⟨a, rfl, fun j p hp => ?_⟩⟩⟩, ?_, ?_⟩
      · obtain ⟨y, hy, cs', hc, hk, hw⟩ := hg j p hp
        obtain ⟨g1, g2⟩ := cells_get hc
        refine ⟨cs', by rw [g1, O.sz], hk, fun i u hu => ?_⟩
        have := g2 i u hu
        rw [add_add] at this
        rw [O.sz]
        exact this
      · have h1 := bulk_len (elems.map (·.1))
        simp only [List.length_map, hlen] at h1
        rw [hx]
        exact Nat.lt_of_lt_of_le (Nat.lt_succ_of_le h1) htot
      · intro v hv
        obtain ⟨i, hi⟩ := List.getElem?_of_mem hv
        obtain ⟨y, hy, _, _, _, hw⟩ := hg i v hi
        refine O.mono _ _ _ ?_ hw
        have hmem : y.1 ∈ elems.map (·.1) := List.mem_map_of_mem (List.mem_of_getElem? hy)
        exact Nat.le_trans (bulk_mem _ _ hmem) (Nat.le_of_succ_le htot)
/-- The fields fs of a struct, from cell o on, open into a value of kind d. -/
def OpnF {α : Type} (P : Program) (fs : List Field) (o : Nat) (d : Kd α) (wf : Nat → α → Prop) : Prop :=
  (∀ n m a, n ≤ m → wf n a → wf m a) ∧
  ∀ {H : Type} (enc : TypeId × Value → H) (w : World) (base : Nat) (spare : Nat → Bool) (held : Bool) (fuel : Nat) (cs : List Value) (ys : List (DataW H × List MemPlace)) (N : Nat),
    (∀ (i : Nat) (f : Field), fs[i]? = some f → ∃ y, ys[i]? = some y ∧ Rows.uptoBulk y.1 ≤ N ∧ DataW.trod enc P w base spare held fuel f.type ((cs.drop f.offset).take (P.cellsOf f.type)) = some y) →
    ∃ a, d.K w a ((cs.drop o).take d.sz) ∧ wf N a
theorem opnF_one {α : Type} {d : Kd α} {wf : Nat → α → Prop} {f : Field} {o : Nat} (ho : f.offset = o) (O : Opn P f.type d wf) : OpnF P [f] o d wf := by
  refine ⟨O.mono, fun enc w base spare held fuel cs ys N h => ?_⟩
  obtain ⟨y, hy, hN, ht⟩ := h 0 f rfl
  obtain ⟨a, ha, hw⟩ := O.op enc w base spare held fuel _ y ht
  refine ⟨a, ?_, O.mono _ _ _ hN hw⟩
  rw [O.sz, ← ho]
  exact ha
theorem opnF_cons {α β : Type} {d : Kd α} {d' : Kd β} {wf : Nat → α → Prop} {wf' : Nat → β → Prop} {f : Field} {fs : List Field} {o o' : Nat} (ho : f.offset = o) (O : Opn P f.type d wf) (he : o' = o + d.sz) (F : OpnF P fs o' d' wf') :
    OpnF P (f :: fs) o (Kd.pair d d') (fun n x => wf n x.1 ∧ wf' n x.2) := by
  refine ⟨fun n m a h h' => ⟨O.mono _ _ _ h h'.1, F.1 _ _ _ h h'.2⟩, fun enc w base spare held fuel cs ys N h => ?_⟩
  obtain ⟨y, hy, hN, ht⟩ := h 0 f rfl
  obtain ⟨a, ha, hw⟩ := O.op enc w base spare held fuel _ y ht
  obtain ⟨b, hb, hw'⟩ := F.2 enc w base spare held fuel cs (ys.drop 1) N (fun i g hg => by
    obtain ⟨z, hz, h1, h2⟩ := h (i + 1) g (by simpa using hg)
    refine ⟨z, ?_, h1, h2⟩
    rw [List.getElem?_drop, Nat.add_comm]
    exact hz)
  refine ⟨(a, b), ⟨(cs.drop o).take d.sz, (cs.drop o').take d'.sz, ?_, ?_, hb⟩, O.mono _ _ _ hN hw, hw'⟩
  · show (cs.drop o).take (d.sz + d'.sz) = _
    rw [List.take_add, List.drop_drop, he]
  · rw [O.sz, ← ho]
    exact ha
theorem opn_struct {α β : Type} {fs : Array Field} {d : Kd α} {wf : Nat → α → Prop} (f : β → α) (g : α → β) (hfg : ∀ a, f (g a) = a) (ht : P.underlying t = some (.struct fs)) (F : OpnF P fs.toList 0 d wf) (hs : d.sz = P.cellsOf t) :
    Opn P t (Kd.iso d f) (fun n x => wf n (f x)) where
  sz := hs
  mono := fun n m a h h' => F.1 n m (f a) h h'
  op := fun enc w base spare held fuel cs x h => by
    obtain ⟨xs, n, rfl, rfl, hl, hlen, hf⟩ := DataW.trod_struct ht h
    obtain ⟨a, ha, hw⟩ := F.2 enc w base spare held n cs xs (Rows.uptoBulk (DataW.agg (xs.map (·.1)))) (fun i q hq => by
      have h1 := hf i q (by simpa using hq)
      have hi : i < xs.length := by
        have := (List.getElem?_eq_some_iff.1 hq).1
        simp at this
        omega
      rw [List.getElem?_eq_getElem hi] at h1
      refine ⟨_, List.getElem?_eq_getElem hi, ?_, h1⟩
      have hmem : (xs[i]).1 ∈ xs.map (·.1) := List.mem_map_of_mem (List.getElem_mem hi)
      have := bulk_mem _ _ hmem
      simp only [Rows.uptoBulk]
      omega)
    refine ⟨g a, ?_, by rw [hfg]; exact hw⟩
    show d.K w (f (g a)) cs
    rw [hfg]
    rw [List.drop_zero, hs, ← hl, List.take_length] at ha
    exact ha
end
end Go.Proofs.Ytiigjnccoeadlaa.PA
/-! ### YtiigjnccoeadlaaXGlobEscapesLaw -/
namespace Go.Proofs.Ytiigjnccoeadlaa.PA
open Go.RowKit Go.Proofs.YtiigjnccoeadlaaW.PrintWords Go.Proofs.YtiigjnccoeadlaaW.PrintLast Go.Proofs.YtiigjnccoeadlaaW.PrintMore
attribute [local go_sem] max2_int min2_int max_two min_two max_three min_three max_four min_four
set_option linter.unusedVariables false
set_option linter.unusedSimpArgs false
theorem escapes_j0 (s t : ByteArray) (b : Bool) (hb : b = false → s.size ≤ 400 ∧ t.size ≤ 400) : remoralaw14_GlobEscapes.j0 5 s t b = some true := by
  rw [remoralaw14_GlobEscapes.j0, awake14]
  cases b with
  | true => rfl
  | false =>
    obtain ⟨hs, ht⟩ := hb rfl
    have hl := escS_len s
    have hp : (escS s).size < 1000000 := by omega
    rw [if_neg (by decide), glob_Escape.f, if_pos (by omega), Option.bind_some]
    by_cases h : ((escS s).size : Int) > 100
    · have hc : chkO (escS s) = 7 := by unfold chkO; rw [if_pos (by omega)]
      have hn : patO (escS s) = none := by unfold patO; rw [if_neg (by omega)]
      rw [if_pos h, chk_f _ hp, Option.bind_some, hc, if_pos rfl, mat_f _ _ hp (by omega), Option.bind_some, hn]
      rfl
    · have hpat := escS_pat s (by omega)
      have hpar : parse ((escS s).size + 1) (gL (escS s)) = some ((gL s).map Tok.lit) := by
        have := hpat
        unfold patO at this
        rwa [if_pos (by omega)] at this
      have hc : chkO (escS s) = 0 := by unfold chkO; rw [if_neg (by omega), hpar]; rfl
      obtain ⟨e1, e2⟩ := hdL_esc (gL s)
      have hpl : plS (patO (escS s)) = (s, true) := by rw [hpat, plS_some, if_pos e2, e1, nums_gL]
      have hok : (plS (patO (escS s))).2 = true := by rw [hpl]
      obtain ⟨g1, g2⟩ := mO_plain hok
      rw [hpl] at g1
      have g1 : s = hdS (patO (escS s)) := g1
      rw [← g1] at g2
      rw [if_neg h, plain_f14 _ hp, Option.bind_some, hpl, chk_f _ hp, Option.bind_some, hc, if_pos rfl, if_pos rfl, if_pos rfl, mat_f _ _ hp (by omega), Option.bind_some, g2 s, if_pos (beq_self_eq_true _), mat_f _ _ hp (by omega), Option.bind_some, g2 t]
      rw [show (t.toList == s.toList) = (s.toList == t.toList) from by rw [Bool.eq_iff_iff, beq_iff_eq, beq_iff_eq]; exact eq_comm, beq_self_eq_true]
      rfl
theorem globEscapes_f (a0 a1 : ByteArray) : remoralaw14_GlobEscapes.f 5 a0 a1 = some true := by
  unfold remoralaw14_GlobEscapes.f
  by_cases h : (a0.size : Int) > 400
  · rw [if_pos h]
    exact escapes_j0 a0 a1 true (fun h => by cases h)
  · rw [if_neg h]
    refine escapes_j0 a0 a1 _ (fun h2 => ?_)
    have h2 := of_decide_eq_false h2
    omega
theorem globEscapes_law (a0 : ByteArray) (hw : ∃ n, a0.size < n ∧ a0.size ≤ maxLen) (a1 : ByteArray) (hw1 : ∃ n, a1.size < n ∧ a1.size ≤ maxLen) (w : World) :
    Calls Try.prog 7 #[.string a0, .string a1] w fun e w' => e = .returned (.bool true) ∧ Below w.heap.size w w' :=
  remoralaw14_GlobEscapes.calls 5 a0 a1 true w (globEscapes_f a0 a1)
end Go.Proofs.Ytiigjnccoeadlaa.PA
namespace Go.Proofs.Ytiigjnccoeadlaa.globEscapesRow
open Go.ChangeShapes Go.WideShapes Go.ChangeAt Go.RowKit Go.Proofs.Ytiigjnccoeadlaa.PA Go.Proofs.YtiigjnccoeadlaaW.PrintWords Go.Proofs.YtiigjnccoeadlaaW.PrintLast Go.Proofs.YtiigjnccoeadlaaW.PrintMore
open Go.ChangeMaps (open_string shut_string)
theorem own : ownKnob Try.prog.godebug = none := by kernel_rfl
theorem laidOut : laidOutB Try.prog = true := by kernel_rfl
set_option maxHeartbeats 1000000 in
set_option maxRecDepth 100000 in
theorem lifted (os : Os) (started : os.Started) (H : Type) (enc : TypeId × Value → H) :
    ReturnsInHanded {} Try.checked os 7 .any (Rows.globEscapesSpec.pre6 enc Try.prog Try.f7 Rows.globEscapesRow.domain false) (Rows.globEscapesSpec.post enc Try.prog Try.f7 false true false false) := by
  refine returnsInHanded_of_change_sized (C := Try.checked) own started (by kernel_rfl) Try.func7
    (ChangeSpec.witness6 (enc := enc) (C := Try.checked) false ⟨#[], #[.string ByteArray.empty, .string ByteArray.empty], []⟩ 8 (by kernel_rfl) (by kernel_rfl) (by kernel_rfl) (by kernel_rfl)) ?_
  intro W base args ds gs before hval0 hW hcnd hsz0 _
  have hval : ∀ (j : Nat) t v, Try.f7.params[j]? = some t → args[j]? = some v → Value.okWide Try.prog W .any base t v := hval0
  have hW' := hW
  obtain ⟨p, q, hA0, hV, rfl, hfz, hnd⟩ := hW
  have hA : DataW.TrodAll enc Try.prog W 0 (fun _ => true) true Try.f7.params.toList args.toList ds p := hA0
  rw [Try.params7] at hA hval
  obtain ⟨v0, vs0, d0, ds0, p0, q0, hargs, rfl, rfl, h0, r0⟩ := trodAll_cons hA
  obtain ⟨v1, vs1, d1, ds1, p1, q1, rfl, rfl, rfl, h1, r1⟩ := trodAll_cons r0
  obtain ⟨rfl, rfl, rfl⟩ := trodAll_nil r1
  obtain rfl : args = #[v0, v1] := by cases args; simp_all
  obtain ⟨rfl, rfl⟩ := trodVars_none hV
  obtain ⟨y0, rfl⟩ := okWide_string Try.underlying9 (hval 0 9 v0 rfl rfl)
  have k0 := h0
  have lt0 : ∀ x ∈ p0, x.block < W.heap.size := by obtain ⟨m, hm⟩ := k0; exact DataW.trod_lt m _ _ _ hm
  obtain ⟨fu0, hf0⟩ := h0
  obtain ⟨x0, hk0, hw0⟩ := (show Opn Try.prog 9 Kd.string (fun n x => x.size < n ∧ x.size ≤ maxLen) from (opn_string Try.underlying9 (by kernel_rfl))).op enc W 0 _ true fu0 _ _ hf0
  have e0 := (List.cons.inj hk0).1
  injection e0 with e0
  have e0 := e0.symm
  subst e0
  obtain ⟨y1, rfl⟩ := okWide_string Try.underlying9 (hval 1 9 v1 rfl rfl)
  have k1 := h1
  have lt1 : ∀ x ∈ p1, x.block < W.heap.size := by obtain ⟨m, hm⟩ := k1; exact DataW.trod_lt m _ _ _ hm
  obtain ⟨fu1, hf1⟩ := h1
  obtain ⟨x1, hk1, hw1⟩ := (show Opn Try.prog 9 Kd.string (fun n x => x.size < n ∧ x.size ≤ maxLen) from (opn_string Try.underlying9 (by kernel_rfl))).op enc W 0 _ true fu1 _ _ hf1
  have e1 := (List.cons.inj hk1).1
  injection e1 with e1
  have e1 := e1.symm
  subst e1
  refine (globEscapes_law x0 ⟨Rows.uptoBulk d0, hw0⟩ x1 ⟨Rows.uptoBulk d1, hw1⟩ W).mono fun e W' ⟨he, bel⟩ => ?_
  subst he
  exact ⟨_, rfl, _, _, _, [], _, [], hW', trodAll_mk1 (shut_bool Try.underlying4 _), (trodAll_cons_mk (Below.trod laidOut (by kernel_rfl) (of_decide_eq_true (by kernel_rfl)) k0 bel lt0) (trodAll_cons_mk (Below.trod laidOut (by kernel_rfl) (of_decide_eq_true (by kernel_rfl)) k1 bel lt1) trodAll_mk0)), rfl, bel.frame _, fun h => by cases h⟩
theorem over : Rows.globEscapesRow.holds Try.pinned (OpenSpec.ofChange Rows.globEscapesSpec) :=
  OpenClaim.holds_of_wide 7 Try.f7 rfl rfl rfl rfl rfl rfl rfl ⟨rfl, rfl, rfl, rfl, rfl⟩ rfl rfl rfl rfl rfl (by kernel_rfl) Try.func7 (by kernel_rfl)
    (of_decide_eq_true (by kernel_rfl)) (by unfold Func.isWrapper; first | (rw [if_pos (by decide +kernel)]; kernel_rfl) | (rw [if_neg (by decide +kernel)]; exact ⟨rfl, rfl⟩))
    (fun os started H enc _ => lifted os started H enc)
theorem proved : Rows.GlobEscapesSaid := over
#print axioms proved
end Go.Proofs.Ytiigjnccoeadlaa.globEscapesRow
namespace Go.Proofs.Ytiigjnccoeadlaa
/-- The row, under a short name, for the claim. -/
theorem globEscapes_holds : Rows.GlobEscapesSaid := globEscapesRow.proved
end Go.Proofs.Ytiigjnccoeadlaa
namespace Go.Proofs.Ytiigjnccoeadlaa.PA
end Go.Proofs.Ytiigjnccoeadlaa.PA
