import Derived.Below
import Derived.Lib.ItoaNum
import Derived.Laws.CopyRow
import Derived.Laws.Entries
import Derived.Laws.Cells
import Derived.Laws.Slices
import Derived.Laws.CopyOwn
namespace Go.Proofs.YtkockkfmjmheeaaGreat.E
def tabs : List (Nat × Array Go.Value) := []
end Go.Proofs.YtkockkfmjmheeaaGreat.E

namespace Go.Proofs.YtkockkfmjmheeaaGreat.E
open Go Go.RowKit
set_option linter.unusedSimpArgs false
set_option linter.unusedVariables false
inductive V where
 | int (k : IntKind) (n : Int)
 | bool (b : Bool)
 | str (s : ByteArray)
 | nils
 | emp
 | dat (l : List (List V))
 | ref (o off len : Nat)
 | ptr (o i j : Nat)
 | nilp
 | elt (l : List V)
 | agg (l : List V)
 | tup (l : List V)
 | clo (f : Nat) (l : List V)
 | nilf
 | nili
 | ifc (t : Nat) (v : V)
 deriving Inhabited
def V.one : V → Bool
 | .agg _ | .tup _ => false
 | _ => true
def V.cells : V → List V
 | .agg l => l
 | v => [v]
structure Blk where
 b : Nat
 es : Nat
 n : Nat
abbrev Beta := Nat → Option Blk
abbrev Imm := Nat → Option (Array Value)
abbrev Beta.none : Beta := fun _ => Option.none
def bm : Nat := 2 ^ 20
inductive Rel (I : Imm) : Beta → Value → V → Prop
 | int {β k n} : Rel I β (.int k n) (.int k n)
 | bool {β b} : Rel I β (.bool b) (.bool b)
 | str {β s} : Rel I β (.string s) (.str s)
 | nils {β} : Rel I β (.slice .none 0 0) .nils
 | emp {β} {a : Addr} {cap : Nat} : Rel I β (.slice (some a) 0 cap) .emp
 | datn {β} : Rel I β (.slice .none 0 0) (.dat [])
 | dat0 {β a cap} : Rel I β (.slice (some a) 0 cap) (.dat [])
 | dat {β l b off cap es arr} (c : Nat → Nat → Value) (hb : I b = some arr) (hl : ∀ (i : Nat) (x : List V), l[i]? = some x → x.length = es) (hc : l.length ≤ cap)
    (h1 : ∀ (i : Nat) (x : List V) (j : Nat) (y : V), l[i]? = some x → x[j]? = some y → arr[off + i * es + j]? = some (c i j))
    (ho : ∀ (i : Nat) (x : List V) (j : Nat) (y : V), l[i]? = some x → x[j]? = some y → y.one = true)
    (h2 : ∀ (i : Nat) (x : List V) (j : Nat) (y : V), l[i]? = some x → x[j]? = some y → Rel I Beta.none (c i j) y) : Rel I β (.slice (some ⟨b, off, Option.none⟩) l.length cap) (.dat l)
 | ref {β o b es n off len cap} (hb : β o = some ⟨b, es, n⟩) (hc : len ≤ cap) (hn : (off + cap) * es ≤ n) : Rel I β (.slice (some ⟨b, off * es, Option.none⟩) len cap) (.ref o off len)
 | refz {β o x off} {a : Option Addr} (hb : β o = some x) : Rel I β (.slice a 0 0) (.ref o off 0)
 | ptr {β o b es n i j} (hb : β o = some ⟨b, es, n⟩) : Rel I β (.pointer (some ⟨b, i * es + j, Option.none⟩)) (.ptr o i j)
 | nilp {β} : Rel I β (.pointer Option.none) .nilp
 | elt {β l b off arr} (c : Nat → Value) (hb : I b = some arr) (h1 : ∀ (j : Nat) (y : V), l[j]? = some y → arr[off + j]? = some (c j))
    (ho : ∀ (j : Nat) (y : V), l[j]? = some y → y.one = true)
    (h2 : ∀ (j : Nat) (y : V), l[j]? = some y → Rel I Beta.none (c j) y) : Rel I β (.pointer (some ⟨b, off, Option.none⟩)) (.elt l)
 | agg {β l cs} (hs : cs.size = l.length) (ho : ∀ (i : Nat) (y : V), l[i]? = some y → y.one = true) (h : ∀ (i : Nat) (c : Value) (y : V), cs[i]? = some c → l[i]? = some y → Rel I β c y) : Rel I β (.agg cs) (.agg l)
 | tup {β l cs} (hs : cs.size = l.length) (h : ∀ (i : Nat) (c : Value) (y : V), cs[i]? = some c → l[i]? = some y → Rel I β c y) : Rel I β (.tuple cs) (.tup l)
 | clo {β f l cs} (hf : f < bm) (hs : cs.size = l.length) (h : ∀ (i : Nat) (c : Value) (y : V), cs[i]? = some c → l[i]? = some y → Rel I β c y) : Rel I β (.func (.func f) #[] cs) (.clo f l)
 | bnd {β f l fs} (hs : fs.size = l.length) (h : ∀ (i : Nat) (c : Value) (y : V), fs[i]? = some c → l[i]? = some y → Rel I β c y) : Rel I β (.func (.func f) fs #[]) (.clo (f + bm) l)
 | nilf {β} : Rel I β .nilFunc .nilf
 | nili {β} : Rel I β .nilIface .nili
 | ifc {β t c v} (h : Rel I β c v) : Rel I β (.iface t c) (.ifc t v)
theorem Rel.mono {I I' : Imm} {β β' : Beta} {c : Value} {v : V} (h : Rel I β c v) (hI : ∀ b arr, I b = some arr → I' b = some arr) (hβ : ∀ o x, β o = some x → β' o = some x) : Rel I' β' c v := by
 induction h generalizing β' with
 | int => exact .int
 | bool => exact .bool
 | str => exact .str
 | nils => exact .nils
 | emp => exact .emp
 | dat0 => exact .dat0
 | datn => exact .datn
 | dat c hb hl hc h1 ho h2 ih => exact .dat c (hI _ _ hb) hl hc h1 ho (fun i x j y hx hy => ih i x j y hx hy (fun _ _ h => h))
 | ref hb hc hn => exact .ref (hβ _ _ hb) hc hn
 | refz hb => exact .refz (hβ _ _ hb)
 | ptr hb => exact .ptr (hβ _ _ hb)
 | nilp => exact .nilp
 | elt c hb h1 ho h2 ih => exact .elt c (hI _ _ hb) h1 ho (fun j y hy => ih j y hy (fun _ _ h => h))
 | agg hs ho h ih => exact .agg hs ho (fun i c y hc hy => ih i c y hc hy hβ)
 | tup hs h ih => exact .tup hs (fun i c y hc hy => ih i c y hc hy hβ)
 | clo hf hs h ih => exact .clo hf hs (fun i c y hc hy => ih i c y hc hy hβ)
 | bnd hs h ih => exact .bnd hs (fun i c y hc hy => ih i c y hc hy hβ)
 | nilf => exact .nilf
 | nili => exact .nili
 | ifc h ih => exact .ifc (ih hβ)
theorem Rel.oneCell' {I : Imm} {β : Beta} {c : Value} {v : V} (h : Rel I β c v) (hv : v.one = true) : c.oneCell' = true := by
 cases h <;> first | rfl | (simp [V.one] at hv)
theorem Rel.cells_one {I : Imm} {β : Beta} {c : Value} {v : V} (h : Rel I β c v) (hv : v.one = true) : c.cells = #[c] ∧ v.cells = [v] := by
 cases h <;> first | exact ⟨rfl, rfl⟩ | (simp [V.one] at hv)
theorem Rel.cells {I : Imm} {β : Beta} {c : Value} {v : V} (h : Rel I β c v) (ht : ∀ l, v ≠ .tup l) : c.cells.size = v.cells.length ∧ (∀ (i : Nat) (y : V), v.cells[i]? = some y → y.one = true) ∧
 ∀ (i : Nat) (x : Value) (y : V), c.cells[i]? = some x → v.cells[i]? = some y → Rel I β x y := by
 by_cases h1 : v.one = true
 ·obtain ⟨e1, e2⟩ := h.cells_one h1
  rw [e1, e2]
  refine ⟨rfl, fun i y hy => ?_, fun i x y hx hy => ?_⟩
  ·cases i with
   | zero => simp at hy; subst hy; exact h1
   | succ i => simp at hy
  ·cases i with
   | zero => simp at hx hy; subst hx hy; exact h
   | succ i => simp at hy
 ·cases h with
  | agg hs ho h => exact ⟨hs, ho, h⟩
  | tup => exact (ht _ rfl).elim
  | _ => exact (h1 rfl).elim
inductive St where
 | own | fro | dead
 deriving DecidableEq
structure Ob where
 st : St
 es : Nat
 cells : List (List V)
abbrev Sto := List (Nat × Ob)
def look : Sto → Nat → Option Ob
 | [], _ => none
 | (k, x) :: r, o => if k = o then some x else look r o
def setOb (σ : Sto) (o : Nat) (x : Ob) : Sto := (o, x) :: σ.filter (·.1 != o)
def fresh : Sto → Nat
 | [] => 0
 | (k, _) :: r => max (k + 1) (fresh r)
theorem look_fresh : ∀ (σ : Sto) (o : Nat), fresh σ ≤ o → look σ o = none
 | [], _, _ => rfl
 | (k, x) :: r, o, h => by
   simp only [fresh] at h
   simp only [look]
   rw [if_neg (by omega)]
   exact look_fresh r o (by omega)
theorem look_filter (σ : Sto) (o p : Nat) : look (σ.filter (·.1 != o)) p = if p = o then none else look σ p := by
 induction σ with
 | nil => simp [look]
 | cons a r ih =>
   obtain ⟨k, x⟩ := a
   by_cases hk : k = o
   ·subst hk
    simp only [List.filter_cons, bne_self_eq_false, Bool.false_eq_true, if_false, ih, look]
    by_cases hp : p = k
    ·simp [hp]
    ·simp [hp, Ne.symm hp]
   ·have : (k != o) = true := by simp [hk]
    simp only [List.filter_cons, this, if_true, look, ih]
    by_cases hp : p = o
    ·subst hp; simp [hk]
    ·simp [hp]
@[simp] theorem look_setOb (σ : Sto) (o : Nat) (x : Ob) (p : Nat) : look (setOb σ o x) p = if p = o then some x else look σ p := by
  simp only [setOb, look, look_filter]
  by_cases h : p = o
  ·simp [h]
  ·simp [h, Ne.symm h]
structure ObRel (I : Imm) (β : Beta) (w : World) (k : Blk) (x : Ob) : Prop where
 mem : ∃ arr t fr, w.heap[k.b]? = some (.cells arr t fr) ∧ arr.size = k.n ∧ (x.st = .own → fr = (0, 0) ∧ I k.b = none) ∧ (x.st = .fro → I k.b = some arr) ∧
  ∀ (i : Nat) (r : List V) (j : Nat) (y : V), x.cells[i]? = some r → r[j]? = some y → ∃ c, arr[i * x.es + j]? = some c ∧ Rel I β c y
 len : ∀ (i : Nat) (r : List V), x.cells[i]? = some r → r.length = x.es
 size : x.cells.length * x.es ≤ k.n
 one : ∀ (i : Nat) (r : List V) (j : Nat) (y : V), x.cells[i]? = some r → r[j]? = some y → y.one = true
def TabI (I : Imm) : Prop := ∀ p ∈ tabs, I p.1 = some p.2
theorem TabI.mono {I I' : Imm} (h : TabI I) (k : ∀ b arr, I b = some arr → I' b = some arr) : TabI I' := fun p hp => k _ _ (h p hp)
structure Inv (w0 : World) (base : Nat) (I0 : Imm) (I : Imm) (β : Beta) (σ : Sto) (w : World) : Prop where
 below : Below base w0 w
 baseLe : base ≤ w.heap.size
 imm : ∀ b arr, I b = some arr → ∃ t fr, w.heap[b]? = some (.cells arr t fr)
 old : ∀ b, b < base → I b = I0 b
 tab : TabI I
 dom : ∀ o x, β o = some x → (look σ o).isSome = true
 ob : ∀ o x, look σ o = some x → ∃ k : Blk, β o = some k ∧ k.es = x.es ∧ base ≤ k.b ∧ (x.st ≠ .dead → ObRel I β w k x)
 inj : ∀ o o' x x' k k', look σ o = some x → look σ o' = some x' → x.st ≠ .dead → x'.st ≠ .dead → β o = some k → β o' = some k' → k.b = k'.b → o = o'
abbrev Sl := Nat → Option V
def Sl.empty : Sl := fun _ => none
def Sl.set (S : Sl) (d : Nat) (v : V) : Sl := fun i => if i = d then some v else S i
inductive Opd where
 | t (n : Nat)
 | c (v : V)
 deriving Inhabited
def ev (S : Sl) : Opd → Option V
 | .t n => S n
 | .c v => some v
def evs (S : Sl) : List Opd → Option (List V)
 | [] => some []
 | x :: r => match ev S x, evs S r with
   | some v, some l => some (v :: l)
   | _, _ => none
def takeAt (l : List V) (off : Nat) : Option Nat → Option V
 | none => l[off]?
 | some n => if off + n ≤ l.length then some (.agg ((l.drop off).take n)) else none
def splice (l : List V) (off : Nat) (x : List V) : List V := l.take off ++ x ++ l.drop (off + x.length)
inductive R2 where
 | fn (f : Nat)
 | dyn
 | bnd
 | cpy
 | mx
 | arr (n es : Nat)
 deriving Inhabited
inductive MOp where
 | mv (x : Opd)
 | pick (c a b : Opd)
 | box (x : Opd)
 | alloc (z : List V)
 | build (z : List V) (parts : List (Nat × Nat × Opd))
 | buildSl (es len : Nat) (z : List V) (parts : List (Nat × Opd))
 | ld (k : Option Nat) (a : Opd)
 | st (n : Nat) (a x : Opd)
 | stA (n : Nat) (a x : Opd) (oth : List Nat)
 | bin (op : BinOp) (x y : Opd)
 | binB (op : BinOp) (x y : Opd)
 | binS (op : BinOp) (x y : Opd)
 | binT (op : BinOp) (x y : Opd)
 | un (op : UnOp) (x : Opd)
 | cvt (k : IntKind) (x : Opd)
 | mkSl (es bytes : Nat) (z : List V) (l c : Opd)
 | slc (es : Nat) (x : Opd) (lo hi mx : Option Opd)
 | slcS (x : Opd) (lo hi : Option Opd)
 | fA (off : Nat) (x : Opd)
 | fld (off : Nat) (k : Option Nat) (x : Opd)
 | ixA (es : Nat) (x i : Opd)
 | ixArr (n es : Nat) (x i : Opd)
 | ix (n es : Nat) (k : Option Nat) (x i : Opd)
 | ixS (x i : Opd)
 | ext (x : Opd) (i : Nat)
 | lenS (x : Opd)
 | lenT (x : Opd)
 | app (es bytes : Nat) (s x : Opd)
 | min2 (x y : Opd)
 | capN (x : Opd)
 | appN (es bytes : Nat) (z : List V) (s x : Opd)
 | no
 | mkF (f : Nat) (l : List Opd)
 | mkI (t : Nat) (x : Opd)
 | call (f : Nat) (l : List Opd)
 | callF (f : Nat) (l : List Opd)
 | callXF (f : Nat) (l : List Opd)
 | callVF (x : Opd) (l : List Opd)
 | callV (x : Opd) (l : List Opd)
 | allocN (q : Nat) (z : List V)
 | buildSlN (q es len : Nat) (z : List V) (parts : List (Nat × Opd))
 | strB (x : Opd)
 | clr (es : Nat) (z : List V) (x : Opd)
 | rd2 (k : R2) (l : List Opd)
 | appA (es bytes : Nat) (s x : Opd) (oth : List Nat)
 | callVA (x : Opd) (l : List Opd) (oth : List Nat)
 | binF (op : BinOp) (x y : Opd)
 deriving Inhabited
def bytesL : List (List V) → Option (List Int)
 | [] => some []
 | [.int .u8 n] :: r => (bytesL r).map (n :: ·)
 | _ :: _ => none
def strOf (l : List Int) : ByteArray := l.foldl (fun r n => r.push (UInt8.ofNat n.toNat)) ByteArray.empty
def evBin (op : BinOp) : V → V → Option V
 | .int k a, .int k' b =>
   match op with
   | .shl => if 0 ≤ b then some (.int k (k.wrap (a * 2 ^ (min b.toNat k.bits)))) else none
   | .shr => if 0 ≤ b then some (.int k (a.fdiv (2 ^ (min b.toNat k.bits)))) else none
   | _ => if k = k' then
     match op with
     | .add => some (.int k (k.wrap (a + b)))
     | .sub => some (.int k (k.wrap (a - b)))
     | .mul => some (.int k (k.wrap (a * b)))
     | .quo => if b = 0 then none else some (.int k (k.wrap (a.tdiv b)))
     | .rem => if b = 0 then none else some (.int k (a.tmod b))
     | .and => some (.int k (bits .and k a b))
     | .or => some (.int k (bits .or k a b))
     | .xor => some (.int k (bits .xor k a b))
     | .eql => some (.bool (a == b))
     | .neq => some (.bool (a != b))
     | .lss => some (.bool (decide (a < b)))
     | .leq => some (.bool (decide (a ≤ b)))
     | .gtr => some (.bool (decide (a > b)))
     | .geq => some (.bool (decide (a ≥ b)))
     | _ => none
     else none
 | _, _ => none
def evBinB (op : BinOp) : V → V → Option V
 | .bool a, .bool b => match op with
   | .eql => some (.bool (a == b))
   | .neq => some (.bool (!(a == b)))
   | _ => none
 | _, _ => none
def isNil : V → Option Bool
 | .nils => some true
 | .emp => some false
 | .dat (_ :: _) => some false
 | .ref _ _ (_ + 1) => some false
 | _ => none
def evBinS (op : BinOp) (x : V) : V → Option V
 | .nils => match isNil x with
   | some t => match op with
     | .eql => some (.bool t)
     | .neq => some (.bool (!t))
     | _ => none
   | none => none
 | _ => none
def evBinF (op : BinOp) (x : V) : V → Option V
 | .nilf => match x with
   | .nilf => match op with
     | .eql => some (.bool true)
     | .neq => some (.bool false)
     | _ => none
   | .clo _ _ => match op with
     | .eql => some (.bool false)
     | .neq => some (.bool true)
     | _ => none
   | _ => none
 | _ => none
def evBinT (op : BinOp) : V → V → Option V
 | .str a, .str b => match op with
   | .add => if a.size + b.size ≤ 1099511627776 then some (.str (a ++ b)) else none
   | .eql => some (.bool (a.toList == b.toList))
   | .neq => some (.bool (!(a.toList == b.toList)))
   | .lss => some (.bool (Op.bytesLess a.toList b.toList))
   | .leq => some (.bool (Op.bytesLess a.toList b.toList || a.toList == b.toList))
   | .gtr => some (.bool (!(Op.bytesLess a.toList b.toList || a.toList == b.toList)))
   | .geq => some (.bool (!Op.bytesLess a.toList b.toList))
   | _ => none
 | _, _ => none
def evUn (op : UnOp) : V → Option V
 | .bool b => match op with | .not => some (.bool !b) | _ => none
 | .int k n => match op with | .neg => some (.int k (k.wrap (0 - n))) | _ => none
 | _ => none
def getOb (σ : Sto) (o : Nat) : Option Ob :=
 match look σ o with
 | some x => if x.st = .dead then none else some x
 | none => none
def elems (σ : Sto) (es : Nat) : V → Option (List (List V))
 | .nils => some []
 | .emp => some []
 | .dat l => if l.all (·.length == es) then some l else none
 | .ref o off len => match getOb σ o with
   | some x => if x.es = es ∧ off + len ≤ x.cells.length then some ((x.cells.drop off).take len) else none
   | none => none
 | _ => none
def fillV (S : Sl) : List V → List (Nat × Nat × Opd) → Option (List V)
 | z, [] => some z
 | z, (off, n, x) :: r => match ev S x with
   | some (.tup _) => none
   | some v => if v.cells.length = n ∧ off + n ≤ z.length then fillV S (splice z off v.cells) r else none
   | none => none
def fillS (S : Sl) (es : Nat) : List (List V) → List (Nat × Opd) → Option (List (List V))
 | z, [] => some z
 | z, (i, x) :: r => match ev S x with
   | some (.tup _) => none
   | some v => if v.cells.length = es ∧ i < z.length then fillS S es (z.set i v.cells) r else none
   | none => none
def bound (S : Sl) (x : Opd) (y : Nat) : Option Nat :=
 match ev S x with
 | some (.int _ n) => if 0 ≤ n ∧ n ≤ y then some n.toNat else none
 | _ => none
def boundHi (S : Sl) (y : Nat) : Option Opd → Option Nat
 | none => some y
 | some x => bound S x y
def boundLo (S : Sl) (y : Nat) : Option Opd → Option Nat
 | none => some 0
 | some x => bound S x y
def roomy : Nat := 1099511627776
def V.plain : V → Bool
 | .ref _ _ _ | .ptr _ _ _ | .agg _ | .tup _ | .clo _ _ | .ifc _ _ => false
 | _ => true
def V.off (o : Nat) : V → Bool
 | .ptr o' _ _ => o' != o
 | .agg l => l.all V.plain
 | .tup l => l.isEmpty
 | .ref _ _ _ | .clo _ _ | .ifc _ _ => false
 | _ => true
def offs (S : Sl) (oth : List Nat) (o : Nat) : Bool := oth.all fun s => match S s with | some u => u.off o | none => false
def offA (S : Sl) (oth : List Nat) : V → Bool
 | .ref o _ _ => offs S oth o
 | _ => true
def ldV (σ : Sto) (k : Option Nat) : V → Option (V × Sto)
 | .ptr o i j => match getOb σ o with
   | some x => match x.cells[i]? with
     | some r => (takeAt r j k).map (·, σ)
     | none => none
   | none => none
 | .elt l => (takeAt l 0 k).map (·, σ)
 | _ => none
def appV (σ : Sto) (es bytes : Nat) (xs : List (List V)) (s : V) : Option (V × Sto) :=
 match xs with
 | [] => match s with
   | .nils => some (.nils, σ)
   | .emp => some (.emp, σ)
   | .dat l => some (.dat l, σ)
   | .ref o off len => some (.ref o off len, σ)
   | _ => none
 | y :: r =>
   match s with
   | .nils => if (r.length + 1) * bytes ≤ roomy ∧ r.length + 1 ≤ roomy then some (.ref (fresh σ) 0 (r.length + 1), setOb σ (fresh σ) ⟨.own, es, y :: r⟩) else none
   | .ref o off len => match getOb σ o with
     | some ob => if ob.st = .own ∧ ob.es = es ∧ off = 0 ∧ len = ob.cells.length ∧ (len + (r.length + 1)) * bytes ≤ roomy ∧ len + (r.length + 1) ≤ roomy then
        some (.ref (fresh σ) 0 (len + (r.length + 1)), setOb (setOb σ o ⟨.dead, es, []⟩) (fresh σ) ⟨.own, es, ob.cells ++ y :: r⟩)
       else if ob.st = .own ∧ ob.es = es ∧ off = 0 ∧ len ≤ ob.cells.length ∧ (len + (r.length + 1)) * bytes ≤ roomy ∧ len + (r.length + 1) ≤ roomy then
        some (.ref (fresh σ) 0 (len + (r.length + 1)), setOb (setOb σ o ⟨.dead, es, []⟩) (fresh σ) ⟨.own, es, ob.cells.take len ++ y :: r⟩) else none
     | none => none
   | _ => none
def insD (q : Nat) (ob : Ob) : Sto → Sto
 | [] => [(q, ob)]
 | (o, x) :: r => if q < o then (o, x) :: insD q ob r else (q, ob) :: (o, x) :: r
def evOp (S : Sl) (σ : Sto) : MOp → Option (V × Sto)
 | .mv x => (ev S x).map (·, σ)
 | .pick c a b => match ev S c with
   | some (.bool t) => (if t then ev S a else ev S b).map (·, σ)
   | _ => none
 | .box x => match ev S x with
   | some (.tup _) => none
   | some v => some (.ptr (fresh σ) 0 0, setOb σ (fresh σ) ⟨.own, v.cells.length, [v.cells]⟩)
   | none => none
 | .alloc z => some (.ptr (fresh σ) 0 0, setOb σ (fresh σ) ⟨.own, z.length, [z]⟩)
 | .build z parts => (fillV S z parts).map fun l => (.agg l, σ)
 | .buildSl es len z parts => (fillS S es (List.replicate len z) parts).map fun l => (.ref (fresh σ) 0 len, setOb σ (fresh σ) ⟨.own, es, l⟩)
 | .ld k a => match ev S a with
   | some u => ldV σ k u
   | none => none
 | .st n a x => match ev S a, ev S x with
   | some (.ptr o i j), some v => match v, getOb σ o with
     | .tup _, _ => none
     | v, some ob => match ob.cells[i]? with
       | some r => if ob.st = .own ∧ v.cells.length = n ∧ j + n ≤ r.length then some (.tup [], setOb σ o { ob with cells := ob.cells.set i (splice r j v.cells) }) else none
       | none => none
     | _, none => none
   | _, _ => none
 | .stA n a x oth => match ev S a, ev S x with
   | some (.ptr o i j), some v => match v, getOb σ o with
     | .tup _, _ => none
     | v, some ob => match ob.cells[i]? with
       | some r => if (ob.st = .own ∧ v.cells.length = n ∧ j + n ≤ r.length) ∧ offs S oth o = true then some (.tup [], setOb σ o { ob with cells := ob.cells.set i (splice r j v.cells) }) else none
       | none => none
     | _, none => none
   | _, _ => none
 | .bin op x y => match ev S x, ev S y with
   | some a, some b => (evBin op a b).map (·, σ)
   | _, _ => none
 | .binB op x y => match ev S x, ev S y with
   | some a, some b => (evBinB op a b).map (·, σ)
   | _, _ => none
 | .binS op x y => match ev S x, ev S y with
   | some a, some b => (evBinS op a b).map (·, σ)
   | _, _ => none
 | .binF op x y => match ev S x, ev S y with
   | some a, some b => (evBinF op a b).map (·, σ)
   | _, _ => none
 | .binT op x y => match ev S x, ev S y with
   | some a, some b => (evBinT op a b).map (·, σ)
   | _, _ => none
 | .un op x => match ev S x with
   | some a => (evUn op a).map (·, σ)
   | none => none
 | .cvt k x => match ev S x with
   | some (.int _ n) => some (.int k (k.wrap n), σ)
   | _ => none
 | .mkSl es bytes z l c => match ev S l, ev S c with
   | some (.int _ l), some (.int _ c) => if 0 ≤ l ∧ l ≤ c ∧ c * bytes ≤ roomy ∧ c ≤ roomy then some (.ref (fresh σ) 0 l.toNat, setOb σ (fresh σ) ⟨.own, es, List.replicate l.toNat z⟩) else none
   | _, _ => none
 | .slc es x lo hi mx => match mx with
   | some m => match ev S x, lo, hi, ev S m with
     | some (.dat _), none, some (.c (.int _ 0)), some (.int _ 0) => some (.dat [], σ)
     | some .emp, none, some (.c (.int _ 0)), some (.int _ 0) => some (.emp, σ)
     | some .nils, none, some (.c (.int _ 0)), some (.int _ 0) => some (.nils, σ)
     | _, _, _, _ => none
   | none => match ev S x with
     | some .nils => match boundHi S 0 hi with
       | some h => (boundLo S h lo).map fun _ => (.nils, σ)
       | none => none
     | some (.dat v) => match boundHi S v.length hi with
       | some h => (boundLo S h lo).bind fun l => if v.all (·.length == es) then some (.dat ((v.take h).drop l), σ) else none
       | none => none
     | some (.ref o off len) => match boundHi S len hi with
       | some h => (boundLo S h lo).bind fun l => match look σ o with
         | some ob => if ob.es = es then some (.ref o (off + l) (h - l), σ) else none
         | none => none
       | none => none
     | _ => none
 | .slcS x lo hi => match ev S x with
   | some (.str s) => match boundHi S s.size hi with
     | some h => (boundLo S h lo).map fun l => (.str (s.extract l h), σ)
     | none => none
   | _ => none
 | .fA off x => match ev S x with
   | some (.ptr o i j) => some (.ptr o i (j + off), σ)
   | some (.elt l) => some (.elt (l.drop off), σ)
   | _ => none
 | .fld off k x => match ev S x with
   | some (.agg l) => (takeAt l off k).map (·, σ)
   | _ => none
 | .ixA es x i => match ev S x, ev S i with
   | some (.dat l), some (.int _ n) => if 0 ≤ n then match l[n.toNat]? with
      | some r => if r.length = es then some (.elt r, σ) else none
      | none => none
     else none
   | some (.ref o off len), some (.int _ n) => if 0 ≤ n ∧ n < len then match look σ o with
      | some ob => if ob.es = es then some (.ptr o (off + n.toNat) 0, σ) else none
      | none => none
     else none
   | _, _ => none
 | .ixArr n es x i => match ev S x, ev S i with
   | some (.ptr o i j), some (.int _ k) => if 0 ≤ k ∧ k < n then some (.ptr o i (j + k.toNat * es), σ) else none
   | some (.elt l), some (.int _ k) => if 0 ≤ k ∧ k < n then some (.elt (l.drop (k.toNat * es)), σ) else none
   | _, _ => none
 | .ix n es k x i => match ev S x, ev S i with
   | some (.agg l), some (.int _ q) => if 0 ≤ q ∧ q < n then (takeAt l (q.toNat * es) k).map (·, σ) else none
   | _, _ => none
 | .ixS x i => match ev S x, ev S i with
   | some (.str s), some (.int _ q) => if 0 ≤ q then (s[q.toNat]?).map fun b => (.int .u8 b.toNat, σ) else none
   | _, _ => none
 | .ext x i => match ev S x with
   | some (.tup l) => (l[i]?).map (·, σ)
   | _ => none
 | .lenS x => match ev S x with
   | some .nils => some (.int .i64 0, σ)
   | some .emp => some (.int .i64 0, σ)
   | some (.dat l) => some (.int .i64 l.length, σ)
   | some (.ref _ _ len) => some (.int .i64 len, σ)
   | _ => none
 | .lenT x => match ev S x with
   | some (.str s) => some (.int .i64 s.size, σ)
   | _ => none
 | .app es bytes s x => match ev S s, ev S x with
   | some s, some x => match elems σ es x with
     | some xs => appV σ es bytes xs s
     | none => none
   | _, _ => none
 | .min2 x y => match ev S x, ev S y with
   | some (.int k a), some (.int _ b) => some (.int k (if b < a then b else a), σ)
   | _, _ => none
 | .capN x => match ev S x with
   | some .nils => some (.int .i64 0, σ)
   | _ => none
 | .appN es bytes z s x => match ev S s, ev S x with
   | some .nils, some (.int _ n) => if 0 < n ∧ n * bytes ≤ roomy ∧ n ≤ roomy then some (.ref (fresh σ) 0 n.toNat, setOb σ (fresh σ) ⟨.own, es, List.replicate n.toNat z⟩) else none
   | _, _ => none
 | .no => none
 | .mkF f l => (evs S l).map fun l => (.clo f l, σ)
 | .mkI t x => match ev S x with
   | some (.tup _) => none
   | some v => some (.ifc t v, σ)
   | none => none
 | .call _ _ => none
 | .callF _ _ => none
 | .callXF _ _ => none
 | .callVF _ _ => none
 | .callVA _ _ _ => none
 | .callV _ _ => none
 | .allocN q z => match look σ q with
   | none => some (.ptr q 0 0, insD q ⟨.own, z.length, [z]⟩ σ)
   | some _ => none
 | .buildSlN q es len z parts => match look σ q with
   | none => (fillS S es (List.replicate len z) parts).map fun l => (.ref q 0 len, insD q ⟨.own, es, l⟩ σ)
   | some _ => none
 | .strB x => match ev S x with
   | some u => match elems σ 1 u with
     | some rows => (bytesL rows).map fun b => (.str (strOf b), σ)
     | none => none
   | none => none
 | .clr es z x => match ev S x with
   | some .nils => some (.tup [], σ)
   | some .emp => some (.tup [], σ)
   | some (.ref o off len) => if len = 0 then some (.tup [], σ) else match getOb σ o with
     | some ob => if ob.st = .own ∧ ob.es = es ∧ off + len ≤ ob.cells.length then some (.tup [], setOb σ o { ob with cells := ob.cells.take off ++ List.replicate len z ++ ob.cells.drop (off + len) }) else none
     | none => none
   | _ => none
 | .rd2 _ _ => none
 | .appA es bytes s x oth => match ev S s, ev S x with
   | some s, some x => match elems σ es x with
     | some xs => if offA S oth s = true then appV σ es bytes xs s else none
     | none => none
   | _, _ => none
def cV1 : Value → Option V
 | .int k n => some (.int k n)
 | .bool b => some (.bool b)
 | .string s => some (.str s)
 | .slice none 0 0 => some .nils
 | .pointer none => some .nilp
 | .nilFunc => some .nilf
 | .nilIface => some .nili
 | .func (.func f) ⟨[]⟩ ⟨[]⟩ => if f < bm then some (.clo f []) else none
 | _ => none
def cV1s : List Value → Option (List V)
 | [] => some []
 | c :: r => match cV1 c, cV1s r with
   | some v, some l => some (v :: l)
   | _, _ => none
def cV : Value → Option V
 | .agg ⟨l⟩ => (cV1s l).map .agg
 | c => cV1 c
def cOpd : Operand → Option Opd
 | .tmp t => some (.t t)
 | .const v => (cV v).map .c
 | .func f => if f < bm then some (.c (.clo f [])) else none
 | .global _ => none
def cOpds : List Operand → Option (List Opd)
 | [] => some []
 | x :: r => match cOpd x, cOpds r with
   | some v, some l => some (v :: l)
   | _, _ => none
def cOpt : Option Operand → Option (Option Opd)
 | none => some none
 | some x => (cOpd x).map some
def cKind (P : Program) (t : TypeId) : Option (Option Nat) :=
 match P.underlying t, P.info? t with
 | some (.struct _), some i => some (some i.size)
 | some (.array _ _), some i => some (some i.size)
 | some _, some i => if i.size = 1 then some none else none
 | _, _ => none
def cSize (P : Program) (t : TypeId) : Option Nat := (P.info? t).map (·.size)
def cZero (P : Program) (t : TypeId) : Option (List V) :=
 match P.info? t with
 | some i => match i.zero with
   | some z => match cV1s z.cells.toList with
     | some l => if l.length = i.size then some l else none
     | none => none
   | none => none
 | none => none
def cParts (P : Program) (fs : List Field) : List (Nat × Operand) → Option (List (Nat × Nat × Opd))
 | [] => some []
 | (i, x) :: r => match fs[i]?, cOpd x, cParts P fs r with
   | some f, some v, some l => match cSize P f.type with
     | some n => some ((f.offset, n, v) :: l)
     | none => none
   | _, _, _ => none
def cPartsA (es : Nat) : List (Nat × Operand) → Option (List (Nat × Nat × Opd))
 | [] => some []
 | (i, x) :: r => match cOpd x, cPartsA es r with
   | some v, some l => some ((i * es, es, v) :: l)
   | _, _ => none
def cPartsS : List (Nat × Operand) → Option (List (Nat × Opd))
 | [] => some []
 | (i, x) :: r => match cOpd x, cPartsS r with
   | some v, some l => some ((i, v) :: l)
   | _, _ => none
def cOp (P : Program) (o : Op) : Option MOp :=
 match o with
 | .move x | .assign x => (cOpd x).map .mv
 | .pick c a b => match cOpd c, cOpd a, cOpd b with
   | some c, some a, some b => some (.pick c a b)
   | _, _, _ => none
 | .box _ x => (cOpd x).map .box
 | .alloc t => (cZero P t).map .alloc
 | .build t parts => match cZero P t with
   | some z => match P.underlying t with
     | some (.struct fs) => if (fs.toList.mapM fun f => (P.info? f.type).map fun i => (f.offset, i.size)).isSome then (cParts P fs.toList parts.toList).map (.build z) else none
     | some (.array _ e) => match cSize P e with
       | some es => (cPartsA es parts.toList).map (.build z)
       | none => none
     | _ => none
   | none => none
 | .buildSlice t len parts => match P.underlying t with
   | some (.slice e) => match cZero P e with
     | some z => if z.length = 0 ∨ len * z.length > 2 ^ 24 then none else (cPartsS parts.toList).map (.buildSl z.length len z)
     | none => none
   | _ => none
 | .load t a => match cKind P t, cOpd a with
   | some k, some a => some (.ld k a)
   | _, _ => none
 | .store t a x => match cSize P t, cOpd a, cOpd x with
   | some n, some a, some x => some (.st n a x)
   | _, _, _ => none
 | .binOp op t x y _ => match cOpd x, cOpd y with
   | some x, some y => match P.underlying t with
     | some (.int _) => some (.bin op x y)
     | some .bool => some (.binB op x y)
     | some (.slice _) => some (.binS op x y)
     | some .string => some (.binT op x y)
     | some (.func _ _ _) => some (.binF op x y)
     | _ => none
   | _, _ => none
 | .unOp op _ x => (cOpd x).map (.un op)
 | .convert src dst x => match P.underlying src, P.underlying dst with
   | some _, some (.int k) => (cOpd x).map (.cvt k)
   | some (.slice e), some .string => match P.underlying e with
     | some (.int .u8) => (cOpd x).map .strB
     | _ => none
   | _, _ => none
 | .makeSlice t l c => match P.underlying t with
   | some (.slice e) => match cZero P e, P.info? e, cOpd l, cOpd c with
     | some z, some i, some l, some c => if z.length = 0 then none else some (.mkSl z.length i.bytes z l c)
     | _, _, _, _ => none
   | _ => none
 | .slice t x lo hi mx => match P.underlying t with
   | some (.slice e) => match cSize P e, cOpd x, cOpt lo, cOpt hi, cOpt mx with
     | some es, some x, some lo, some hi, some mx => some (.slc es x lo hi mx)
     | _, _, _, _, _ => none
   | some .string => match cOpd x, cOpt lo, cOpt hi, mx with
     | some x, some lo, some hi, none => some (.slcS x lo hi)
     | _, _, _, _ => none
   | some (.array n e) => match cSize P e, cOpd x, lo, hi, mx with
     | some es, some x, none, none, none => some (.rd2 (.arr n es) [x])
     | _, _, _, _, _ => none
   | _ => none
 | .fieldAddr s x f => match P.underlying s with
   | some (.struct fs) => match fs[f]? with
     | some fd => match cSize P fd.type, cOpd x with
       | some n, some x => if n = 0 then none else some (.fA fd.offset x)
       | _, _ => none
     | none => none
   | _ => none
 | .field s x f => match P.underlying s with
   | some (.struct fs) => match fs[f]? with
     | some fd => match cKind P fd.type, cOpd x with
       | some k, some x => some (.fld fd.offset k x)
       | _, _ => none
     | none => none
   | _ => none
 | .indexAddr t x i => match P.underlying t with
   | some (.slice e) => match cSize P e, cOpd x, cOpd i with
     | some es, some x, some i => some (.ixA es x i)
     | _, _, _ => none
   | some (.array n e) => match cSize P e, cOpd x, cOpd i with
     | some es, some x, some i => some (.ixArr n es x i)
     | _, _, _ => none
   | _ => none
 | .index t x i => match P.underlying t with
   | some (.array n e) => match cSize P e, cKind P e, cOpd x, cOpd i with
     | some es, some k, some x, some i => some (.ix n es k x i)
     | _, _, _, _ => none
   | some .string => match cOpd x, cOpd i with
     | some x, some i => some (.ixS x i)
     | _, _ => none
   | _ => none
 | .extract x i => (cOpd x).map (.ext · i)
 | .makeFunc (.func f) first l => if first.size = 0 ∧ f < bm then (cOpds l.toList).map (.mkF f) else if l.size = 0 then (cOpds first.toList).map (.mkF (f + bm)) else none
 | .makeInterface t x => match P.underlying t with
   | some (.interface _) => none
   | some _ => (cOpd x).map (.mkI t)
   | none => none
 | .call c => match c.callee with
   | .builtin .len => match c.args.toList, c.argTypes.toList with
     | [x], [t] => match P.underlying t with
       | some (.slice _) => (cOpd x).map .lenS
       | some .string => (cOpd x).map .lenT
       | _ => none
     | _, _ => none
   | .builtin .cap => match c.args.toList, c.argTypes.toList with
     | [x], [t] => match P.underlying t with
       | some (.slice _) => (cOpd x).map .capN
       | _ => none
     | _, _ => none
   | .builtin .append => match c.args.toList, c.argTypes.toList with
     | [s, x], t :: u :: _ => match P.underlying t, P.underlying u with
       | some (.slice e), some (.slice _) => match cZero P e, P.info? e, cOpd s, cOpd x with
         | some z, some i, some s, some x => if z.length = 0 then none else some (.app z.length i.bytes s x)
         | _, _, _, _ => none
       | some (.slice e), some (.int _) => match cZero P e, P.info? e, cOpd s, cOpd x with
         | some z, some i, some s, some x => if z.length = 0 then none else some (.appN z.length i.bytes z s x)
         | _, _, _, _ => none
       | _, _ => none
     | _, _ => none
   | .builtin .min => match c.args.toList with
     | [x, y] => match cOpd x, cOpd y with
       | some x, some y => some (.min2 x y)
       | _, _ => none
     | _ => none
   | .builtin .clear => match c.args.toList, c.argTypes.toList with
     | [x], [t] => match P.underlying t with
       | some (.slice e) => match cZero P e, cOpd x with
         | some z, some x => if z.length = 0 then none else some (.clr z.length z x)
         | _, _ => none
       | _ => none
     | _, _ => none
   | .builtin .copy => match c.args.toList, c.argTypes.toList with
     | [d, s], t :: _ => match P.underlying t with
       | some (.slice e) => match cSize P e, cOpd d, cOpd s with
         | some _, some d, some s => some (.rd2 .cpy [d, s])
         | _, _, _ => none
       | _ => none
     | _, _ => none
   | .builtin .max => match c.args.toList with
     | [x, y] => match cOpd x, cOpd y with
       | some x, some y => some (.rd2 .mx [x, y])
       | _, _ => none
     | _ => none
   | .value (.func f) => match P.funcs[f]? with
     | some _ => (cOpds c.args.toList).map (.call f)
     | none => none
   | .value x => match cOpd x with
     | some x => (cOpds c.args.toList).map (.callV x)
     | none => none
   | _ => none
 | .panic _ => some .no
 | .nilCheck x => (cOpd x).map (.fA 0)
 | _ => none
structure MOper where
 dst : Option Nat
 op : MOp
 guard : Option (Nat × Bool)
 deriving Inhabited
def MOp.fnl (b : Nat) : MOp → MOp
 | .call f l => if b = 1 ∨ b = 4 then .callF f l else if b = 3 then .rd2 (.fn f) l else if b = f + 10 then .callXF f l else if b = f + 100010 then .callXF f l else if 10 ≤ b then .callF f l else .callXF f l
 | .callV x l => if b = 3 then .rd2 .dyn (x :: l) else if b = 4 then .rd2 .bnd (x :: l) else if 100010 ≤ b then .callVF x l else if 10 ≤ b then .rd2 .dyn (x :: l) else .callVF x l
 | m => m
def dstOk (n : Nat) : Option Nat → Bool
 | none => true
 | some d => decide (d < n)
def cOper (P : Program) (n : Nat) (b : Nat) (ops : Array Oper) (o : Oper) : Option MOper :=
 match cOp P o.op with
 | some m => if dstOk n o.dst then
    match o.guard with
    | none => some ⟨o.dst, if b = 0 then m else m.fnl b, none⟩
    | some (j, t) => match (ops[j]?).bind (·.dst) with
      | some d => some ⟨o.dst, if b = 0 then m else m.fnl b, some (d, t)⟩
      | none => none
    else none
 | none => none
end Go.Proofs.YtkockkfmjmheeaaGreat.E

namespace Go.Proofs.YtkockkfmjmheeaaGreat.E
open Go Go.RowKit
set_option linter.unusedSimpArgs false
set_option linter.unusedVariables false
def SRel (I : Imm) (β : Beta) (S : Sl) (a : Act) : Prop := ∀ j v, S j = some v → ∃ c, a.tmps[j]? = some c ∧ Rel I β c v
structure Ext (I : Imm) (β : Beta) (I' : Imm) (β' : Beta) : Prop where
 imm : ∀ b arr, I b = some arr → I' b = some arr
 beta : ∀ o x, β o = some x → β' o = some x
theorem Ext.refl (I : Imm) (β : Beta) : Ext I β I β := ⟨fun _ _ h => h, fun _ _ h => h⟩
theorem Ext.trans {I I' I'' : Imm} {β β' β'' : Beta} (h : Ext I β I' β') (k : Ext I' β' I'' β'') : Ext I β I'' β'' := ⟨fun _ _ x => k.imm _ _ (h.imm _ _ x), fun _ _ x => k.beta _ _ (h.beta _ _ x)⟩
theorem Rel.ext {I I' : Imm} {β β' : Beta} {c : Value} {v : V} (h : Rel I β c v) (e : Ext I β I' β') : Rel I' β' c v := h.mono e.imm e.beta
theorem SRel.ext {I I' : Imm} {β β' : Beta} {S : Sl} {a : Act} (h : SRel I β S a) (e : Ext I β I' β') : SRel I' β' S a := fun j v hj => let ⟨c, h1, h2⟩ := h j v hj; ⟨c, h1, h2.ext e⟩
def Good (w0 : World) (base : Nat) (I0 I : Imm) (β : Beta) (v : V) (σ' : Sto) (r : Result Next) : Prop :=
 ∃ nx w' I' β' rv, r = .ok nx w' ∧ (nx = .value rv ∨ (nx = .skip ∧ rv = undef)) ∧ Rel I' β' rv v ∧ Inv w0 base I0 I' β' σ' w' ∧ Ext I β I' β'
theorem Good.pure {w0 w : World} {base : Nat} {I0 I : Imm} {β : Beta} {v : V} {σ : Sto} {r : Result Next} {rv : Value} (hr : r = .ok (.value rv) w) (hv : Rel I β rv v) (hI : Inv w0 base I0 I β σ w) : Good w0 base I0 I β v σ r :=
 ⟨_, w, I, β, rv, hr, .inl rfl, hv, hI, Ext.refl _ _⟩
theorem cV1_rel (I : Imm) (β : Beta) {c : Value} {v : V} (h : cV1 c = some v) : Rel I β c v ∧ v.one = true := by
 unfold cV1 at h
 split at h
 case h_8 f =>
  split at h
  ·rename_i hf
   injection h with h; subst h
   exact ⟨.clo (cs := #[]) hf rfl (fun i c y hc _ => by simp at hc), rfl⟩
  ·simp at h
 all_goals (first | (injection h with h; subst h; exact ⟨by constructor, rfl⟩) | (simp at h))
theorem cV1s_rel (I : Imm) (β : Beta) : ∀ {l : List Value} {r : List V}, cV1s l = some r → l.length = r.length ∧ ∀ (i : Nat) (c : Value) (y : V), l[i]? = some c → r[i]? = some y → y.one = true ∧ Rel I β c y
 | [], r, h => by simp [cV1s] at h; subst h; simp
 | c :: l, r, h => by
   simp only [cV1s] at h
   split at h
   ·rename_i v r' h1 h2
    injection h with h; subst h
    obtain ⟨hl, hr⟩ := cV1s_rel I β h2
    refine ⟨by simp [hl], fun i c' y hc hy => ?_⟩
    cases i with
    | zero => simp at hc hy; subst hc hy; exact ⟨(cV1_rel I β h1).2, (cV1_rel I β h1).1⟩
    | succ i => simp at hc hy; exact hr i c' y hc hy
   ·simp at h
theorem cV_rel (I : Imm) (β : Beta) {c : Value} {v : V} (h : cV c = some v) : Rel I β c v := by
 unfold cV at h
 split at h
 ·rename_i l
  cases hl : cV1s l with
  | none => simp [hl] at h
  | some r =>
    simp [hl] at h; subst h
    obtain ⟨h1, h2⟩ := cV1s_rel I β hl
    exact .agg (by simpa using h1) (fun i y hy => by
     have hlt : i < l.length := by rw [h1]; exact (List.getElem?_eq_some_iff.1 hy).1
     exact (h2 i l[i] y (List.getElem?_eq_getElem hlt) hy).1) (fun i c y hc hy => (h2 i c y (by simpa using hc) hy).2)
 ·exact (cV1_rel I β h).1
variable {P : Program} {w0 : World} {base : Nat} {I0 I : Imm} {β : Beta} {S : Sl} {σ σ' : Sto} {w : World} {a : Act} {v : V}
theorem ev_sound {x : Operand} {y : Opd} (hc : cOpd x = some y) (hS : SRel I β S a) {v : V} (he : ev S y = some v) : Rel I β (a.eval x) v := by
 cases x with
 | tmp t =>
   simp [cOpd] at hc; subst hc
   obtain ⟨c, h1, h2⟩ := hS t v he
   have : a.eval (.tmp t) = c := by simp [Act.eval, Array.getD_eq_getD_getElem?, h1]
   rw [this]; exact h2
 | const c =>
   cases hv : cV c with
   | none => simp [cOpd, hv] at hc
   | some u =>
     simp [cOpd, hv] at hc; subst hc
     simp [ev] at he; subst he
     exact cV_rel I β hv
 | global g => simp [cOpd] at hc
 | func f =>
   simp only [cOpd] at hc
   split at hc
   ·rename_i hf
    injection hc with hc; subst hc
    simp [ev] at he; subst he
    exact .clo (cs := #[]) hf rfl (fun i c y hc _ => by simp at hc)
   ·simp at hc
theorem evs_sound (hS : SRel I β S a) : ∀ {xs : List Operand} {ys : List Opd} {vs : List V}, cOpds xs = some ys → evs S ys = some vs →
 (xs.map a.eval).length = vs.length ∧ ∀ (i : Nat) (c : Value) (y : V), (xs.map a.eval)[i]? = some c → vs[i]? = some y → Rel I β c y
 | [], ys, vs, h1, h2 => by
   simp [cOpds] at h1; subst h1
   simp [evs] at h2; subst h2
   simp
 | x :: xs, ys, vs, h1, h2 => by
   simp only [cOpds] at h1
   split at h1
   ·rename_i y ys' hy hys
    injection h1 with h1; subst h1
    simp only [evs] at h2
    split at h2
    ·rename_i u us hu hus
     injection h2 with h2; subst h2
     obtain ⟨hl, hr⟩ := evs_sound hS hys hus
     refine ⟨by simpa using hl, fun i c y hc hy => ?_⟩
     cases i with
     | zero => simp at hc hy; subst hc hy; exact ev_sound ‹_› hS hu
     | succ i => simp only [List.map_cons, List.getElem?_cons_succ] at hc hy; exact hr i c y hc hy
    ·simp at h2
   ·simp at h1
theorem opt_map_some {α γ : Type} {x : Option α} {f : α → γ} {y : γ} (h : x.map f = some y) : ∃ z, x = some z ∧ f z = y := by
 cases x with
 | none => simp at h
 | some z => exact ⟨z, rfl, by simpa using h⟩
theorem takeAt_sound {l : List V} {off : Nat} {k : Option Nat} {v : V} (h : takeAt l off k = some v) :
 (k = none ∧ l[off]? = some v) ∨ ∃ n, k = some n ∧ off + n ≤ l.length ∧ v = .agg ((l.drop off).take n) := by
 cases k with
 | none => exact .inl ⟨rfl, h⟩
 | some n =>
   simp only [takeAt] at h
   split at h
   ·injection h with h; exact .inr ⟨n, rfl, by assumption, h.symm⟩
   ·simp at h
theorem kind_isAgg {t : TypeId} {k : Option Nat} (h : cKind P t = some k) (w : World) :
 (k = none → (isAgg t).run P w = .ok false w) ∧ ∀ n, k = some n → (isAgg t).run P w = .ok true w ∧ (sizeOf t).run P w = .ok n w := by
 unfold cKind at h
 cases hu : P.underlying t with
 | none => simp [hu] at h
 | some d =>
   cases hi : P.info? t with
   | none => cases d <;> simp [hu, hi] at h
   | some i =>
     have hz : (sizeOf t).run P w = .ok i.size w := by simp [sizeOf, typeInfo, hi]
     refine ⟨fun hk => ?_, fun n hk => ?_⟩
     ·subst hk
      cases d <;> simp [hu, hi] at h <;> simp [isAgg, underlying, hu]
     ·subst hk
      cases d <;> simp [hu, hi] at h <;> (subst h; exact ⟨by simp [isAgg, underlying, hu], hz⟩)
theorem run_part {t : TypeId} {k : Option Nat} (h : cKind P t = some k) {cs : Array Value} {l : List V} {off : Nat} {v : V} (hv : takeAt l off k = some v) (hs : cs.size = l.length)
 (ho : ∀ (i : Nat) (y : V), l[i]? = some y → y.one = true) (hl : ∀ (i : Nat) (c : Value) (y : V), cs[i]? = some c → l[i]? = some y → Rel I β c y) (w : World) :
 ∃ rv, (part t cs off).run P w = .ok rv w ∧ Rel I β rv v := by
 obtain ⟨hk0, hk1⟩ := kind_isAgg h w
 rcases takeAt_sound hv with ⟨rfl, hg⟩ | ⟨n, rfl, hn, rfl⟩
 ·have hlt : off < cs.size := by rw [hs]; exact (List.getElem?_eq_some_iff.1 hg).1
  refine ⟨cs[off], ?_, hl off _ _ (Array.getElem?_eq_getElem hlt) hg⟩
  simp [part, hk0 rfl, Array.getElem?_eq_getElem hlt]
 ·obtain ⟨ha, hz⟩ := hk1 n rfl
  refine ⟨.agg (cs.extract off (off + n)), by simp [part, ha, hz], ?_⟩
  refine .agg (by simp; omega) (fun i y hy => ho (off + i) y ?_) (fun i c y hc hy => hl (off + i) c y ?_ ?_)
  ·rw [List.getElem?_take] at hy; split at hy <;> simp_all
  ·rw [Array.getElem?_extract] at hc; split at hc <;> simp_all
  ·rw [List.getElem?_take] at hy; split at hy <;> simp_all
theorem run_loadVar {t : TypeId} {k : Option Nat} (h : cKind P t = some k) {b off : Nat} {arr : Array Value} {ty : TypeId} {fr : Nat × Nat} {l : List V} {j : Nat} {v : V} (hv : takeAt l j k = some v)
 (hm : w.heap[b]? = some (.cells arr ty fr)) (ho : ∀ (i : Nat) (y : V), l[i]? = some y → y.one = true)
 (hl : ∀ (i : Nat) (y : V), l[i]? = some y → ∃ c, arr[off + i]? = some c ∧ Rel I β c y) :
 ∃ rv, (loadVar t ⟨b, off + j, none⟩).run P w = .ok rv w ∧ Rel I β rv v := by
 have hcell : ∀ i, w.cell? ⟨b, i, none⟩ = arr[i]? := fun i => by simp [World.cell?, hm]
 obtain ⟨hk0, hk1⟩ := kind_isAgg h w
 rcases takeAt_sound hv with ⟨rfl, hg⟩ | ⟨n, rfl, hn, rfl⟩
 ·obtain ⟨c, hc, hr⟩ := hl j v hg
  exact ⟨c, by simp [loadVar, hk0 rfl, load, Sem.run, hcell, hc], hr⟩
 ·obtain ⟨ha, hz⟩ := hk1 n rfl
  have hc : ∀ i, i < n → w.cell? (Addr.add ⟨b, off + j, none⟩ i) = some ((fun i => arr.getD (off + j + i) undef) i) := by
   intro i hi
   have hlt : j + i < l.length := by omega
   obtain ⟨c, hc, _⟩ := hl (j + i) _ (List.getElem?_eq_getElem hlt)
   have e : Addr.add ⟨b, off + j, none⟩ i = ⟨b, off + j + i, none⟩ := by unfold Addr.add; split <;> simp_all
   rw [e, hcell]
   rw [← Nat.add_assoc] at hc
   simp [Array.getD_eq_getD_getElem?, hc]
  refine ⟨_, by simp [loadVar, ha, hz, run_loadCells w _ n _ hc]; rfl, ?_⟩
  refine .agg (by simp; omega) (fun i y hy => ho (j + i) y ?_) (fun i c y hc hy => ?_)
  ·rw [List.getElem?_take] at hy; split at hy <;> simp_all
  ·have hy' : l[j + i]? = some y := by rw [List.getElem?_take] at hy; split at hy <;> simp_all
   obtain ⟨c', hc', hr⟩ := hl (j + i) y hy'
   have : c = c' := by
    simp only [List.getElem?_toArray, List.getElem?_map, List.getElem?_range] at hc
    rw [← Nat.add_assoc] at hc'
    have hi : i < n := by
     rcases Nat.lt_or_ge i n with h | h
     ·exact h
     ·rw [List.getElem?_take, if_neg (by omega)] at hy; simp at hy
    simp [List.getElem?_range, hi, Array.getD_eq_getD_getElem?, hc'] at hc
    exact hc.symm
   rw [this]; exact hr
end Go.Proofs.YtkockkfmjmheeaaGreat.E

namespace Go.Proofs.YtkockkfmjmheeaaGreat.E
open Go Go.RowKit
set_option linter.unusedSimpArgs false
set_option linter.unusedVariables false
variable {P : Program} {w0 : World} {base : Nat} {I0 I : Imm} {β : Beta} {S : Sl} {σ σ' : Sto} {w : World} {a : Act} {v : V}
theorem look_lt_fresh : ∀ {σ : Sto} {o : Nat} {x : Ob}, look σ o = some x → o < fresh σ
 | [], o, x, h => by simp [look] at h
 | (k, y) :: r, o, x, h => by
   simp only [look] at h
   simp only [fresh]
   by_cases hk : k = o
   ·omega
   ·rw [if_neg hk] at h
    have := look_lt_fresh h
    omega
theorem Inv.blk_lt (hI : Inv w0 base I0 I β σ w) {o : Nat} {x : Ob} (h : look σ o = some x) (hx : x.st ≠ .dead) : ∃ k, β o = some k ∧ k.b < w.heap.size := by
 obtain ⟨k, hk, _, _, hr⟩ := hI.ob o x h
 obtain ⟨arr, t, fr, hm, _⟩ := (hr hx).mem
 exact ⟨k, hk, (Array.getElem?_eq_some_iff.1 hm).1⟩
def Beta.put (β : Beta) (o : Nat) (k : Blk) : Beta := fun p => if p = o then some k else β p
theorem Inv.beta_none (hI : Inv w0 base I0 I β σ w) {o : Nat} (h : look σ o = none) : β o = none := by
 cases hb : β o with
 | none => rfl
 | some x => have := hI.dom o x hb; simp [h] at this
theorem Beta.put_ext {o : Nat} (h : β o = Option.none) (k : Blk) : ∀ p x, β p = some x → Beta.put β o k p = some x := by
 intro p x hp
 unfold Beta.put
 split
 ·subst_vars; simp [h] at hp
 ·exact hp
theorem ObRel.mono {I I' : Imm} {β β' : Beta} {w w' : World} {k : Blk} {x : Ob} (h : ObRel I β w k x) (hh : w'.heap[k.b]? = w.heap[k.b]?) (hI : ∀ b arr, I b = some arr → I' b = some arr) (hβ : ∀ o x, β o = some x → β' o = some x)
 (hn : I k.b = none → I' k.b = none) : ObRel I' β' w' k x := by
 obtain ⟨⟨arr, t, fr, hm, hs, ho, hf, hr⟩, hl, hz, h1⟩ := h
 refine ⟨⟨arr, t, fr, by rw [hh]; exact hm, hs, fun e => ⟨(ho e).1, hn (ho e).2⟩, fun e => hI _ _ (hf e), fun i r j y hi hj => ?_⟩, hl, hz, h1⟩
 obtain ⟨c, hc, hR⟩ := hr i r j y hi hj
 exact ⟨c, hc, hR.mono hI hβ⟩
theorem Inv.allocAt (hI : Inv w0 base I0 I β σ w) (q0 : Nat) (hq0 : look σ q0 = none) (arr : Array Value) (t : TypeId) (es : Nat) (cells : List (List V)) (hl : ∀ (i : Nat) (r : List V), cells[i]? = some r → r.length = es)
 (hz : cells.length * es ≤ arr.size) (h1 : ∀ (i : Nat) (r : List V) (j : Nat) (y : V), cells[i]? = some r → r[j]? = some y → y.one = true)
 (hr : ∀ (i : Nat) (r : List V) (j : Nat) (y : V), cells[i]? = some r → r[j]? = some y → ∃ c, arr[i * es + j]? = some c ∧ Rel I β c y) :
 Inv w0 base I0 I (Beta.put β q0 ⟨w.heap.size, es, arr.size⟩) (setOb σ q0 ⟨.own, es, cells⟩) (w.alloc (.cells arr t)) ∧
  Ext I β I (Beta.put β q0 ⟨w.heap.size, es, arr.size⟩) := by
 have hn : β q0 = none := hI.beta_none hq0
 have hext := Beta.put_ext hn ⟨w.heap.size, es, arr.size⟩
 have hIn : I w.heap.size = none := by
  cases h : I w.heap.size with
  | none => rfl
  | some x =>
    obtain ⟨_, _, h⟩ := hI.imm _ _ h
    simp at h
 have hold : ∀ k, k < w.heap.size → (w.alloc (.cells arr t)).heap[k]? = w.heap[k]? := fun k hk => Below.heap_alloc _ _ _ hk
 have hnew : (w.alloc (.cells arr t)).heap[w.heap.size]? = some (.cells arr t) := by show (w.heap.push _)[w.heap.size]? = _; simp
 refine ⟨⟨hI.below.alloc hI.baseLe _, by rw [World.size_alloc]; have := hI.baseLe; omega, fun b arr' hb => ?_, hI.old, hI.tab, fun o x ho => ?_, fun o x ho => ?_, fun o o' x x' k k' h h' hx hx' hk hk' e => ?_⟩, ⟨fun _ _ h => h, hext⟩⟩
 ·obtain ⟨t', fr, hm⟩ := hI.imm _ _ hb
  exact ⟨t', fr, by rw [hold _ (Array.getElem?_eq_some_iff.1 hm).1]; exact hm⟩
 ·rw [look_setOb]
  unfold Beta.put at ho
  split at ho
  ·subst_vars; simp
  ·rename_i hne; rw [if_neg hne]; exact hI.dom _ _ ho
 ·rw [look_setOb] at ho
  by_cases he : o = q0
  ·subst he
   rw [if_pos rfl] at ho
   injection ho with ho; subst ho
   refine ⟨⟨w.heap.size, es, arr.size⟩, by simp [Beta.put], rfl, hI.baseLe, fun _ => ⟨⟨arr, t, (0, 0), hnew, rfl, fun _ => ⟨rfl, hIn⟩, by simp, fun i r j y hi hj => ?_⟩, hl, hz, h1⟩⟩
   obtain ⟨c, hc, hR⟩ := hr i r j y hi hj
   exact ⟨c, hc, hR.mono (fun _ _ h => h) hext⟩
  ·rw [if_neg he] at ho
   obtain ⟨k, hk, hes, hb, hr'⟩ := hI.ob o x ho
   refine ⟨k, hext _ _ hk, hes, hb, fun hx => ?_⟩
   obtain ⟨k2, hk2, hlt⟩ := hI.blk_lt ho hx
   rw [hk] at hk2; injection hk2 with hk2; subst hk2
   exact (hr' hx).mono (hold _ hlt) (fun _ _ h => h) hext (fun h => h)
 ·rw [look_setOb] at h h'
  have aux : ∀ {o : Nat} {x : Ob} {k : Blk}, o ≠ q0 → look σ o = some x → x.st ≠ .dead → Beta.put β q0 ⟨w.heap.size, es, arr.size⟩ o = some k → β o = some k ∧ k.b < w.heap.size := by
   intro o x k hne ho hx hk
   have hk' : β o = some k := by simpa [Beta.put, hne] using hk
   obtain ⟨k2, hk2, hlt⟩ := hI.blk_lt ho hx
   rw [hk'] at hk2; injection hk2 with hk2; subst hk2
   exact ⟨hk', hlt⟩
  by_cases he : o = q0 <;> by_cases he' : o' = q0
  ·rw [he, he']
  ·subst he
   rw [if_neg he'] at h'
   obtain ⟨h2, hlt⟩ := aux he' h' hx' hk'
   simp [Beta.put] at hk; subst hk
   simp at e; omega
  ·subst he'
   rw [if_neg he] at h
   obtain ⟨h2, hlt⟩ := aux he h hx hk
   simp [Beta.put] at hk'; subst hk'
   simp at e; omega
  ·rw [if_neg he] at h
   rw [if_neg he'] at h'
   exact hI.inj o o' x x' k k' h h' hx hx' (aux he h hx hk).1 (aux he' h' hx' hk').1 e
theorem Inv.alloc (hI : Inv w0 base I0 I β σ w) (arr : Array Value) (t : TypeId) (es : Nat) (cells : List (List V)) (hl : ∀ (i : Nat) (r : List V), cells[i]? = some r → r.length = es)
 (hz : cells.length * es ≤ arr.size) (h1 : ∀ (i : Nat) (r : List V) (j : Nat) (y : V), cells[i]? = some r → r[j]? = some y → y.one = true)
 (hr : ∀ (i : Nat) (r : List V) (j : Nat) (y : V), cells[i]? = some r → r[j]? = some y → ∃ c, arr[i * es + j]? = some c ∧ Rel I β c y) :
 Inv w0 base I0 I (Beta.put β (fresh σ) ⟨w.heap.size, es, arr.size⟩) (setOb σ (fresh σ) ⟨.own, es, cells⟩) (w.alloc (.cells arr t)) ∧
  Ext I β I (Beta.put β (fresh σ) ⟨w.heap.size, es, arr.size⟩) := hI.allocAt (fresh σ) (look_fresh σ _ (Nat.le_refl _)) arr t es cells hl hz h1 hr
theorem Inv.write (hI : Inv w0 base I0 I β σ w) {o : Nat} {x : Ob} {k : Blk} {cur arr : Array Value} {t : TypeId} (ho : look σ o = some x) (hx : x.st = .own) (hk : β o = some k) (hm : w.heap[k.b]? = some (.cells cur t (0, 0)))
 (hs : arr.size = k.n) (cells : List (List V)) (hl : ∀ (i : Nat) (r : List V), cells[i]? = some r → r.length = x.es) (hz : cells.length * x.es ≤ k.n)
 (h1 : ∀ (i : Nat) (r : List V) (j : Nat) (y : V), cells[i]? = some r → r[j]? = some y → y.one = true)
 (hr : ∀ (i : Nat) (r : List V) (j : Nat) (y : V), cells[i]? = some r → r[j]? = some y → ∃ c, arr[i * x.es + j]? = some c ∧ Rel I β c y) :
 Inv w0 base I0 I β (setOb σ o { x with cells := cells }) (w.setRow k.b arr) := by
 obtain ⟨k2, hk2, hes, hb, hr'⟩ := hI.ob o x ho
 rw [hk] at hk2; injection hk2 with hk2; subst hk2
 have hd : x.st ≠ .dead := by simp [hx]
 obtain ⟨arr0, t0, fr0, hm0, hs0, ho0, _, _⟩ := (hr' hd).mem
 have hnone := (ho0 hx).2
 refine ⟨below_setRow hI.below hb _, by simpa using hI.baseLe, fun b arr' hb' => ?_, hI.old, hI.tab, fun p y hp => ?_, fun p y hp => ?_, fun p p' y y' q q' h h' hy hy' hq hq' e => ?_⟩
 ·obtain ⟨t', fr, hm'⟩ := hI.imm _ _ hb'
  refine ⟨t', fr, ?_⟩
  rw [setRow_other _ _ _ _ (fun e => by subst e; simp [hnone] at hb')]
  exact hm'
 ·rw [look_setOb]; split
  ·rfl
  ·exact hI.dom _ _ hp
 ·rw [look_setOb] at hp
  by_cases he : p = o
  ·subst he
   rw [if_pos rfl] at hp
   injection hp with hp; subst hp
   exact ⟨k, hk, hes, hb, fun _ => ⟨⟨arr, t, (0, 0), setRow_heap w k.b cur arr t (0, 0) hm, hs, fun _ => ⟨rfl, hnone⟩, by simp [hx], hr⟩, hl, hz, h1⟩⟩
  ·rw [if_neg he] at hp
   obtain ⟨q, hq, hes', hb', hr''⟩ := hI.ob p y hp
   refine ⟨q, hq, hes', hb', fun hy => ?_⟩
   have hne : q.b ≠ k.b := fun e => he (hI.inj p o y x q k hp ho hy hd hq hk e)
   exact (hr'' hy).mono (setRow_other _ _ _ _ hne) (fun _ _ h => h) (fun _ _ h => h) (fun h => h)
 ·rw [look_setOb] at h h'
  have aux : ∀ {p : Nat} {y : Ob}, (if p = o then some { x with cells := cells } else look σ p) = some y → y.st ≠ .dead → ∃ y0, look σ p = some y0 ∧ y0.st ≠ .dead := by
   intro p y hp hy
   by_cases he : p = o
   ·subst he; exact ⟨x, ho, hd⟩
   ·rw [if_neg he] at hp; exact ⟨y, hp, hy⟩
  obtain ⟨y0, h0, hy0⟩ := aux h hy
  obtain ⟨y0', h0', hy0'⟩ := aux h' hy'
  exact hI.inj p p' y0 y0' q q' h0 h0' hy0 hy0' hq hq' e
theorem Inv.kill (hI : Inv w0 base I0 I β σ w) {o : Nat} {x : Ob} (ho : look σ o = some x) : Inv w0 base I0 I β (setOb σ o ⟨.dead, x.es, []⟩) w := by
 refine ⟨hI.below, hI.baseLe, hI.imm, hI.old, hI.tab, fun p y hp => ?_, fun p y hp => ?_, fun p p' y y' q q' h h' hy hy' hq hq' e => ?_⟩
 ·rw [look_setOb]; split
  ·rfl
  ·exact hI.dom _ _ hp
 ·rw [look_setOb] at hp
  by_cases he : p = o
  ·subst he
   rw [if_pos rfl] at hp
   injection hp with hp; subst hp
   obtain ⟨k, hk, hes, hb, _⟩ := hI.ob p x ho
   exact ⟨k, hk, hes, hb, fun h => (h rfl).elim⟩
  ·rw [if_neg he] at hp
   exact hI.ob p y hp
 ·rw [look_setOb] at h h'
  have aux : ∀ {p : Nat} {y : Ob}, (if p = o then some (⟨St.dead, x.es, []⟩ : Ob) else look σ p) = some y → y.st ≠ .dead → look σ p = some y := by
   intro p y hp hy
   by_cases he : p = o
   ·subst he; rw [if_pos rfl] at hp; injection hp with hp; subst hp; exact (hy rfl).elim
   ·rw [if_neg he] at hp; exact hp
  exact hI.inj p p' y y' q q' (aux h hy) (aux h' hy') hy hy' hq hq' e
theorem Inv.congr (hI : Inv w0 base I0 I β σ w) {σ' : Sto} (h : ∀ o, look σ' o = look σ o) : Inv w0 base I0 I β σ' w :=
 ⟨hI.below, hI.baseLe, hI.imm, hI.old, hI.tab, fun o x hx => by rw [h]; exact hI.dom o x hx, fun o x hx => hI.ob o x (by rw [← h]; exact hx),
   fun o o' x x' k k' h1 h2 => hI.inj o o' x x' k k' (by rw [← h]; exact h1) (by rw [← h]; exact h2)⟩
theorem Inv.rename (hI : Inv w0 base I0 I β σ w) {o : Nat} {x : Ob} {k : Blk} (ho : look σ o = some x) (hx : x.st = .own) (hk : β o = some k) (n : Nat) (hn : look σ n = none) :
 Inv w0 base I0 I (Beta.put β n k) (setOb (setOb σ o ⟨.dead, x.es, []⟩) n x) w ∧ Ext I β I (Beta.put β n k) := by
 have hbn : β n = none := hI.beta_none hn
 have hext := Beta.put_ext hbn k
 have hon : o ≠ n := fun e => by subst e; simp [hn] at ho
 have hd : x.st ≠ .dead := by simp [hx]
 obtain ⟨k2, hk2, hes, hb, hr⟩ := hI.ob o x ho
 rw [hk] at hk2; injection hk2 with hk2; subst hk2
 refine ⟨⟨hI.below, hI.baseLe, hI.imm, hI.old, hI.tab, fun p y hp => ?_, fun p y hp => ?_, fun p p' y y' q q' h h' hy hy' hq hq' e => ?_⟩, ⟨fun _ _ h => h, hext⟩⟩
 ·simp only [look_setOb]
  unfold Beta.put at hp
  by_cases h1 : p = n
  ·simp [h1]
  ·rw [if_neg h1] at hp ⊢
   by_cases h2 : p = o
   ·simp [h2]
   ·rw [if_neg h2]; exact hI.dom _ _ hp
 ·simp only [look_setOb] at hp
  by_cases h1 : p = n
  ·rw [if_pos h1] at hp
   injection hp with hp; subst hp
   exact ⟨k, by simp [Beta.put, h1], hes, hb, fun h => (hr h).mono rfl (fun _ _ h => h) hext (fun h => h)⟩
  ·rw [if_neg h1] at hp
   by_cases h2 : p = o
   ·rw [if_pos h2] at hp
    injection hp with hp; subst hp
    exact ⟨k, by subst h2; exact hext _ _ hk, hes, hb, fun h => (h rfl).elim⟩
   ·rw [if_neg h2] at hp
    obtain ⟨q, hq, hes', hb', hr'⟩ := hI.ob p y hp
    exact ⟨q, hext _ _ hq, hes', hb', fun h => (hr' h).mono rfl (fun _ _ h => h) hext (fun h => h)⟩
 ·simp only [look_setOb] at h h'
  have aux : ∀ {p : Nat} {y : Ob} {q : Blk}, (if p = n then some x else if p = o then some (⟨St.dead, x.es, []⟩ : Ob) else look σ p) = some y → y.st ≠ .dead → Beta.put β n k p = some q →
   ∃ p0 y0, look σ p0 = some y0 ∧ y0.st ≠ .dead ∧ β p0 = some q ∧ (p = if p0 = o then n else p0) := by
   intro p y q hp hy hq
   by_cases h1 : p = n
   ·refine ⟨o, x, ho, hd, ?_, by simp [h1]⟩
    simp [Beta.put, h1] at hq; rw [← hq]; exact hk
   ·rw [if_neg h1] at hp
    by_cases h2 : p = o
    ·rw [if_pos h2] at hp; injection hp with hp; subst hp; exact (hy rfl).elim
    ·rw [if_neg h2] at hp
     refine ⟨p, y, hp, hy, by simpa [Beta.put, h1] using hq, by simp [h2]⟩
  obtain ⟨p0, y0, a1, a2, a3, a4⟩ := aux h hy hq
  obtain ⟨p1, y1, b1, b2, b3, b4⟩ := aux h' hy' hq'
  have := hI.inj p0 p1 y0 y1 q q' a1 b1 a2 b2 a3 b3 e
  rw [a4, b4, this]
theorem Inv.drew (hI : Inv w0 base I0 I β σ w) : Inv w0 base I0 I β σ w.drew :=
 ⟨hI.below.drew, hI.baseLe, hI.imm, hI.old, hI.tab, hI.dom, fun o x h => by
   obtain ⟨k, hk, hes, hb, hr⟩ := hI.ob o x h
   exact ⟨k, hk, hes, hb, fun hx => (hr hx).mono rfl (fun _ _ h => h) (fun _ _ h => h) (fun h => h)⟩, hI.inj⟩
end Go.Proofs.YtkockkfmjmheeaaGreat.E

namespace Go.Proofs.YtkockkfmjmheeaaGreat.E
open Go Go.RowKit
set_option linter.unusedSimpArgs false
set_option linter.unusedVariables false
variable {P : Program} {w0 : World} {base : Nat} {I0 I : Imm} {β : Beta} {S : Sl} {σ σ' : Sto} {w : World} {a : Act} {v : V}
theorem Rel.inv_int {c : Value} {k : IntKind} {n : Int} (h : Rel I β c (.int k n)) : c = .int k n := by cases h; rfl
theorem Rel.inv_bool {c : Value} {b : Bool} (h : Rel I β c (.bool b)) : c = .bool b := by cases h; rfl
theorem Rel.inv_str {c : Value} {s : ByteArray} (h : Rel I β c (.str s)) : c = .string s := by cases h; rfl
theorem Rel.inv_nils {c : Value} (h : Rel I β c .nils) : c = .slice none 0 0 := by cases h; rfl
theorem Rel.inv_emp {c : Value} (h : Rel I β c .emp) : ∃ a cap, c = .slice (some a) 0 cap := by cases h; exact ⟨_, _, rfl⟩
theorem Rel.inv_ptr {c : Value} {o i j : Nat} (h : Rel I β c (.ptr o i j)) : ∃ k : Blk, β o = some k ∧ c = .pointer (some ⟨k.b, i * k.es + j, none⟩) := by
 cases h with | ptr hb => exact ⟨_, hb, rfl⟩
theorem Rel.inv_elt {c : Value} {l : List V} (h : Rel I β c (.elt l)) : ∃ b off arr, I b = some arr ∧ c = .pointer (some ⟨b, off, none⟩) ∧ (∀ (j : Nat) (y : V), l[j]? = some y → y.one = true) ∧
 ∀ (j : Nat) (y : V), l[j]? = some y → ∃ c, arr[off + j]? = some c ∧ Rel I Beta.none c y := by
 cases h with | elt c hb h1 ho h2 => exact ⟨_, _, _, hb, rfl, ho, fun j y hy => ⟨_, h1 j y hy, h2 j y hy⟩⟩
theorem Rel.inv_dat {c : Value} {l : List (List V)} (h : Rel I β c (.dat l)) : (l = [] ∧ ∃ a cap, c = .slice a 0 cap ∧ (a = none → cap = 0)) ∨
 ∃ b off cap es arr, I b = some arr ∧ (∀ (i : Nat) (x : List V), l[i]? = some x → x.length = es) ∧ l.length ≤ cap ∧ c = .slice (some ⟨b, off, none⟩) l.length cap ∧
   (∀ (i : Nat) (x : List V) (j : Nat) (y : V), l[i]? = some x → x[j]? = some y → y.one = true) ∧
   ∀ (i : Nat) (x : List V) (j : Nat) (y : V), l[i]? = some x → x[j]? = some y → ∃ c, arr[off + i * es + j]? = some c ∧ Rel I Beta.none c y := by
 cases h with
 | dat0 => exact .inl ⟨rfl, _, _, rfl, by simp⟩
 | datn => exact .inl ⟨rfl, _, _, rfl, by simp⟩
 | dat c hb hl hc h1 ho h2 => exact .inr ⟨_, _, _, _, _, hb, hl, hc, rfl, ho, fun i x j y hx hy => ⟨_, h1 i x j y hx hy, h2 i x j y hx hy⟩⟩
theorem Rel.mk_dat0 {a : Option Addr} {cap : Nat} (h : a = none → cap = 0) : Rel I β (.slice a 0 cap) (.dat []) := by
 cases a with
 | none => rw [h rfl]; exact .datn
 | some a => exact .dat0
theorem Rel.mk_dat {l : List (List V)} {b off cap es : Nat} {arr : Array Value} (hb : I b = some arr) (hl : ∀ (i : Nat) (x : List V), l[i]? = some x → x.length = es) (hc : l.length ≤ cap)
 (ho : ∀ (i : Nat) (x : List V) (j : Nat) (y : V), l[i]? = some x → x[j]? = some y → y.one = true)
 (hr : ∀ (i : Nat) (x : List V) (j : Nat) (y : V), l[i]? = some x → x[j]? = some y → ∃ c, arr[off + i * es + j]? = some c ∧ Rel I Beta.none c y) : Rel I β (.slice (some ⟨b, off, none⟩) l.length cap) (.dat l) := by
 refine .dat (fun i j => arr.getD (off + i * es + j) undef) hb hl hc (fun i x j y hx hy => ?_) ho (fun i x j y hx hy => ?_) <;> obtain ⟨c, h1, h2⟩ := hr i x j y hx hy
 ·simp [Array.getD_eq_getD_getElem?, h1]
 ·simpa [Array.getD_eq_getD_getElem?, h1] using h2
theorem Rel.mk_elt {l : List V} {b off : Nat} {arr : Array Value} (hb : I b = some arr) (ho : ∀ (j : Nat) (y : V), l[j]? = some y → y.one = true)
 (hr : ∀ (j : Nat) (y : V), l[j]? = some y → ∃ c, arr[off + j]? = some c ∧ Rel I Beta.none c y) : Rel I β (.pointer (some ⟨b, off, none⟩)) (.elt l) := by
 refine .elt (fun j => arr.getD (off + j) undef) hb (fun j y hy => ?_) ho (fun j y hy => ?_) <;> obtain ⟨c, h1, h2⟩ := hr j y hy
 ·simp [Array.getD_eq_getD_getElem?, h1]
 ·simpa [Array.getD_eq_getD_getElem?, h1] using h2
theorem Rel.inv_ref {c : Value} {o off len : Nat} (h : Rel I β c (.ref o off len)) : (len = 0 ∧ ∃ x a, β o = some x ∧ c = .slice a 0 0) ∨
 ∃ (k : Blk) (cap : Nat), β o = some k ∧ len ≤ cap ∧ (off + cap) * k.es ≤ k.n ∧ c = .slice (some ⟨k.b, off * k.es, none⟩) len cap := by
 cases h with
 | ref hb hc hn => exact .inr ⟨_, _, hb, hc, hn, rfl⟩
 | refz hb => exact .inl ⟨rfl, _, _, hb, rfl⟩
theorem Rel.inv_agg {c : Value} {l : List V} (h : Rel I β c (.agg l)) : ∃ cs, c = .agg cs ∧ cs.size = l.length ∧ (∀ (i : Nat) (y : V), l[i]? = some y → y.one = true) ∧ ∀ (i : Nat) (c : Value) (y : V), cs[i]? = some c → l[i]? = some y → Rel I β c y := by
 cases h with | agg hs ho h => exact ⟨_, rfl, hs, ho, h⟩
theorem Rel.inv_tup {c : Value} {l : List V} (h : Rel I β c (.tup l)) : ∃ cs, c = .tuple cs ∧ cs.size = l.length ∧ ∀ (i : Nat) (c : Value) (y : V), cs[i]? = some c → l[i]? = some y → Rel I β c y := by
 cases h with | tup hs h => exact ⟨_, rfl, hs, h⟩
theorem Rel.inv_cloB {c : Value} {f : Nat} {l : List V} (h : Rel I β c (.clo f l)) : (∃ cs, c = .func (.func f) #[] cs ∧ f < bm ∧ cs.size = l.length ∧ ∀ (i : Nat) (c : Value) (y : V), cs[i]? = some c → l[i]? = some y → Rel I β c y) ∨
 ∃ g cs, f = g + bm ∧ c = .func (.func g) cs #[] ∧ cs.size = l.length ∧ ∀ (i : Nat) (c : Value) (y : V), cs[i]? = some c → l[i]? = some y → Rel I β c y := by
 cases h with
 | clo hf hs h => exact .inl ⟨_, rfl, hf, hs, h⟩
 | bnd hs h => exact .inr ⟨_, _, rfl, rfl, hs, h⟩
theorem Rel.inv_clo {c : Value} {f : Nat} {l : List V} (h : Rel I β c (.clo f l)) (hf : f < bm) : ∃ cs, c = .func (.func f) #[] cs ∧ cs.size = l.length ∧ ∀ (i : Nat) (c : Value) (y : V), cs[i]? = some c → l[i]? = some y → Rel I β c y := by
 rcases h.inv_cloB with ⟨cs, e, _, h⟩ | ⟨g, cs, e, _⟩
 ·exact ⟨cs, e, h⟩
 ·omega
/-! ### Numbers -/
theorem run_eqGuard (op : BinOp) (t : TypeId) (ox oy : Operand) (cx cy : Value) (h1 : ∀ l m, cx = .agg l → cy = .agg m → False) (h2 : cx = .nilIface → cy = .nilIface → False) :
 (eqGuard op t ox oy cx cy).run P w = .ok () w := by
 unfold eqGuard
 cases op <;> simp [pure, Sem.run] <;> (cases cx <;> cases cy <;> first | rfl | (exact (h1 _ _ rfl rfl).elim) | (exact (h2 rfl rfl).elim))
theorem run_intBits (op : BinOp) (k : IntKind) (x y : Int) (h : op = .and ∨ op = .or ∨ op = .xor) : Op.intBits op k x y = pure (.int k (bits op k x y)) := by
 rcases h with rfl | rfl | rfl <;> rfl
theorem run_bin {op : BinOp} {t : TypeId} {x y : V} {v : V} {cx cy : Value} (h : evBin op x y = some v) (hx : Rel I β cx x) (hy : Rel I β cy y) (ox oy : Operand) :
 ∃ rv, (do eqGuard op t ox oy cx cy; binOp op t cx cy : Sem Value).run P w = .ok rv w ∧ Rel I β rv v := by
 unfold evBin at h
 split at h
 ·rename_i k a k' b
  obtain rfl := hx.inv_int
  obtain rfl := hy.inv_int
  have g : (eqGuard op t ox oy (.int k a) (.int k' b)).run P w = .ok () w := run_eqGuard op t ox oy _ _ (by simp) (by simp)
  simp only [Sem.run_bind, g, Result.andThen]
  cases op <;> simp only [] at h
  case shl =>
   split at h
   ·injection h with h; subst h
    refine ⟨_, ?_, .int⟩
    simp only [binOp, Op.shift]
    rw [if_neg (by omega)]; rfl
   ·simp at h
  case shr =>
   split at h
   ·injection h with h; subst h
    refine ⟨_, ?_, .int⟩
    simp only [binOp, Op.shift]
    rw [if_neg (by omega)]; rfl
   ·simp at h
  all_goals
   split at h
   ·rename_i hk
    subst hk
    first
     | (simp at h; done)
     | (injection h with h; subst h; exact ⟨_, by simp [binOp, Op.intArith, Op.intCmp, run_intBits, pure, Sem.run]; rfl, by constructor⟩)
     | (injection h with h; subst h; exact ⟨_, by simp [binOp, run_intBits]; rfl, by constructor⟩)
     | (split at h
        ·simp at h
        ·rename_i hb
         injection h with h; subst h
         exact ⟨_, by simp [binOp, Op.intDiv, hb, pure, Sem.run]; rfl, by constructor⟩)
   ·simp at h
 ·simp at h
theorem run_binB {op : BinOp} {t : TypeId} {x y : V} {v : V} {cx cy : Value} (h : evBinB op x y = some v) (hx : Rel I β cx x) (hy : Rel I β cy y) (ox oy : Operand) (hu : P.underlying t = some .bool) :
 ∃ rv, (do eqGuard op t ox oy cx cy; binOp op t cx cy : Sem Value).run P w = .ok rv w ∧ Rel I β rv v := by
 unfold evBinB at h
 split at h
 ·rename_i a b
  obtain rfl := hx.inv_bool
  obtain rfl := hy.inv_bool
  have g : (eqGuard op t ox oy (.bool a) (.bool b)).run P w = .ok () w := run_eqGuard op t ox oy _ _ (by simp) (by simp)
  have e : (Op.equal t (.bool a) (.bool b)).run P w = .ok (a == b) w := by
   unfold Op.equal Op.maxDepth Op.equalIn
   simp only [Sem.run_bind, run_underlying hu, Result.andThen]
   rfl
  simp only [Sem.run_bind, g, Result.andThen]
  cases op <;> simp only [] at h <;> first
   | (simp at h; done)
   | (injection h with h; subst h; exact ⟨_, by simp only [binOp, Sem.run_bind, e, Result.andThen]; rfl, by constructor⟩)
 ·simp at h
theorem isNil_run {t e : TypeId} {x : V} {b : Bool} {cx : Value} (h : isNil x = some b) (hx : Rel I β cx x) (hu : P.underlying t = some (.slice e)) :
 (∃ a n c, cx = .slice a n c) ∧ (Op.equal t cx (.slice none 0 0)).run P w = .ok b w := by
 have key : ∀ (a : Option Addr) (n c : Nat), (Op.equal t (.slice a n c) (.slice none 0 0)).run P w = .ok a.isNone w := by
  intro a n c
  unfold Op.equal Op.maxDepth Op.equalIn
  simp only [Sem.run_bind, run_underlying hu, Result.andThen]
  cases a <;> rfl
 unfold isNil at h
 split at h
 ·injection h with h; subst h; obtain rfl := hx.inv_nils; exact ⟨⟨_, _, _, rfl⟩, key _ _ _⟩
 ·injection h with h; subst h; obtain ⟨a, cap, rfl⟩ := hx.inv_emp; exact ⟨⟨_, _, _, rfl⟩, key _ _ _⟩
 ·injection h with h; subst h
  rcases hx.inv_dat with ⟨h0, _⟩ | ⟨b, off, cap, es, arr, _, _, _, rfl, _⟩
  ·simp at h0
  ·exact ⟨⟨_, _, _, rfl⟩, key _ _ _⟩
 ·injection h with h; subst h
  rcases hx.inv_ref with ⟨h0, _⟩ | ⟨k, cap, _, _, _, rfl⟩
  ·simp at h0
  ·exact ⟨⟨_, _, _, rfl⟩, key _ _ _⟩
 ·simp at h
theorem run_binS {op : BinOp} {t e : TypeId} {x y : V} {v : V} {cx cy : Value} (h : evBinS op x y = some v) (hx : Rel I β cx x) (hy : Rel I β cy y) (ox oy : Operand) (hu : P.underlying t = some (.slice e)) :
 ∃ rv, (do eqGuard op t ox oy cx cy; binOp op t cx cy : Sem Value).run P w = .ok rv w ∧ Rel I β rv v := by
 unfold evBinS at h
 split at h
 ·obtain rfl := hy.inv_nils
  split at h
  ·rename_i b hb
   obtain ⟨⟨a, n, c, rfl⟩, he⟩ := isNil_run (P := P) (w := w) hb hx hu
   have g : (eqGuard op t ox oy (.slice a n c) (.slice none 0 0)).run P w = .ok () w := run_eqGuard op t ox oy _ _ (by simp) (by simp)
   simp only [Sem.run_bind, g, Result.andThen]
   cases op <;> simp only [] at h <;> first
    | (simp at h; done)
    | (injection h with h; subst h; exact ⟨_, by simp only [binOp, Sem.run_bind, he, Result.andThen]; rfl, by constructor⟩)
  ·simp at h
 ·simp at h
theorem run_binF {op : BinOp} {t : TypeId} {d1 d2 d3 : _} {x y : V} {v : V} {cx cy : Value} (h : evBinF op x y = some v) (hx : Rel I β cx x) (hy : Rel I β cy y) (ox oy : Operand) (hu : P.underlying t = some (.func d1 d2 d3)) :
 ∃ rv, (do eqGuard op t ox oy cx cy; binOp op t cx cy : Sem Value).run P w = .ok rv w ∧ Rel I β rv v := by
 unfold evBinF at h
 split at h
 ·have hy' : cy = .nilFunc := by cases hy; rfl
  subst hy'
  split at h
  ·have hx' : cx = .nilFunc := by cases hx; rfl
   subst hx'
   have he : (Op.equal t .nilFunc .nilFunc).run P w = .ok true w := by
    unfold Op.equal Op.maxDepth Op.equalIn
    simp only [Sem.run_bind, run_underlying hu, Result.andThen]
    rfl
   have g : (eqGuard op t ox oy .nilFunc .nilFunc).run P w = .ok () w := run_eqGuard op t ox oy _ _ (by simp) (by simp)
   simp only [Sem.run_bind, g, Result.andThen]
   cases op <;> simp only [] at h <;> first
    | (simp at h; done)
    | (injection h with h; subst h; exact ⟨_, by simp only [binOp, Sem.run_bind, he, Result.andThen]; rfl, by constructor⟩)
  ·obtain ⟨g0, fs, cs, rfl⟩ : ∃ g0 fs cs, cx = .func (.func g0) fs cs := by
    rcases hx.inv_cloB with ⟨cs, h, _⟩ | ⟨g, cs, _, h, _⟩
    ·exact ⟨_, _, _, h⟩
    ·exact ⟨_, _, _, h⟩
   have he : ∀ f fs cs, (Op.equal t (.func (.func f) fs cs) .nilFunc).run P w = .ok false w := fun f fs cs => by
    unfold Op.equal Op.maxDepth Op.equalIn
    simp only [Sem.run_bind, run_underlying hu, Result.andThen]
    rfl
   have g : ∀ f fs cs, (eqGuard op t ox oy (.func (.func f) fs cs) .nilFunc).run P w = .ok () w := fun f fs cs => run_eqGuard op t ox oy _ _ (by simp) (by simp)
   simp only [Sem.run_bind, g, Result.andThen]
   cases op <;> simp only [] at h <;> first
    | (simp at h; done)
    | (injection h with h; subst h; exact ⟨_, by simp only [binOp, Sem.run_bind, he, Result.andThen]; rfl, by constructor⟩)
  ·simp at h
 ·simp at h
theorem run_binT {op : BinOp} {t : TypeId} {x y : V} {v : V} {cx cy : Value} (h : evBinT op x y = some v) (hx : Rel I β cx x) (hy : Rel I β cy y) (ox oy : Operand) :
 ∃ rv, (do eqGuard op t ox oy cx cy; binOp op t cx cy : Sem Value).run P w = .ok rv w ∧ Rel I β rv v := by
 unfold evBinT at h
 split at h
 ·rename_i a b
  obtain rfl := hx.inv_str
  obtain rfl := hy.inv_str
  have g : (eqGuard op t ox oy (.string a) (.string b)).run P w = .ok () w := run_eqGuard op t ox oy _ _ (by simp) (by simp)
  simp only [Sem.run_bind, g, Result.andThen]
  cases op <;> simp only [] at h
  case add =>
   split at h
   ·injection h with h; subst h
    refine ⟨_, ?_, .str⟩
    simp only [binOp, Op.stringOp]
    rw [if_neg (by simp [IntKind.max, IntKind.bits]; omega)]; rfl
   ·simp at h
  all_goals first
   | (simp at h; done)
   | (injection h with h; subst h; exact ⟨_, by simp only [binOp, Op.stringOp]; rfl, by constructor⟩)
 ·simp at h
theorem run_un {op : UnOp} {x : V} {v : V} {cx : Value} (h : evUn op x = some v) (hx : Rel I β cx x) : ∃ rv, (Op.unary op cx).run P w = .ok rv w ∧ Rel I β rv v := by
 unfold evUn at h
 split at h
 ·obtain rfl := hx.inv_bool
  cases op <;> simp only [] at h <;> first
   | (simp at h; done)
   | (injection h with h; subst h; exact ⟨_, rfl, .bool⟩)
 ·obtain rfl := hx.inv_int
  cases op <;> simp only [] at h <;> first
   | (simp at h; done)
   | (injection h with h; subst h; exact ⟨_, rfl, .int⟩)
 ·simp at h
end Go.Proofs.YtkockkfmjmheeaaGreat.E

namespace Go.Proofs.YtkockkfmjmheeaaGreat.E
open Go Go.RowKit
set_option linter.unusedSimpArgs false
set_option linter.unusedVariables false
variable {P : Program} {w0 : World} {base : Nat} {I0 I : Imm} {β : Beta} {S : Sl} {σ σ' : Sto} {w : World} {a : Act} {v : V}
theorem run_newRow (t : TypeId) (cs : Array Value) : (newRow t cs).run P w = .ok ⟨w.heap.size, 0, none⟩ (w.alloc (.cells cs t)) := by
 simp [newRow, newObj, Sem.run]
theorem zero_sound {t : TypeId} {z : List V} (h : cZero P t = some z) (I : Imm) (β : Beta) : ∃ i zv, P.info? t = some i ∧ i.zero = some zv ∧ (zeroValue t).run P w = .ok zv w ∧ zv.cells.size = z.length ∧ i.size = z.length ∧
 (∀ (j : Nat) (y : V), z[j]? = some y → y.one = true) ∧ ∀ (j : Nat) (c : Value) (y : V), zv.cells[j]? = some c → z[j]? = some y → Rel I β c y := by
 unfold cZero at h
 split at h
 ·rename_i i hi
  split at h
  ·rename_i zv hz
   split at h
   ·rename_i l hl
    split at h
    ·rename_i hn
     injection h with h; subst h
     obtain ⟨h1, h2⟩ := cV1s_rel I β hl
     have hs : zv.cells.size = l.length := by simpa using h1
     refine ⟨i, zv, hi, hz, by simp [zeroValue, typeInfo, hi, hz], hs, hn.symm, fun j y hy => ?_, fun j c y hc hy => (h2 j c y (by simpa using hc) hy).2⟩
     have hlt : j < zv.cells.size := by rw [hs]; exact (List.getElem?_eq_some_iff.1 hy).1
     exact (h2 j zv.cells[j] y (by simp [hlt]) hy).1
    ·simp at h
   ·simp at h
  ·simp at h
 ·simp at h
theorem good_newVar (hI : Inv w0 base I0 I β σ w) (t : TypeId) {c : Value} (l : List V) (hs : c.cells.size = l.length) (ho : ∀ (i : Nat) (y : V), l[i]? = some y → y.one = true)
 (hr : ∀ (i : Nat) (x : Value) (y : V), c.cells[i]? = some x → l[i]? = some y → Rel I β x y) :
 Good w0 base I0 I β (.ptr (fresh σ) 0 0) (setOb σ (fresh σ) ⟨.own, l.length, [l]⟩) ((do pure (Next.value (Value.pointer (some (← newVar t c)))) : Sem Next).run P w) := by
 obtain ⟨h1, h2⟩ := hI.alloc c.cells t l.length [l] (fun i r hi => by cases i <;> simp at hi; subst hi; rfl) (by simp [hs]) (fun i r j y hi hj => by cases i <;> simp at hi; subst hi; exact ho j y hj)
  (fun i r j y hi hj => by
    cases i <;> simp at hi
    subst hi
    have hlt : j < c.cells.size := by rw [hs]; exact (List.getElem?_eq_some_iff.1 hj).1
    exact ⟨c.cells[j], by simp [hlt], hr j _ y (by simp [hlt]) hj⟩)
 refine ⟨_, _, I, _, .pointer (some ⟨w.heap.size, 0, none⟩), by simp [newVar, run_newRow], .inl rfl, ?_, h1, h2⟩
 have := Rel.ptr (I := I) (β := Beta.put β (fresh σ) ⟨w.heap.size, l.length, c.cells.size⟩) (o := fresh σ) (b := w.heap.size) (es := l.length) (n := c.cells.size) (i := 0) (j := 0) (by simp [Beta.put])
 simpa using this
theorem getOb_some {o : Nat} {x : Ob} (h : getOb σ o = some x) : look σ o = some x ∧ x.st ≠ .dead := by
 unfold getOb at h
 split at h
 ·split at h
  ·simp at h
  ·injection h with h; subst h; exact ⟨by assumption, by assumption⟩
 ·simp at h
theorem Inv.elem (hI : Inv w0 base I0 I β σ w) {o : Nat} {x : Ob} (h : getOb σ o = some x) {k : Blk} (hk : β o = some k) {i : Nat} {r : List V} (hi : x.cells[i]? = some r) :
 ∃ arr t fr, w.heap[k.b]? = some (.cells arr t fr) ∧ k.es = x.es ∧ r.length = x.es ∧ (∀ (j : Nat) (y : V), r[j]? = some y → y.one = true) ∧ (x.st = .own → fr = (0, 0)) ∧ arr.size = k.n ∧
   ∀ (j : Nat) (y : V), r[j]? = some y → ∃ c, arr[i * k.es + j]? = some c ∧ Rel I β c y := by
 obtain ⟨hl, hd⟩ := getOb_some h
 obtain ⟨k2, hk2, hes, hb, hr⟩ := hI.ob o x hl
 rw [hk] at hk2; injection hk2 with hk2; subst hk2
 obtain ⟨⟨arr, t, fr, hm, hs, ho, hf, hc⟩, hlen, hz, h1⟩ := hr hd
 exact ⟨arr, t, fr, hm, hes, hlen i r hi, fun j y hj => h1 i r j y hi hj, fun e => (ho e).1, hs, fun j y hj => by rw [hes]; exact hc i r j y hi hj⟩
theorem run_load {t : TypeId} {k : Option Nat} (hk : cKind P t = some k) {c : Value} {y : V} (hy : Rel I β c y) (hI : Inv w0 base I0 I β σ w)
 (h : ldV σ k y = some (v, σ')) : ∃ rv, (Instr.loadAt t c).run P w = .ok rv w ∧ Rel I β rv v ∧ σ' = σ := by
 cases y with
 | ptr o i j =>
   simp only [ldV] at h
   split at h
   ·rename_i x hx
    split at h
    ·rename_i r hr
     obtain ⟨u, hu, he⟩ := opt_map_some h
     injection he with he1 he2; subst he1; subst he2
     obtain ⟨b, hb, rfl⟩ := hy.inv_ptr
     obtain ⟨arr, ty, fr, hm, _, _, ho, _, _, hc⟩ := hI.elem hx hb hr
     obtain ⟨rv, h1, h2⟩ := run_loadVar (P := P) (I := I) (β := β) hk hu hm ho hc
     exact ⟨rv, by simpa [Instr.loadAt, Instr.sureAddr] using h1, h2, rfl⟩
    ·simp at h
   ·simp at h
 | elt l =>
   simp only [ldV] at h
   obtain ⟨u, hu, he⟩ := opt_map_some h
   injection he with he1 he2; subst he1; subst he2
   obtain ⟨b, off, arr, hb, rfl, ho, hc⟩ := hy.inv_elt
   obtain ⟨ty, fr, hm⟩ := hI.imm _ _ hb
   obtain ⟨rv, h1, h2⟩ := run_loadVar (P := P) (I := I) (β := Beta.none) hk hu hm ho hc
   exact ⟨rv, by simpa [Instr.loadAt, Instr.sureAddr] using h1, h2.mono (fun _ _ h => h) (fun _ _ h => by simp [Beta.none] at h), rfl⟩
 | _ => simp [ldV] at h
theorem idx_lt {i es m n : Nat} (h : i < m) (h2 : m * es ≤ n) : i * es + es ≤ n := by
 have : (i + 1) * es ≤ m * es := Nat.mul_le_mul_right _ h
 rw [Nat.add_mul, Nat.one_mul] at this; omega
theorem getElem?_splice (l x : List V) (off i : Nat) (h : off + x.length ≤ l.length) :
 (splice l off x)[i]? = if off ≤ i ∧ i < off + x.length then x[i - off]? else l[i]? := by
 unfold splice
 simp only [List.append_assoc, List.getElem?_append, List.length_take, List.getElem?_take, List.getElem?_drop]
 have : min off l.length = off := by omega
 rw [this]
 by_cases h1 : i < off
 ·simp [h1]; omega
 ·by_cases h2 : i - off < x.length
  ·have : off ≤ i ∧ i < off + x.length := by omega
   simp [h1, h2, this]
  ·have : ¬ (off ≤ i ∧ i < off + x.length) := by omega
   simp only [h1, h2, this, if_false]
   congr 1
   omega
theorem splice_length (l x : List V) (off : Nat) (h : off + x.length ≤ l.length) : (splice l off x).length = l.length := by
 unfold splice; simp; omega
theorem run_store {t : TypeId} {n : Nat} (hn : cSize P t = some n) {ca cx : Value} {o i j : Nat} {y : V} (ha : Rel I β ca (.ptr o i j)) (hx : Rel I β cx y) (ht : ∀ l, y ≠ .tup l) (hI : Inv w0 base I0 I β σ w) {ob : Ob} {r : List V}
 (hob : getOb σ o = some ob) (hr : ob.cells[i]? = some r) (hown : ob.st = .own) (hc : y.cells.length = n) (hj : j + n ≤ r.length) :
 ∃ w', (Instr.storeAt t ca cx).run P w = .ok () w' ∧ Inv w0 base I0 I β (setOb σ o { ob with cells := ob.cells.set i (splice r j y.cells) }) w' := by
 obtain ⟨k, hk, rfl⟩ := ha.inv_ptr
 obtain ⟨arr, ty, fr, hm, hes, hlen, hone, hfr, hsz, hcl⟩ := hI.elem hob hk hr
 obtain ⟨hl, hd⟩ := getOb_some hob
 obtain ⟨hs, ho, hrel⟩ := hx.cells ht
 have hzero := hfr hown
 subst hzero
 obtain ⟨k2, hk2, _, _, hr'⟩ := hI.ob o ob hl
 rw [hk] at hk2; injection hk2 with hk2; subst hk2
 have R := hr' hd
 have hil : i < ob.cells.length := (List.getElem?_eq_some_iff.1 hr).1
 have hfit : i * k.es + j + cx.cells.toList.length ≤ arr.size := by
  have := R.size
  have := idx_lt hil (Nat.le_refl (ob.cells.length * ob.es))
  rw [hes, hsz]; simp; omega
 have h1 : ∀ c ∈ cx.cells.toList, c.oneCell' = true := by
  intro c hc
  obtain ⟨q, hq, rfl⟩ := List.getElem_of_mem hc
  have hq' : q < y.cells.length := by rw [← hs]; simpa using hq
  have hq2 : q < cx.cells.size := by simpa using hq
  have := hrel q cx.cells[q] _ (by simp [hq2]) (List.getElem?_eq_getElem hq')
  exact this.oneCell' (ho q _ (List.getElem?_eq_getElem hq'))
 have hst := run_storeCells_at P k.b (i * k.es + j) ty cx.cells.toList 0 arr w hm (by simpa using hfit) h1
 simp only [Nat.add_zero] at hst
 have hsize : ∃ inf, P.info? t = some inf ∧ inf.size = n := by
  unfold cSize at hn
  cases hi : P.info? t with
  | none => simp [hi] at hn
  | some inf => exact ⟨inf, rfl, by simpa [hi] using hn⟩
 obtain ⟨inf, hinf, hinfs⟩ := hsize
 refine ⟨w.setRow k.b (arr.toList.take (i * k.es + j) ++ cx.cells.toList ++ arr.toList.drop (i * k.es + j + cx.cells.toList.length)).toArray, by
  have : cx.cells.size = inf.size := by rw [hs, hc, hinfs]
  rw [← hst]
  simp [Instr.storeAt, Instr.sureAddr, storeVar, sizeOf, typeInfo, hinf, this], ?_⟩
 have hslen : (splice r j y.cells).length = ob.es := by rw [splice_length _ _ _ (by omega)]; exact hlen
 refine hI.write hl hown hk hm (by simp; simp at hfit; omega) _ (fun q r' hq => ?_) (by simpa using R.size) (fun q r' p y' hq hp => ?_) (fun q r' p y' hq hp => ?_)
 ·rw [List.getElem?_set] at hq
  by_cases he : i = q
  ·subst he
   simp [hil] at hq; subst hq; exact hslen
  ·rw [if_neg he] at hq; exact R.len q r' hq
 ·rw [List.getElem?_set] at hq
  by_cases he : i = q
  ·subst he
   simp [hil] at hq; subst hq
   rw [getElem?_splice _ _ _ _ (by omega)] at hp
   split at hp
   ·exact ho _ _ hp
   ·exact hone _ _ hp
  ·rw [if_neg he] at hq; exact R.one q r' p y' hq hp
 ·have hlt : ∀ {q p : Nat} {r' : List V}, ob.cells[q]? = some r' → p < r'.length → q * ob.es + p < k.n ∧ p < ob.es := by
   intro q p r' hq hp
   have h2 := R.len q r' hq
   have h3 : q < ob.cells.length := (List.getElem?_eq_some_iff.1 hq).1
   have := idx_lt h3 R.size
   omega
  have get : ∀ m, ((arr.toList.take (i * k.es + j) ++ cx.cells.toList ++ arr.toList.drop (i * k.es + j + cx.cells.toList.length)).toArray)[m]? =
   if i * k.es + j ≤ m ∧ m < i * k.es + j + cx.cells.size then cx.cells[m - (i * k.es + j)]? else arr[m]? := by
   intro m
   simp only [List.getElem?_toArray, List.append_assoc, List.getElem?_append, List.length_take, List.getElem?_take, List.getElem?_drop, Array.length_toList]
   simp only [Array.length_toList] at hfit
   have : min (i * k.es + j) arr.size = i * k.es + j := by omega
   rw [this]
   by_cases h1 : m < i * k.es + j
   ·simp [h1]; omega
   ·by_cases h2 : m - (i * k.es + j) < cx.cells.size
    ·have : i * k.es + j ≤ m ∧ m < i * k.es + j + cx.cells.size := by omega
     simp [h1, h2, this]
    ·have : ¬ (i * k.es + j ≤ m ∧ m < i * k.es + j + cx.cells.size) := by omega
     simp only [h1, h2, this, if_false]
     simp
     congr 1
     omega
  rw [List.getElem?_set] at hq
  rw [get, ← hes]
  by_cases he : i = q
  ·subst he
   simp only [if_true, hil] at hq
   ·injection hq with hq; subst hq
    rw [getElem?_splice _ _ _ _ (by omega)] at hp
    by_cases hin : j ≤ p ∧ p < j + y.cells.length
    ·rw [if_pos hin] at hp
     have hp2 : p - j < cx.cells.size := by rw [hs]; omega
     rw [if_pos (by rw [hs]; omega)]
     refine ⟨cx.cells[p - j], ?_, hrel _ _ _ (by simp [hp2]) hp⟩
     rw [show i * k.es + p - (i * k.es + j) = p - j from by omega]
     simp [hp2]
    ·rw [if_neg hin] at hp
     rw [if_neg (by rw [hs]; omega)]
     exact hcl p y' hp
  ·rw [if_neg he] at hq
   have hpl : p < r'.length := (List.getElem?_eq_some_iff.1 hp).1
   obtain ⟨hb1, hb2⟩ := hlt hq hpl
   have hne : ¬ (i * k.es + j ≤ q * k.es + p ∧ q * k.es + p < i * k.es + j + cx.cells.size) := by
    rw [hes, hs]
    rintro ⟨h3, h4⟩
    rcases Nat.lt_or_ge i q with h5 | h5
    ·have := idx_lt h5 (Nat.le_refl (q * ob.es)); omega
    ·have := idx_lt (show q < i by omega) (Nat.le_refl (i * ob.es)); omega
   rw [if_neg hne, hes]
   obtain ⟨arr2, t2, fr2, hm2, _, _, _, hc2⟩ := R.mem
   rw [hm] at hm2
   injection hm2 with hm2; injection hm2 with hm2 _ _; subst hm2
   exact hc2 q r' p y' hq hp
end Go.Proofs.YtkockkfmjmheeaaGreat.E

namespace Go.Proofs.YtkockkfmjmheeaaGreat.E
open Go Go.RowKit
set_option linter.unusedSimpArgs false
set_option linter.unusedVariables false
variable {P : Program} {w0 : World} {base : Nat} {I0 I : Imm} {β : Beta} {S : Sl} {σ σ' : Sto} {w : World} {a : Act} {v : V}
theorem add_mk (b off n : Nat) : Addr.add ⟨b, off, none⟩ n = ⟨b, off + n, none⟩ := by
 unfold Addr.add; split <;> simp_all
/-! ### make -/
theorem wrap_small {n : Int} (h0 : 0 ≤ n) (h1 : n ≤ roomy) : IntKind.i64.wrap n = n := by
 unfold roomy at h1
 have := h1
 simp only [IntKind.wrap, IntKind.bits, IntKind.signed]
 simp
 omega
theorem zero_cells_get (zv : Array Value) (c es : Nat) (h : zv.size = es) (hes : es ≠ 0) (i j : Nat) (hi : i < c) (hj : j < es) :
 ((Array.range (c * es)).map (fun k => zv[k % zv.size]!))[i * es + j]? = zv[j]? := by
 have hlt : i * es + j < c * es := by have := idx_lt hi (Nat.le_refl (c * es)); omega
 have hm : (i * es + j) % es = j := by rw [Nat.add_comm, Nat.add_mul_mod_self_right]; exact Nat.mod_eq_of_lt hj
 have hj' : j < zv.size := by omega
 simp only [Array.getElem?_map]
 rw [Array.getElem?_eq_getElem (by simpa using hlt)]
 simp [h, hm]
 rw [Array.getElem?_eq_getElem hj', getElem!_pos zv j hj']
theorem good_make (hI : Inv w0 base I0 I β σ w) {t e : TypeId} {z : List V} {bytes : Nat} {i : TypeInfo} (hu : P.underlying t = some (.slice e)) (hz : cZero P e = some z) (hi : P.info? e = some i) (hb : i.bytes = bytes) (hne : z.length ≠ 0)
 {kl kc : IntKind} {l c : Int} (h0 : 0 ≤ l) (h1 : l ≤ c) (h2 : c * bytes ≤ roomy) (h3 : c ≤ roomy) :
 Good w0 base I0 I β (.ref (fresh σ) 0 l.toNat) (setOb σ (fresh σ) ⟨.own, z.length, List.replicate l.toNat z⟩) ((do pure (Next.value (← Instr.makeSlice t (.int kl l) (.int kc c))) : Sem Next).run P w) := by
 obtain ⟨i', zv, hi', hzv, _, hzs, his, hzo, hzr⟩ := zero_sound (w := w) hz I β
 rw [hi] at hi'; injection hi' with hi'; subst hi'
 have hw1 : IntKind.i64.wrap l = l := wrap_small h0 (by omega)
 have hw2 : IntKind.i64.wrap c = c := wrap_small (by omega) h3
 have hc : ((c.toNat : Nat) : Int) = c := Int.toNat_of_nonneg (by omega)
 have hroom : c.toNat * bytes ≤ roomy := by
  have : ((c.toNat * bytes : Nat) : Int) = c * bytes := by push_cast; rw [hc]
  omega
 let arr : Array Value := (Array.range (c.toNat * z.length)).map (fun k => zv.cells[k % zv.cells.size]!)
 have hsz : arr.size = c.toNat * z.length := by simp [arr]
 obtain ⟨g1, g2⟩ := hI.alloc arr e z.length (List.replicate l.toNat z) (fun i r h => by simp [List.getElem?_replicate] at h; rw [h.2]) (by simp [hsz]; exact Nat.mul_le_mul_right _ (by omega))
  (fun i r j y hi hj => by simp [List.getElem?_replicate] at hi; rw [← hi.2] at hj; exact hzo j y hj)
  (fun i r j y hi hj => by
    simp [List.getElem?_replicate] at hi
    obtain ⟨hi1, rfl⟩ := hi
    have hj' : j < z.length := (List.getElem?_eq_some_iff.1 hj).1
    have hj2 : j < zv.cells.size := by omega
    refine ⟨zv.cells[j], ?_, hzr j _ y (by simp [hj2]) hj⟩
    rw [show arr[i * z.length + j]? = zv.cells[j]? from zero_cells_get zv.cells c.toNat z.length hzs hne i j (by omega) hj']
    simp [hj2])
 have hrun : (Instr.makeSlice t (.int kl l) (.int kc c)).run P w = .ok (.slice (some ⟨w.heap.size, 0, none⟩) l.toNat c.toNat) (w.alloc (.cells arr e)) := by
  have hb2 : ¬ ((bytes : Int) * c > 2 ^ 48) := by rw [Int.mul_comm]; unfold roomy at h2; omega
  have hb3 : ¬ (c.toNat * bytes > roomBytes) := by unfold roomBytes; unfold roomy at hroom; omega
  have hne' : i.size ≠ 0 := by omega
  have hcond : ¬ (((c < 0 ∨ 281474976710656 < (bytes : Int) * c) ∨ l < 0) ∨ c < l) := by
   generalize (bytes : Int) * c = q at hb2 ⊢; omega
  simp [Instr.makeSlice, run_underlying hu, typeInfo, hi, sizeOf, zeroValue, hzv, hw1, hw2, hb, askRoom, run_newRow, asInt, asIntOf]
  rw [if_neg hcond]
  by_cases hc0 : c.toNat = 0
  ·have harr : arr = #[] := by apply Array.eq_empty_of_size_eq_zero; rw [hsz, hc0]; simp
   have hr0 : Array.range (c.toNat * i.size) = #[] := Array.eq_empty_of_size_eq_zero (by simp [hc0])
   rw [if_pos (show c.toNat * i.size = 0 by simp [hc0]), harr, hr0]
   simp
  ·rw [if_neg (Nat.mul_ne_zero hc0 hne')]
   simp [arr, his]
 refine ⟨_, _, I, _, .slice (some ⟨w.heap.size, 0, none⟩) l.toNat c.toNat, by simp [hrun], .inl rfl, ?_, g1, g2⟩
 have := Rel.ref (I := I) (β := Beta.put β (fresh σ) ⟨w.heap.size, z.length, arr.size⟩) (o := fresh σ) (b := w.heap.size) (es := z.length) (n := arr.size) (off := 0) (len := l.toNat) (cap := c.toNat) (by simp [Beta.put]) (by omega) (by simp [hsz])
 simpa using this
/-! ### addresses -/
theorem run_fieldAt {s : TypeId} {fs : Array Field} {f : Nat} {fd : Field} {n : Nat} (hu : P.underlying s = some (.struct fs)) (hf : fs[f]? = some fd) (hn : cSize P fd.type = some n) (hn0 : n ≠ 0) (b off : Nat) :
 (Instr.fieldAt s (.pointer (some ⟨b, off, none⟩)) f).run P w = .ok (.pointer (some ⟨b, off + fd.offset, none⟩)) w := by
 unfold cSize at hn
 cases hi : P.info? fd.type with
 | none => simp [hi] at hn
 | some inf =>
   have : inf.size ≠ 0 := by simp [hi] at hn; omega
   simp [Instr.fieldAt, run_underlying hu, hf, Instr.sureAddr, fieldPlace, sizeOf, typeInfo, hi, this, add_mk]
theorem cSize_run {e : TypeId} {es : Nat} (h : cSize P e = some es) : (sizeOf e).run P w = .ok es w := by
 unfold cSize at h
 cases hi : P.info? e with
 | none => simp [hi] at h
 | some inf => simp [hi] at h; simp [sizeOf, typeInfo, hi, h]
theorem run_indexAt_sl {t e : TypeId} {es : Nat} (hu : P.underlying t = some (.slice e)) (he : cSize P e = some es) (b off len cap : Nat) (k : IntKind) (n : Int) (h0 : 0 ≤ n) (h1 : n < len) :
 (Instr.indexAt t (.slice (some ⟨b, off, none⟩) len cap) (.int k n)).run P w = .ok (.pointer (some ⟨b, off + n.toNat * es, none⟩)) w := by
 simp [Instr.indexAt, run_underlying hu, asIntOf, h0, h1, cSize_run he, add_mk]
theorem run_indexAt_arr {t e : TypeId} {es m : Nat} (hu : P.underlying t = some (.array m e)) (he : cSize P e = some es) (b off : Nat) (k : IntKind) (n : Int) (h0 : 0 ≤ n) (h1 : n < m) :
 (Instr.indexAt t (.pointer (some ⟨b, off, none⟩)) (.int k n)).run P w = .ok (.pointer (some ⟨b, off + n.toNat * es, none⟩)) w := by
 simp [Instr.indexAt, run_underlying hu, asIntOf, Instr.sureAddr, h0, h1, cSize_run he, add_mk]
theorem Rel.elt_drop {b off : Nat} {arr : Array Value} {l : List V} (hb : I b = some arr) (ho : ∀ (j : Nat) (y : V), l[j]? = some y → y.one = true)
 (hr : ∀ (j : Nat) (y : V), l[j]? = some y → ∃ c, arr[off + j]? = some c ∧ Rel I Beta.none c y) (d : Nat) : Rel I β (.pointer (some ⟨b, off + d, none⟩)) (.elt (l.drop d)) := by
 refine Rel.mk_elt hb (fun j y hy => ho (d + j) y (by rwa [List.getElem?_drop] at hy)) (fun j y hy => ?_)
 obtain ⟨c, h1, h2⟩ := hr (d + j) y (by rwa [List.getElem?_drop] at hy)
 exact ⟨c, by rw [Nat.add_assoc]; exact h1, h2⟩
end Go.Proofs.YtkockkfmjmheeaaGreat.E
