/- Bundled: what the texts F G H T U V W X AA UP UC UE UF UG ZU UH UI UJ UK UL OY OZ SM SN SO say one after another. -/
import Derived.Test.YtegkdnfeceomdaaGreatKC6
import Derived.Deep.RegionWith
import Derived.Deep.RegionHeld3
import Derived.Deep.DeepCutAuto
import Derived.RangeFuncRecord
import Derived.Test.YtegkdnfeceomdaaGreatKC2
import Derived.Laws.EntriesVeiled
import Derived.Test.YtegkdnfeceomdaaGreatKC1
import Derived.Test.YtegkdnfeceomdaaGreatKC3
import Derived.ArgAppend
import Derived.Lib.AppendZeros
import Derived.Deep.AppendLies
import Derived.Deep.DeepAppendRoom
import Derived.Laws.AppendOwnNone
import Derived.Deep.RegionLaw
import Derived.Laws.MakeOwn
set_option linter.unusedSimpArgs false
set_option linter.unusedVariables false
/- Contracts: the tariff of a day, and its week. -/
namespace Go.Proofs.YtegkdnfeceomdaaGreat
open Go.RowKit Go.Hs
end Go.Proofs.YtegkdnfeceomdaaGreat
/- Contracts: the loss. -/
namespace Go.Proofs.YtegkdnfeceomdaaGreat
open Go.RowKit Go.Hs
end Go.Proofs.YtegkdnfeceomdaaGreat
/- Contracts: the loss. -/
namespace Go.Proofs.YtegkdnfeceomdaaGreat
open Go.RowKit Go.Hs
end Go.Proofs.YtegkdnfeceomdaaGreat
/- The map from spots to parts. -/
namespace Go.Proofs.YtegkdnfeceomdaaGreat
open Go.RowKit Go.Hs
abbrev spotV (a b c : Int) : Value := .agg #[.int .i64 a, .int .i64 b, .int .i64 c]
def Memo (f : Int → Int → Int → Int) (r : Nat) (w : World) : Prop :=
  ∃ es clock, w.heap[r]? = some (.map es clock) ∧ ∀ e ∈ es.toList, ∃ a b c, e.key = spotV a b c ∧ e.val = .int .i64 (f a b c)
end Go.Proofs.YtegkdnfeceomdaaGreat
/- Contracts: a part. -/
namespace Go.Proofs.YtegkdnfeceomdaaGreat
open Go.RowKit Go.Hs
theorem Memo.noCells {f : Int → Int → Int → Int} {r : Nat} {w : World} (h : Memo f r w) : NoCells w r := fun o => by
  obtain ⟨es, clock, hr, -⟩ := h; simp [World.cell?, hr]
theorem Memo.ext {f : Int → Int → Int → Int} {r : Nat} {w w' : World} (h : Memo f r w) (hx : Ext w w') : Memo f r w' := by
  obtain ⟨es, clock, hr, he⟩ := h; exact ⟨es, clock, by rw [hx.heap (Array.getElem?_eq_some_iff.1 hr).1]; exact hr, he⟩
theorem Memo.lt {f : Int → Int → Int → Int} {r : Nat} {w : World} (h : Memo f r w) : r < w.heap.size := by
  obtain ⟨es, clock, hr, -⟩ := h; exact (Array.getElem?_eq_some_iff.1 hr).1
structure WorkAt (l : List Tar) (p r : Nat) (v : Value) (w : World) : Prop where
  list : w.cell? ⟨p, 0, none⟩ = some v
  known : w.cell? ⟨p, 1, none⟩ = some (.map (some r))
  tars : TarsV w v l
  memo : Memo (partS l) r w
theorem WorkAt.ext {l : List Tar} {p r : Nat} {v : Value} {w w' : World} (h : WorkAt l p r v w) (hx : Ext w w') : WorkAt l p r v w' :=
  ⟨hx.keep h.list, hx.keep h.known, h.tars.ext hx, h.memo.ext hx⟩
theorem WorkAt.but {l : List Tar} {p r : Nat} {v : Value} {w w' : World} (h : WorkAt l p r v w) (hx : ExtBut r w w') (hm : Memo (partS l) r w') : WorkAt l p r v w' :=
  have k := hx.kc h.memo.noCells; ⟨k _ _ _ h.list, k _ _ _ h.known, h.tars.kc k, hm⟩
end Go.Proofs.YtegkdnfeceomdaaGreat
/- Contracts: a part. -/
namespace Go.Proofs.YtegkdnfeceomdaaGreat
open Go.RowKit Go.Hs
attribute [local irreducible] World.setCell World.alloc
end Go.Proofs.YtegkdnfeceomdaaGreat
/- Contracts: Part, a payment, the claims. -/
namespace Go.Proofs.YtegkdnfeceomdaaGreat
open Go.RowKit Go.Hs
attribute [local irreducible] World.setCell World.alloc
structure Cla where
  crop : Int
  value : Int
  dlo : Int
  dhi : Int
  clo : Int
  chi : Int
abbrev Cla.u (c : Cla) : V6 := ⟨.int .i64 c.crop, .int .i64 c.value, .int .i64 c.dlo, .int .i64 c.dhi, .int .i64 c.clo, .int .i64 c.chi⟩
def claimB (l : List Tar) (c : Cla) : Bool :=
  inR c.crop 0 ((cropsN l : Int) - 1) && inR c.value 0 100000 && ofB c.dlo c.dhi 120 && decide (c.dhi - c.dlo ≤ 10) && ofB c.clo c.chi 100
end Go.Proofs.YtegkdnfeceomdaaGreat
/- Contracts: a payment. -/
namespace Go.Proofs.YtegkdnfeceomdaaGreat
open Go.RowKit Go.Hs
attribute [local irreducible] World.setCell World.alloc
def payS (l : List Tar) (c : Cla) (d n : Int) : Int := payI c.value (partS l c.crop d n)
structure ClaimOK (l : List Tar) (c : Cla) : Prop where
  crop : 0 ≤ c.crop ∧ c.crop < cropsN l
  value : 0 ≤ c.value ∧ c.value ≤ 100000
  day : 0 ≤ c.dlo ∧ c.dlo ≤ c.dhi ∧ c.dhi ≤ 120
  ten : c.dhi - c.dlo ≤ 10
  count : 0 ≤ c.clo ∧ c.clo ≤ c.chi ∧ c.chi ≤ 100
end Go.Proofs.YtegkdnfeceomdaaGreat
/- Contracts: tariffs at work for some claims. -/
namespace Go.Proofs.YtegkdnfeceomdaaGreat
open Go.RowKit Go.Hs
attribute [local irreducible] World.setCell World.alloc
end Go.Proofs.YtegkdnfeceomdaaGreat
/- Contracts: the payment on a claim in a truth (for layer 7). -/
namespace Go.Proofs.YtegkdnfeceomdaaGreat
open Go.RowKit Go.Hs
attribute [local irreducible] World.setCell World.alloc
def askS1 (l : List Tar) (c : Cla) : Int := if checkS l ≠ 0 then checkS l else if claimB l c then 0 else 2
def truthB (c : Cla) (d n : Int) : Bool := inR d c.dlo c.dhi && inR n c.clo c.chi
def payN (l : List Tar) (c : Cla) (d n : Int) : Int := if askS1 l c = 0 then (if truthB c d n then payS l c d n else 0) else 0
end Go.Proofs.YtegkdnfeceomdaaGreat
/- The plain words of layer 7: what is valid, how a case ends, all sums. -/
namespace Go.Hs
open Go.RowKit Go.Proofs.YtegkdnfeceomdaaGreat
def claimF (c : Cas) (f : Fld) (n : Int) : Cla := ⟨f.crop, f.value, c.day, c.day, n, n⟩
def payC (c : Cas) (f : Fld) (n : Int) : Int := payN c.tars (claimF c f n) c.day n
instance : Inhabited Fld := ⟨⟨0, 0, 0, 0, 0, 0, 0, 0, 0⟩⟩
instance : Inhabited Thr := ⟨⟨0, 0, 0⟩⟩
structure FldOK (l : List Tar) (f : Fld) : Prop where
  crop : 0 ≤ f.crop ∧ f.crop < cropsN l
  value : 0 ≤ f.value ∧ f.value ≤ 100000
  near : 0 ≤ f.near ∧ f.near ≤ 100
  a : 0 ≤ f.alo ∧ f.alo ≤ f.ahi ∧ f.ahi ≤ 100 ∧ f.ahi - f.alo ≤ 4
  b : 0 ≤ f.blo ∧ f.blo ≤ f.bhi ∧ f.bhi ≤ 100 ∧ f.bhi - f.blo ≤ 4
  u : 0 ≤ f.ulo ∧ f.ulo ≤ f.uhi ∧ f.uhi ≤ 100 ∧ f.uhi - f.ulo ≤ 4
structure CasOK (c : Cas) : Prop where
  tars : ValidL c.tars
  few : c.flds.length ≤ 3
  day : 0 ≤ c.day ∧ c.day ≤ 120
  fee : 0 ≤ c.fee ∧ c.fee ≤ 10000
  flds : ∀ f ∈ c.flds, FldOK c.tars f
structure ThrOK (f : Fld) (x : Thr) : Prop where
  a : f.alo ≤ x.a ∧ x.a ≤ f.ahi
  b : f.blo ≤ x.b ∧ x.b ≤ f.bhi
  u : f.ulo ≤ x.u ∧ x.u ≤ f.uhi
structure Out where
  pay : Int
  loser : Nat
def outS (c : Cas) (f : Fld) (x : Thr) : Out := ⟨payC c f (settledS f x), loserS f x⟩
structure Sm where
  award : Int
  e0 : Int
  e1 : Int
  e2 : Int
  e3 : Int
def Sm.zero : Sm := ⟨0, 0, 0, 0, 0⟩
def Sm.plus (s : Sm) (o : Out) : Sm :=
  ⟨s.award + o.pay, if o.loser = 0 then s.e0 + 1 else s.e0, if o.loser = 1 then s.e1 + 1 else s.e1, if o.loser = 2 then s.e2 + 1 else s.e2, if o.loser = 3 then s.e3 + 1 else s.e3⟩
def calledS (s : Sm) : Bool := decide (0 < s.e1 + s.e2 + s.e3)
def feeA (fee : Int) (s : Sm) : Int := if calledS s then (if s.e3 < s.e2 then fee else if s.e2 < s.e3 then 0 else fee - fee / 2) else 0
def feeB (fee : Int) (s : Sm) : Int := if calledS s then (if s.e3 < s.e2 then 0 else if s.e2 < s.e3 then fee else fee / 2) else 0
def sumT (c : Cas) (fs : List Fld) (t : List Thr) : Sm := (fs.zip t).foldl (fun s p => s.plus (outS c p.1 p.2)) Sm.zero
structure EndsOf (S : Int → Prop) (lo hi : Int) : Prop where
  mn : S lo
  mx : S hi
  all : ∀ x, S x → lo ≤ x ∧ x ≤ hi
theorem EndsOf.congr {S T : Int → Prop} {a b : Int} (h : EndsOf S a b) (e : ∀ x, S x ↔ T x) : EndsOf T a b :=
  ⟨(e _).1 h.mn, (e _).1 h.mx, fun x hx => h.all x ((e x).2 hx)⟩
end Go.Hs
/- Contracts of layer 7: the small functions, and what is settled. -/
namespace Go.Proofs.YtegkdnfeceomdaaGreat
open Go.RowKit Go.Hs
attribute [local irreducible] World.setCell World.alloc
end Go.Proofs.YtegkdnfeceomdaaGreat
/- Contracts of layer 7: what is settled. -/
namespace Go.Proofs.YtegkdnfeceomdaaGreat
open Go.RowKit Go.Hs
attribute [local irreducible] World.setCell World.alloc
end Go.Proofs.YtegkdnfeceomdaaGreat
/- Contracts of layer 7: the claim of a field. -/
namespace Go.Hs
open Go.RowKit
abbrev casV (a1 : Option Addr) (n1 c1 : Nat) (day fee : Int) (a2 : Option Addr) (n2 c2 : Nat) : Value := .agg #[.slice a1 n1 c1, .int .i64 day, .int .i64 fee, .slice a2 n2 c2]
theorem CasV.open {w : World} {v : Value} {c : Cas} (h : CasV w v c) : ∃ a1 c1 a2 c2, v = casV a1 c.tars.length c1 c.day c.fee a2 c.flds.length c2 ∧ TarsV w (.slice a1 c.tars.length c1) c.tars ∧
    FldsV w (.slice a2 c.flds.length c2) c.flds ∧ Cells9 w a2 (c.flds.map Fld.c) ∧ c.flds.length ≤ c2 ∧ c.flds.length ≤ 1000 := by
  obtain ⟨vt, vf, rfl, h1, h2⟩ := h; obtain ⟨a1, c1, rfl, -⟩ := id h1; obtain ⟨a2, c2, rfl, h3, h4, h5⟩ := id h2; exact ⟨a1, c1, a2, c2, rfl, h1, h2, h5, h3, h4⟩
end Go.Hs
namespace Go.Proofs.YtegkdnfeceomdaaGreat
open Go.RowKit Go.Hs
attribute [local irreducible] World.setCell World.alloc
end Go.Proofs.YtegkdnfeceomdaaGreat
/- What goes through a list with a function, of package umpire: slices.IndexFunc, slices.ContainsFunc, all. Printed by gen_all.py. -/
namespace Go.Proofs.YtegkdnfeceomdaaGreat
open Go.RowKit Go.Hs
end Go.Proofs.YtegkdnfeceomdaaGreat
/- Contracts of layer 7: the payment on a field, and whether a case is valid. -/
namespace Go.Proofs.YtegkdnfeceomdaaGreat
open Go.RowKit Go.Hs
attribute [local irreducible] World.setCell World.alloc
end Go.Proofs.YtegkdnfeceomdaaGreat
/- Contracts of layer 7: the error of a case; sums, and what is paid of the fee. -/
namespace Go.Proofs.YtegkdnfeceomdaaGreat
open Go.RowKit Go.Hs
attribute [local irreducible] World.setCell World.alloc
end Go.Proofs.YtegkdnfeceomdaaGreat
/- Contracts of layer 7: sums, and what is paid of the fee. -/
namespace Go.Hs
open Go.RowKit
def Sm.v (s : Sm) : Value := .agg #[.int .i64 s.award, .int .i64 s.e0, .int .i64 s.e1, .int .i64 s.e2, .int .i64 s.e3]
def Out.v (o : Out) : Value := .agg #[.int .i64 o.pay, .int .i64 o.loser]
structure SmN (n : Nat) (s : Sm) : Prop where
  a : 0 ≤ s.award ∧ s.award ≤ 100000 * n
  e0 : 0 ≤ s.e0 ∧ s.e0 ≤ n
  e1 : 0 ≤ s.e1 ∧ s.e1 ≤ n
  e2 : 0 ≤ s.e2 ∧ s.e2 ≤ n
  e3 : 0 ≤ s.e3 ∧ s.e3 ≤ n
structure OutOK (o : Out) : Prop where
  pay : 0 ≤ o.pay ∧ o.pay ≤ 100000
  loser : o.loser < 4
theorem SmN.zero : SmN 0 Sm.zero := ⟨by simp [Sm.zero], by simp [Sm.zero], by simp [Sm.zero], by simp [Sm.zero], by simp [Sm.zero]⟩
theorem SmN.plus {n : Nat} {s : Sm} {o : Out} (h : SmN n s) (k : OutOK o) : SmN (n + 1) (s.plus o) := by
  obtain ⟨h1, h2, h3, h4, h5⟩ := h; obtain ⟨k1, k2⟩ := k; refine ⟨?_, ?_, ?_, ?_, ?_⟩ <;> simp only [Sm.plus]
  · omega
  all_goals split <;> omega
end Go.Hs
namespace Go.Proofs.YtegkdnfeceomdaaGreat
open Go.RowKit Go.Hs
attribute [local irreducible] World.setCell World.alloc
end Go.Proofs.YtegkdnfeceomdaaGreat
/- Contracts of layer 7: whether a list is a truth of a case. -/
namespace Go.Hs
open Go.RowKit
theorem Cells9.at {w : World} {b off : Nat} {us : List V9} (h : Cells9 w (some ⟨b, off, none⟩) us) (i : Nat) (hi : i < us.length) : Cell9 w b (off + i * 9) us[i] := by
  obtain ⟨b', off', he, hr⟩ := h i hi; cases he; exact hr
end Go.Hs
namespace Go.Proofs.YtegkdnfeceomdaaGreat
open Go.RowKit Go.Hs
attribute [local irreducible] World.setCell World.alloc
end Go.Proofs.YtegkdnfeceomdaaGreat
/- Contracts of layer 7: how a case ends. -/
namespace Go.Hs
open Go.RowKit Go.Proofs.YtegkdnfeceomdaaGreat
def countsT (fs : List Fld) (t : List Thr) : List Int := (fs.zip t).map (fun p => settledS p.1 p.2)
theorem own_intsV {w : World} {B e n : Nat} {v : Value} {us : List Value} {xs : List Int} (h : w.ownsRow B e 1 v n us) (hu : us = xs.map (.int .i64)) (hn : n = xs.length) (ho : ∀ x ∈ xs, i64ok x) (hl : xs.length ≤ 1000) : IntsV w v xs := by
  subst hu hn; rcases own_open h with ⟨rfl, h0⟩ | ⟨g, cap, rfl, hB, hg, hn, hc⟩
  · have e : xs = [] := List.eq_nil_of_length_eq_zero h0; subst e; exact ⟨none, 0, rfl, Nat.le_refl _, by simp, fun i h => absurd h (by simp)⟩
  · refine ⟨some ⟨g, 0, none⟩, cap, rfl, hn, by omega, fun i hi => ⟨g, 0, rfl, ?_, ho _ (List.getElem_mem hi)⟩⟩
    have := hc i (.int .i64 xs[i]) (by simp [hi]); simpa using this
structure PlayI (w : World) (R S : Nat) (cs : List Int) (s : Sm) (v : Value) (W : World) : Prop where
  ext : Ext w W
  r0 : W.cell? ⟨R, 0, none⟩ = some v
  r1 : W.cell? ⟨R, 1, none⟩ = some (.int .i64 0)
  r2 : W.cell? ⟨R, 2, none⟩ = some (.int .i64 0)
  r3 : W.cell? ⟨R, 3, none⟩ = some (.int .i64 0)
  s0 : W.cell? ⟨S, 0, none⟩ = some (.int .i64 s.award)
  s1 : W.cell? ⟨S, 1, none⟩ = some (.int .i64 s.e0)
  s2 : W.cell? ⟨S, 2, none⟩ = some (.int .i64 s.e1)
  s3 : W.cell? ⟨S, 3, none⟩ = some (.int .i64 s.e2)
  s4 : W.cell? ⟨S, 4, none⟩ = some (.int .i64 s.e3)
  fr : ∀ o, W.frozen? ⟨R, o, none⟩ = false
  fs : ∀ o, W.frozen? ⟨S, o, none⟩ = false
  own : W.ownsRow (S + 1) 3 1 v cs.length (cs.map (.int .i64))
  n1 : w.heap.size ≤ R
  n2 : R + 1 = S
theorem PlayI.lt {w : World} {R S : Nat} {cs : List Int} {s : Sm} {v : Value} {W : World} (h : PlayI w R S cs s v W) : S < W.heap.size := lt_of_cell h.s0
theorem PlayI.grow {w : World} {R S : Nat} {cs : List Int} {s : Sm} {v : Value} {W W' : World} (h : PlayI w R S cs s v W) (hx : Ext W W') : PlayI w R S cs s v W' :=
  ⟨h.ext.trans hx, hx.keep h.r0, hx.keep h.r1, hx.keep h.r2, hx.keep h.r3, hx.keep h.s0, hx.keep h.s1, hx.keep h.s2, hx.keep h.s3, hx.keep h.s4,
    fun o => (hx.frozen (lt_of_cell h.r0)).trans (h.fr o), fun o => (hx.frozen (lt_of_cell h.s0)).trans (h.fs o), own_keep h.own (fun _ hg => hx.heap (own_lt h.own hg).2), h.n1, h.n2⟩
theorem PlayI.sum {w : World} {R S : Nat} {cs : List Int} {s : Sm} {v : Value} {W : World} (h : PlayI w R S cs s v W) (q : Sm) :
    PlayI w R S cs q v (((((W.setCell ⟨S, 0, none⟩ (.int .i64 q.award)).setCell ⟨S, 1, none⟩ (.int .i64 q.e0)).setCell ⟨S, 2, none⟩ (.int .i64 q.e1)).setCell ⟨S, 3, none⟩ (.int .i64 q.e2)).setCell ⟨S, 4, none⟩ (.int .i64 q.e3)) := by
  have h1 := h.n1; have h2 := h.n2
  have ne : ∀ {b i o : Nat} {x y : Value} {A : World}, (b ≠ S ∨ i ≠ o) → A.cell? ⟨b, i, none⟩ = some x → (A.setCell ⟨S, o, none⟩ y).cell? ⟨b, i, none⟩ = some x := fun {b i o x y A} hne hc => by
    rw [World.cell?_setCell_other (h := by intro e; cases e; simp at hne)]; exact hc
  have sm : ∀ {i : Nat} {x y : Value} {A : World}, A.cell? ⟨S, i, none⟩ = some x → (A.setCell ⟨S, i, none⟩ y).cell? ⟨S, i, none⟩ = some y := fun hc => World.cell?_setCell_same _ _ _ hc
  refine ⟨((((h.ext.setCell (by omega) _).setCell (by omega) _).setCell (by omega) _).setCell (by omega) _).setCell (by omega) _, ?_, ?_, ?_, ?_, ?_, ?_, ?_, ?_, ?_, ?_, ?_, ?_, h.n1, h.n2⟩
  · exact ne (.inl (by omega)) (ne (.inl (by omega)) (ne (.inl (by omega)) (ne (.inl (by omega)) (ne (.inl (by omega)) h.r0))))
  · exact ne (.inl (by omega)) (ne (.inl (by omega)) (ne (.inl (by omega)) (ne (.inl (by omega)) (ne (.inl (by omega)) h.r1))))
  · exact ne (.inl (by omega)) (ne (.inl (by omega)) (ne (.inl (by omega)) (ne (.inl (by omega)) (ne (.inl (by omega)) h.r2))))
  · exact ne (.inl (by omega)) (ne (.inl (by omega)) (ne (.inl (by omega)) (ne (.inl (by omega)) (ne (.inl (by omega)) h.r3))))
  · exact ne (.inr (by decide)) (ne (.inr (by decide)) (ne (.inr (by decide)) (ne (.inr (by decide)) (sm h.s0))))
  · exact ne (.inr (by decide)) (ne (.inr (by decide)) (ne (.inr (by decide)) (sm (ne (.inr (by decide)) h.s1))))
  · exact ne (.inr (by decide)) (ne (.inr (by decide)) (sm (ne (.inr (by decide)) (ne (.inr (by decide)) h.s2))))
  · exact ne (.inr (by decide)) (sm (ne (.inr (by decide)) (ne (.inr (by decide)) (ne (.inr (by decide)) h.s3))))
  · exact sm (ne (.inr (by decide)) (ne (.inr (by decide)) (ne (.inr (by decide)) (ne (.inr (by decide)) h.s4))))
  · intro o; simp only [World.frozen?_setCell]; exact h.fr o
  · intro o; simp only [World.frozen?_setCell]; exact h.fs o
  · refine own_keep h.own (fun g hg => ?_)
    have hgS := (own_lt h.own hg).1; rw [Below.heap_setCell _ _ _ _ (show g ≠ S by omega), Below.heap_setCell _ _ _ _ (show g ≠ S by omega), Below.heap_setCell _ _ _ _ (show g ≠ S by omega), Below.heap_setCell _ _ _ _ (show g ≠ S by omega), Below.heap_setCell _ _ _ _ (show g ≠ S by omega)]
end Go.Hs
namespace Go.Proofs.YtegkdnfeceomdaaGreat
open Go.RowKit Go.Hs
attribute [local irreducible] World.setCell World.alloc
end Go.Proofs.YtegkdnfeceomdaaGreat
/- Append to a list of its own that is kept; slices.Concat of three lists of integers. -/
namespace Go.Hs
open Go.RowKit
theorem own_prefix {w : World} {B e k n m cap g : Nat} {us vs : List Value} (h : w.ownsRow B e k (.slice (some ⟨g, 0, none⟩) (n + m) cap) (n + m) (us ++ vs)) (hu : us.length = n * k) : w.ownsRow B e k (.slice (some ⟨g, 0, none⟩) n cap) n us := by
  refine ⟨hu, .inr ?_⟩
  rcases h.2 with ⟨h0, -⟩ | ⟨g', cap', cur, hv, hb, hg, hn, hc, hs, ht⟩
  · cases h0
  · cases hv
    refine ⟨g, cap, cur, rfl, hb, hg, by omega, hc, hs, ?_⟩
    have e1 : cur.toList.take (n * k) = (cur.toList.take ((n + m) * k)).take (n * k) := by
      rw [List.take_take, Nat.min_eq_left (Nat.mul_le_mul_right _ (Nat.le_add_right _ _))]
    rw [e1, ht, ← hu]; exact List.take_left
section
variable {P : Program} {w : World}
theorem run_append_keep (t ty : TypeId) (base : Nat) (e : TypeId) (i : TypeInfo) (z : Value) (size bytes : Nat) (ht : P.underlying t = some (.slice e)) (hi : P.info? e = some i) (hz : i.zero = some z)
    (hsize : i.size = size) (hby : i.bytes = bytes) (hzs : z.cells.size = size) (hsz : 0 < size)
    (v : Value) (n : Nat) (xs : List Value) (hown : w.ownsRow base e size v n xs)
    (ad : Addr) (m c : Nat) (news : List Value) (hl : news.length = m * size) (hnews : ∀ j u, news[j]? = some u → w.cell? (ad.add j) = some u) (h1 : ∀ u ∈ news, u.oneCell' = true)
    (hm : 0 < m) (h63 : n + m ≤ maxLen) (hbytes : (n + m) * bytes ≤ 140737488355328) (hbase : base ≤ w.heap.size) :
    ∃ g cap w', (Builtin.append_ #[t, t] ty #[v, .slice (some ad) m c]).run P w = .ok (.slice (some ⟨g, 0, none⟩) (n + m) cap) w' ∧
      w'.ownsRow base e size (.slice (some ⟨g, 0, none⟩) (n + m) cap) (n + m) (xs ++ news) ∧ w'.ownsRow base e size v n xs ∧ w.grownBy w' v.ownBlock ∧ base ≤ g ∧ g < w'.heap.size := by
  rcases own_open hown with ⟨rfl, h0⟩ | ⟨g, cap, rfl, hb, hlt, hcap, -⟩
  · obtain ⟨g, cap, w', hr, h2, h3, h4, h5⟩ := run_append_lies (P := P) w t ty base e i z size bytes ht hi hz hsize hby hzs hsz _ n xs hown ad m c news hl hnews h1 hm h63 hbytes hbase _ rfl; refine ⟨g, cap, w', hr, h2, ⟨hown.1, .inl ⟨rfl, h0⟩⟩, h3, ?_, h5⟩
    rcases h4 with h4 | h4
    · cases h4
    · omega
  · by_cases hroom : n + m ≤ cap
    · obtain ⟨w', hr, h2, h3⟩ := run_append_own_spare (P := P) w base t ty e i size ht hi hsize g n cap xs hown ad m c news hl hnews h1 hroom; exact ⟨g, cap, w', hr, h2, own_prefix h2 hown.1, h3, hb, Nat.lt_of_lt_of_le hlt h3.size⟩
    · have hcl := hown.cells (g := g) rfl; obtain ⟨v', w', hr, h2, h3⟩ := run_append_arg_grows (P := P) w t ty e i z size bytes ht hi hz hsize hby hzs hsz ⟨g, 0, none⟩ n cap xs hown.1 hcl ad m c news hl hnews (by omega) h63 hbytes; obtain ⟨g', cap', rfl, hg', hlt'⟩ := h2.form (by omega); refine ⟨g', cap', w', hr, ?_, own_keep hown (fun b hb => h3.block b (own_lt hown hb).2 (by simp)), ⟨h3.os, h3.tape, h3.output, h3.size, fun k hk _ => h3.block k hk (by simp)⟩, by omega, hlt'⟩
      refine ⟨h2.1, ?_⟩
      rcases h2.2 with h | ⟨a1, a2, a3, a4, a5, a6⟩
      · exact .inl h
      · exact .inr ⟨a1, a2, a3, a4, Nat.le_trans hbase a5, a6⟩
theorem step_append_keep {ops : Array Oper} {o : Oper} {a : Act} {K : Act → World → Prop} {Q : Exit → Act → World → Prop} {E : Prop} (hgd : o.guard = none) (s x : Operand) (t : TypeId)
    (ho : o.op = .call { callee := .builtin .append, args := #[s, x], argTypes := #[t, t] })
    (base : Nat) (e : TypeId) (i : TypeInfo) (z : Value) (size bytes : Nat) (ht : P.underlying t = some (.slice e)) (hi : P.info? e = some i) (hz : i.zero = some z)
    (hsize : i.size = size) (hby : i.bytes = bytes) (hzs : z.cells.size = size) (hsz : 0 < size)
    (v : Value) (n : Nat) (xs : List Value) (hs : a.eval s = v) (hown : w.ownsRow base e size v n xs)
    (ad : Addr) (m c : Nat) (news : List Value) (hx : a.eval x = .slice (some ad) m c) (hl : news.length = m * size) (hnews : ∀ j u, news[j]? = some u → w.cell? (ad.add j) = some u) (h1 : ∀ u ∈ news, u.oneCell' = true)
    (hm : 0 < m) (h63 : n + m ≤ maxLen) (hbytes : (n + m) * bytes ≤ 140737488355328) (hbase : base ≤ w.heap.size)
    (h : ∀ g cap w', w'.ownsRow base e size (.slice (some ⟨g, 0, none⟩) (n + m) cap) (n + m) (xs ++ news) → w'.ownsRow base e size v n xs → w.grownBy w' v.ownBlock → base ≤ g → g < w'.heap.size → K (a.put o.dst (.slice (some ⟨g, 0, none⟩) (n + m) cap)) w') :
    if Region.wanted o (yielded ops a.tmps) = true then Oper.wp P o a w K Q else E := by
  have hw : Region.wanted o (yielded ops a.tmps) = true := by simp [Region.wanted, hgd]
  rw [if_pos hw]; obtain ⟨g, cap, w', hr, h2, h3, h4, h5, h6⟩ := run_append_keep (P := P) (w := w) t o.type base e i z size bytes ht hi hz hsize hby hzs hsz v n xs hown ad m c news hl hnews h1 hm h63 hbytes hbase; unfold Oper.wp execOp; simp only [ho, resolve, invoke, builtin, Sem.run_bind, Sem.run_pure, Result.andThen_ok, List.map_toArray, List.map_cons, List.map_nil, hs, hx, hr]; exact h g cap w' h2 h3 h4 h5 h6
end
end Go.Hs
/- slices.Concat of three lists of integers. -/
namespace Go.Proofs.YtegkdnfeceomdaaGreat
open Go.RowKit Go.Hs
attribute [local irreducible] World.setCell World.alloc
set_option maxRecDepth 100000 in
set_option maxHeartbeats 4000000 in
theorem grow_x (n : Nat) (w : World) (hn : n ≤ 1000) :
    Calls Tryz.prog 161 #[.slice none 0 0, .int .i64 n] w fun e w' => ∃ v', e = .returned v' ∧ w'.ownsRow w.heap.size 3 1 v' 0 [] ∧ Ext w w' := by
  obtain ⟨i0, hi, hz0, hz1, hz2⟩ := info_parts info_int; have hw : IntKind.i64.wrap (n : Int) = n := IntWalk.i64_in _ (by omega); by_cases h0 : 0 < n
  · have h0' : (0 : Int) < (n : Int) := by omega
    have hd : decide ((0 : Int) < (n : Int)) = true := decide_eq_true h0'; have happ := Lib.run_append_nil_zeros (P := Tryz.prog) w 22 3 22 3 i0 (.int .i64 0) .i64 .i64 Tryz.underlying22 Tryz.underlying3 hi hz0 n h0 (by rw [hz1]; decide) (by omega) (by rw [hz2]; omega); have hge := grownCap_ge w n 0 3; have hle : grownCap w n 0 3 ≤ maxLen := grownCap_le_maxLen w n 0 3 (by unfold maxLen; omega)
    have HC : Hid ((Builtin.zeroCells (Value.int .i64 0).cells n ++ Builtin.zeroCells (Value.int .i64 0).cells (grownCap w n 0 3 - n)).size = grownCap w n 0 3) := Lib.hid (by
      have e : (Value.int .i64 0).cells.size = 1 := rfl; simp only [Array.size_append, size_zeroCells, e]; omega)
    generalize Builtin.zeroCells (Value.int .i64 0).cells n ++ Builtin.zeroCells (Value.int .i64 0).cells (grownCap w n 0 3 - n) = zs at *; generalize grownCap w n 0 3 = q at *; go_enter Tryz.func161, Tryz.ntmps161
    go_wp2_with (at_builtin; refine Lib.wpList_append_run w rfl _ _ _ _ rfl _ _ rfl rfl _ _ happ ?_)
    go_ret; exact ⟨_, rfl, ⟨rfl, .inr ⟨_, _, zs, rfl, Nat.le_refl _, heap_alloc_new w _, Nat.zero_le _, hle, by rw [HC.out, Nat.mul_one], by simp⟩⟩, by (repeat (first | exact Ext.refl _ | with_reducible (first | assumption | refine Ext.drew ?_ | refine Ext.alloc ?_ _ | refine Ext.drewN ?_ _ | refine Ext.setCell ?_ (by omega) _ | refine Ext.trans ?_ (by assumption))))⟩
  · obtain rfl : n = 0 := by omega
    go_enter Tryz.func161, Tryz.ntmps161
    (go_wp2_with fail); go_ret; exact ⟨_, rfl, World.ownsRow_nil _ _ _ _, Ext.refl _⟩
def catL (xs : Nat → List Int) (k : Nat) : List Int := (List.range k).flatMap xs
theorem catL_next (xs : Nat → List Int) (k : Nat) : catL xs (k + 1) = catL xs k ++ xs k := by simp [catL, List.range_succ]
set_option maxRecDepth 100000 in
set_option maxHeartbeats 4000000 in
theorem concat_x (B N q : Nat) (a : Nat → Option Addr) (c : Nat → Nat) (xs : Nat → List Int) (w : World) (hN : N ≤ 4)
    (hc : ∀ k, k < N → w.cell? ⟨B, k, none⟩ = some (.slice (a k) (xs k).length (c k))) (hv : ∀ k, k < N → IntsV w (.slice (a k) (xs k).length (c k)) (xs k)) (hl : ∀ k, k < N → (xs k).length ≤ 200) (hq : N ≤ q) :
    Calls Tryz.prog 126 #[.slice (some ⟨B, 0, none⟩) N q] w fun e w' => ∃ v', e = .returned v' ∧ w'.ownsRow w.heap.size 3 1 v' (catL xs N).length ((catL xs N).map (.int .i64)) ∧ Ext w w' := by
  obtain ⟨i0, hi, hz0, hz1, hz2⟩ := info_parts info_int
  have HLN : Hid (∀ k, k ≤ N → (catL xs k).length ≤ 200 * k) := Lib.hid (fun k hk => by
    induction k with
    | zero => simp [catL]
    | succ k ih => rw [catL_next, List.length_append]; have := ih (by omega); have := hl k (by omega); omega)
  have HGR := Lib.hid (fun n W h => grow_x n W h); have HC : Hid (∀ k, k < N → ∀ W, Ext w W → W.cell? ⟨B, k, none⟩ = some (.slice (a k) (xs k).length (c k))) := Lib.hid (fun k hk W hx => hx.keep (hc k hk)); have HV : Hid (∀ k, k < N → ∀ W, Ext w W → IntsV W (.slice (a k) (xs k).length (c k)) (xs k)) := Lib.hid (fun k hk W hx => (hv k hk).ext hx); have HL := Lib.hid hl; clear hc hv hl; go_enter Tryz.func126, Tryz.ntmps126
  (go_wp2_with fail); go_loop [3, 11] (fun s3 s11 => ∃ k : Nat, k ≤ N ∧ s11 = .int .i64 k ∧ s3 = .int .i64 ((catL xs k).length : Nat)) (fun _ s => N - (intOf s).toNat)
  case atStart => exact ⟨0, Nat.zero_le _, rfl, rfl⟩
  case round =>
    obtain ⟨k, hk, rfl, rfl⟩ := hrel; by_cases hlt : k < N
    · have hcell := HC.out k hlt w (Ext.refl _); have h1 := HLN.out k hk; have h2 := HL.out k hlt; have HX : Hid (((catL xs (k + 1)).length : Int) = (catL xs k).length + (xs k).length) := Lib.hid (by rw [catL_next, List.length_append]; omega); have hk0 : (0 : Int) ≤ (k : Int) := by omega
      have hk1 : (k : Int) < (N : Int) := by omega
      have hw : IntKind.i64.wrap (((catL xs k).length : Int) + (xs k).length) = (catL xs k).length + (xs k).length := IntWalk.i64_in _ (by omega); have hp : ¬ (((catL xs k).length : Int) + (xs k).length < 0) := by omega
      have hd : decide (((catL xs k).length : Int) + (xs k).length < 0) = false := decide_eq_false hp; (go_wp2_with fail); go_round
      case rel => exact ⟨k + 1, by omega, by go_num, by rw [HX.out]⟩
      case measure => simp [intOf]; omega
    · obtain rfl : k = N := by omega
      have hln := HLN.out k (Nat.le_refl _); (go_wp2_with fail); (with_reducible refine (HGR.out _ _ (by omega)).mono ?_); rintro e w1 ⟨v1, rfl, hown, hx1⟩
      have HO : Hid (∃ a5 q5, v1 = .slice a5 0 q5 ∧ w1.ownsRow w.heap.size 3 1 (.slice a5 0 q5) 0 []) := Lib.hid (by
        rcases own_open hown with ⟨rfl, -⟩ | ⟨g, cap, rfl, -⟩
        · exact ⟨_, _, rfl, hown⟩
        · exact ⟨_, _, rfl, hown⟩)
      clear hown; obtain ⟨a5, q5, rfl, hown⟩ := HO.out; have HO1 : Hid (w1.ownsRow w.heap.size 3 1 (.slice a5 0 q5) 0 ((catL xs 0).map (.int .i64))) := Lib.hid (by simpa [catL] using hown); clear hown HO; (go_wp2_with fail); go_loopw [6, 27] (fun s6 s27 wr => ∃ (j m : Nat) (a5 : Option Addr) (q5 : Nat), j ≤ k ∧ m = (catL xs j).length ∧ s27 = .int .i64 j ∧ s6 = .slice a5 m q5 ∧ Hid (wr.ownsRow w.heap.size 3 1 (.slice a5 m q5) m ((catL xs j).map (.int .i64))) ∧ Ext w wr) (fun _ s _ => k - (intOf s).toNat)
      case atStart => exact ⟨0, 0, a5, q5, Nat.zero_le _, rfl, rfl, rfl, HO1, hx1⟩
      case round =>
        obtain ⟨j, m, a5, q5, hj, hm, rfl, rfl, HO, hx⟩ := hrel; obtain ⟨wo, rfl⟩ : ∃ y, y = wr := ⟨_, rfl⟩; by_cases hlt2 : j < k
        · have hcell := HC.out j hlt2 wo hx; obtain ⟨a7, c7, ev, h71, -, hrow⟩ := HV.out j hlt2 wo hx; simp only [Value.slice.injEq] at ev; obtain ⟨ea, -, ec⟩ := ev; have HA := Lib.hid ea; clear ea ec; have hk0 : (0 : Int) ≤ (j : Int) := by omega
          have hk1 : (j : Int) < (k : Int) := by omega
          have h1 := HLN.out j hj; have h2 := HL.out j hlt2; have HM := Lib.hid hm; have HNX : Hid (catL xs (j + 1) = catL xs j ++ xs j) := Lib.hid (catL_next xs j); have hml : m ≤ 200 * j := by omega
          have hszW : w.heap.size ≤ wo.heap.size := hx.size; clear hm; generalize hxs : xs j = ys at *; have HXS := Lib.hid hxs; clear hxs; by_cases he : ys = []
          · subst he
            have hrun : (Builtin.append_ #[22, 22] 22 #[.slice a5 m q5, .slice (a j) 0 (c j)]).run Tryz.prog wo = .ok (.slice a5 m q5) wo := run_append_none wo _ _ _ i0 Tryz.underlying22 hi _ _ _ _ _ (by
              rcases own_open HO.out with ⟨e, h0⟩ | ⟨g, cap, e, -, -, h, -⟩
              · cases e; exact Nat.le_refl _
              · cases e; exact h)
            simp only [List.length_nil] at hcell; go_wp2_with (at_builtin; refine Lib.wpList_append_run wo rfl _ _ _ _ rfl _ _ rfl rfl _ _ hrun ?_)
            go_roundw
            case rel => exact ⟨j + 1, m, a5, q5, by omega, by rw [HNX.out, List.append_nil]; exact HM.out, by go_num, rfl, Lib.hid (by rw [HNX.out, List.append_nil]; exact HO.out), hx⟩
            case measure => simp [intOf]; omega
          · have hpos : 0 < ys.length := List.length_pos_iff.2 he; obtain ⟨b7, o7, rfl, -⟩ := hrow 0 hpos; rw [HA.out] at hcell; have HR := Lib.hid hrow; have HE := Lib.hid he; clear hrow he; generalize hcj : c j = cj at *; clear hcj; go_wp2_with (at_builtin; refine wpList_append_own_at _ rfl _ _ 22 rfl w.heap.size 3 i0 (.int .i64 0) 1 8 Tryz.underlying22 hi hz0 hz1 hz2 rfl (by decide) (.slice a5 m q5) m ((catL xs j).map (.int .i64)) rfl ?own ⟨b7, o7, none⟩ ys.length cj (ys.map (.int .i64)) rfl ?len ?cells ?one ?fit1 ?fit2 ?fit3 ?next)
            case own => exact HO.out
            case len => simp
            case cells =>
              intro i u hi'
              have hj' : i < ys.length := by
                rcases Nat.lt_or_ge i ys.length with h | h
                · exact h
                · rw [List.getElem?_eq_none (by simpa using h)] at hi'; cases hi'
              have := (Rows.at HR.out i hj').1; rw [add_none']; simp [hj'] at hi'
              rw [← hi']; simpa using this
            case one =>
              intro u hu
              obtain ⟨x, -, rfl⟩ := List.mem_map.1 hu; rfl
            case fit1 => simp only [maxLen]; omega
            case fit2 => omega
            case fit3 => omega
            case next =>
              intro v' w' hown hgrow hnil hat
              have hx' : Ext w w' := grown_ext hx hgrow (fun g hg => (own_lt HO.out hg).1); have OWN : Hid (w'.ownsRow w.heap.size 3 1 v' (m + ys.length) ((catL xs (j + 1)).map (.int .i64))) := Lib.hid (by rw [HNX.out, List.map_append]; exact hown); rcases own_open hown with ⟨-, h0⟩ | ⟨g, cap, rfl, hB, hlt3, hcap, hcells⟩
              · omega
              · clear hnil hat hown hgrow; (go_wp2_with fail); go_roundw
                case rel => exact ⟨j + 1, m + ys.length, _, _, by omega, by rw [HNX.out, List.length_append, HM.out], by go_num, rfl, OWN, hx'⟩
                case measure => simp [intOf]; omega
        · obtain rfl : j = k := by omega
          have HM := Lib.hid hm; clear hm; (go_wp2_with fail); go_ret; exact ⟨_, rfl, by rw [← HM.out]; exact HO.out, hx⟩
end Go.Proofs.YtegkdnfeceomdaaGreat
/- Contracts of layer 8: whether a truth has one number of each range. -/
namespace Go.Hs
open Go.RowKit
theorem all_range_false {n : Nat} {f : Nat → Bool} {k : Nat} (hk : k < n) (h : f k = false) : (List.range n).all f = false := by
  rw [List.all_eq_false]; exact ⟨k, List.mem_range.2 hk, by simp [h]⟩
theorem listedD_no {c : DCas} {t : DTr} (h : t.days.length ≠ c.bk.ents.length ∨ t.sown.length ≠ c.bk.pars.length ∨ t.starts.length ≠ c.covs.length) : listedD c t = false := by
  unfold listedD; by_cases h1 : t.days.length = c.bk.ents.length <;> by_cases h2 : t.sown.length = c.bk.pars.length <;> by_cases h3 : t.starts.length = c.covs.length <;> simp [h1, h2, h3]
  exact absurd h (by simp [h1, h2, h3])
def numsT (t : DTr) : List Int := t.days ++ (t.sown ++ (t.starts ++ [t.loss]))
theorem listedD_yes {c : DCas} {t : DTr} (h1 : t.days.length = c.bk.ents.length) (h2 : t.sown.length = c.bk.pars.length) (h3 : t.starts.length = c.covs.length) :
    listedD c t = (List.range (rngsD c).length).all (fun i => inR ((numsT t).getD i 0) ((rngsD c).getD i default).1 ((rngsD c).getD i default).2) := by
  unfold listedD numsT; rw [decide_eq_true h1, decide_eq_true h2, decide_eq_true h3]; rfl
theorem ownRow_cell {w : World} {B e n cap g : Nat} {us : List Value} (h : w.ownsRow B e 1 (.slice (some ⟨g, 0, none⟩) n cap) n us) {k : Nat} {u : Value} (hk : us[k]? = some u) : w.cell? ⟨g, k, none⟩ = some u := by
  rcases own_open h with ⟨h0, -⟩ | ⟨g', cap', e, -, -, -, hc⟩
  · cases h0
  · cases e; exact hc k u hk
end Go.Hs
namespace Go.Proofs.YtegkdnfeceomdaaGreat
open Go.RowKit Go.Hs
attribute [local irreducible] World.setCell World.alloc
theorem one_inN {W wa : World} {b : Nat} {x : Value} {t : TypeId} (h : Ext (W.alloc (.cells #[x] t)) wa) (hb : b = W.heap.size) : ∀ j y, ([x] : List Value)[j]? = some y → wa.cell? ((⟨b, 0, none⟩ : Addr).add j) = some y := by
  subst hb; intro j y hj
  rcases j with _ | j
  · simp at hj
    subst hj; rw [add_none']; exact h.keep (by simp)
  · simp at hj
set_option maxRecDepth 100000 in
set_option maxHeartbeats 4000000 in
theorem listed_d (A : CaseA) (c : DCas) (t : DTr) (vd vs vst : Value) (w : World) (hm : CaseM w A c) (hd : IntsV w vd t.days) (hs : IntsV w vs t.sown) (hst : IntsV w vst t.starts) (h1 : t.days.length ≤ 200) (h2 : t.sown.length ≤ 200) (h3 : t.starts.length ≤ 200) :
    Calls Tryz.prog 69 #[A.v c, .agg #[vd, vs, vst, .int .i64 t.loss]] w fun e w' => e = .returned (.bool (listedD c t)) ∧ Ext w w' := by
  obtain ⟨i0, hi0, hz0, hz1, hz2⟩ := info_parts info_int; obtain ⟨a5, n5, rfl, -, -, -⟩ := id hd; obtain ⟨a6, n6, rfl, -, -, -⟩ := id hs; obtain ⟨a7, n7, rfl, -, -, -⟩ := id hst
  have HCC : Hid (∀ B W, Ext w W → W.cell? ⟨B, 0, none⟩ = some (.slice a5 t.days.length n5) → W.cell? ⟨B, 1, none⟩ = some (.slice a6 t.sown.length n6) → W.cell? ⟨B, 2, none⟩ = some (.slice a7 t.starts.length n7) →
      Calls Tryz.prog 126 #[.slice (some ⟨B, 0, none⟩) 3 3] W fun e w' => ∃ a q, e = .returned (.slice a (t.days ++ (t.sown ++ t.starts)).length q) ∧ w'.ownsRow W.heap.size 3 1 (.slice a (t.days ++ (t.sown ++ t.starts)).length q) (t.days ++ (t.sown ++ t.starts)).length ((t.days ++ (t.sown ++ t.starts)).map (.int .i64)) ∧ Ext W w') := Lib.hid (fun B W hx q0 q1 q2 => by
    have hF : ∀ k, k < 3 → k = 0 ∨ k = 1 ∨ k = 2 := fun k hk => by omega
    refine (concat_x B 3 3 (fun k => if k = 0 then a5 else if k = 1 then a6 else a7) (fun k => if k = 0 then n5 else if k = 1 then n6 else n7) (fun k => if k = 0 then t.days else if k = 1 then t.sown else t.starts) W (by omega) ?_ ?_ ?_ (Nat.le_refl _)).mono ?_
    · intro k hk
      rcases hF k hk with rfl | rfl | rfl
      · exact q0
      · exact q1
      · exact q2
    · intro k hk
      rcases hF k hk with rfl | rfl | rfl
      · exact hd.ext hx
      · exact hs.ext hx
      · exact hst.ext hx
    · intro k hk
      rcases hF k hk with rfl | rfl | rfl
      · exact h1
      · exact h2
      · exact h3
    · rintro e w' ⟨v', rfl, hown, hx'⟩; have e3 : catL (fun k => if k = 0 then t.days else if k = 1 then t.sown else t.starts) 3 = t.days ++ (t.sown ++ t.starts) := by simp [catL, List.range_succ]
      rw [e3] at hown; rcases own_open hown with ⟨rfl, h0⟩ | ⟨g, cap, rfl, -⟩
      · refine ⟨none, 0, by rw [h0], ?_, hx'⟩
        rw [h0] at hown ⊢; exact hown
      · exact ⟨_, _, rfl, hown, hx'⟩)
  have HRN := Lib.hid (fun W (hx : Ext w W) => ranges_d A c W (hm.ext hx)); have HNO := Lib.hid (listedD_no (c := c) (t := t)); have HYE := Lib.hid (listedD_yes (c := c) (t := t)); have HLN : Hid ((rngsD c).length = c.bk.ents.length + c.bk.pars.length + c.covs.length + 1) := Lib.hid (rngsD_len c); have HNT : Hid (numsT t = (t.days ++ (t.sown ++ t.starts)) ++ [t.loss]) := Lib.hid (by simp [numsT]); have hl1 := hm.l1.2; have hl2 := hm.l2.2; have hl3 := hm.l3.2; clear hm hd hs hst; generalize listedD c t = r at *; generalize rngsD c = rs at *; generalize numsT t = nt at *; unfold CaseA.v caseV at *; obtain ⟨a1, c1, a2, c2, a3, c3, a4, c4⟩ := A; simp only at *; have HLL : Hid ((t.days ++ (t.sown ++ t.starts)).length = t.days.length + (t.sown.length + t.starts.length)) := Lib.hid (by simp); generalize t.days ++ (t.sown ++ t.starts) = ls at *; generalize t.days.length = m1 at *; generalize t.sown.length = m2 at *; generalize t.starts.length = m3 at *; generalize t.loss = lo at *; generalize c.bk.pars.length = n1 at *; generalize c.bk.ents.length = n2 at *; generalize c.covs.length = n3 at *; generalize c.clms.length = n4 at *; generalize c.bk.last = last at *; generalize c.bk.owners = owners at *; generalize c.soc = soc at *; generalize c.day = day at *; generalize c.parcel = parcel at *; generalize c.llo = llo at *; generalize c.lhi = lhi at *; go_enter Tryz.func69, Tryz.ntmps69
  (go_wp2_with fail); obtain ⟨W, hW⟩ : ∃ W, W = (((w.alloc (.cells #[.int .i64 last, .int .i64 owners, .slice a1 n1 c1, .slice a2 n2 c2, .int .i64 soc, .int .i64 day, .int .i64 parcel, .slice a3 n3 c3, .int .i64 llo, .int .i64 lhi, .slice a4 n4 c4] 57)).alloc (.cells #[.slice a5 m1 n5, .slice a6 m2 n6, .slice a7 m3 n7, .int .i64 lo] 61)).alloc (.cells #[.slice a5 m1 n5, .slice a6 m2 n6, .slice a7 m3 n7] 22)) := ⟨_, rfl⟩; have X : Ext w W := by subst hW; (repeat (first | exact Ext.refl _ | with_reducible (first | assumption | refine Ext.drew ?_ | refine Ext.alloc ?_ _ | refine Ext.drewN ?_ _ | refine Ext.setCell ?_ (by omega) _ | refine Ext.trans ?_ (by assumption))))
  have HS : Hid (∀ w', Ext W w' → (w'.cell? ⟨w.heap.size, 0, none⟩ = some (.int .i64 last) ∧ w'.cell? ⟨w.heap.size, 1, none⟩ = some (.int .i64 owners) ∧ w'.cell? ⟨w.heap.size, 2, none⟩ = some (.slice a1 n1 c1) ∧ w'.cell? ⟨w.heap.size, 3, none⟩ = some (.slice a2 n2 c2) ∧ w'.cell? ⟨w.heap.size, 4, none⟩ = some (.int .i64 soc) ∧ w'.cell? ⟨w.heap.size, 5, none⟩ = some (.int .i64 day) ∧ w'.cell? ⟨w.heap.size, 6, none⟩ = some (.int .i64 parcel) ∧ w'.cell? ⟨w.heap.size, 7, none⟩ = some (.slice a3 n3 c3) ∧ w'.cell? ⟨w.heap.size, 8, none⟩ = some (.int .i64 llo) ∧ w'.cell? ⟨w.heap.size, 9, none⟩ = some (.int .i64 lhi) ∧ w'.cell? ⟨w.heap.size, 10, none⟩ = some (.slice a4 n4 c4) ∧ w'.cell? ⟨w.heap.size + 1, 0, none⟩ = some (.slice a5 m1 n5) ∧ w'.cell? ⟨w.heap.size + 1, 1, none⟩ = some (.slice a6 m2 n6) ∧ w'.cell? ⟨w.heap.size + 1, 2, none⟩ = some (.slice a7 m3 n7) ∧ w'.cell? ⟨w.heap.size + 1, 3, none⟩ = some (.int .i64 lo) ∧ w'.cell? ⟨w.heap.size + 1 + 1, 0, none⟩ = some (.slice a5 m1 n5) ∧ w'.cell? ⟨w.heap.size + 1 + 1, 1, none⟩ = some (.slice a6 m2 n6) ∧ w'.cell? ⟨w.heap.size + 1 + 1, 2, none⟩ = some (.slice a7 m3 n7)) ∧ Ext W w') := Lib.hid (fun w' hx => ⟨⟨hx.keep (by subst hW; simp [go_sem]), hx.keep (by subst hW; simp [go_sem]), hx.keep (by subst hW; simp [go_sem]), hx.keep (by subst hW; simp [go_sem]), hx.keep (by subst hW; simp [go_sem]), hx.keep (by subst hW; simp [go_sem]), hx.keep (by subst hW; simp [go_sem]), hx.keep (by subst hW; simp [go_sem]), hx.keep (by subst hW; simp [go_sem]), hx.keep (by subst hW; simp [go_sem]), hx.keep (by subst hW; simp [go_sem]), hx.keep (by subst hW; simp [go_sem]), hx.keep (by subst hW; simp [go_sem]), hx.keep (by subst hW; simp [go_sem]), hx.keep (by subst hW; simp [go_sem]), hx.keep (by subst hW; simp [go_sem]), hx.keep (by subst hW; simp [go_sem]), hx.keep (by subst hW; simp [go_sem])⟩, hx⟩); have HSf : Hid (∀ w', Ext W w' → ∀ o, w'.frozen? ⟨w.heap.size + 1 + 1, o, none⟩ = false) := Lib.hid (fun w' hx o => (hx.frozen (by subst hW; simp)).trans (by subst hW; simp [go_sem]))
  have HSz : w.heap.size + 1 + 1 + 1 ≤ W.heap.size := by subst hW; simp
  rw [← hW]; clear hW; obtain ⟨⟨q0, q1, q2, q3, q4, q5, q6, q7, q8, q9, q10, t0, t1, t2, t3, u0, u1, u2⟩, -⟩ := HS.out W (Ext.refl _); (with_reducible refine (HCC.out _ _ X u0 u1 u2).mono ?_); rintro e w1 ⟨al, ql, rfl, hown, hx1⟩; have X1 := X.trans hx1; obtain ⟨⟨q0, q1, q2, q3, q4, q5, q6, q7, q8, q9, q10, t0, t1, t2, t3, u0, u1, u2⟩, -⟩ := HS.out w1 hx1; have HOWN := Lib.hid hown; clear hown HCC; by_cases e1 : m1 = n2
  · have d1 : ((m1 : Int) != (n2 : Int)) = false := by rw [bne_eq_false_iff_eq]; omega
    by_cases e2 : m2 = n1
    · have d2 : ((m2 : Int) != (n1 : Int)) = false := by rw [bne_eq_false_iff_eq]; omega
      by_cases e3 : m3 = n3
      · have d3 : ((m3 : Int) != (n3 : Int)) = false := by rw [bne_eq_false_iff_eq]; omega
        have HR := Lib.hid (HYE.out e1 e2 e3); have HLR : Hid (rs.length = ls.length + 1) := Lib.hid (by rw [HLN.out, HLL.out, e1, e2, e3]; omega); have hls : ls.length ≤ 600 := by rw [HLL.out]; omega
        have HE := Lib.hid (And.intro e1 (And.intro e2 e3)); clear HNO HYE HLN HLL e1 e2 e3; (go_wp2_with fail); (with_reducible refine (HRN.out _ X1).mono ?_); rintro e w2 ⟨ar, qr, rfl, hrw, hx2⟩; have X2 := X1.trans hx2; have hT3 := hx2.keep t3; have hbl : ∀ g, (Value.slice al ls.length ql).ownBlock = some g → W.heap.size ≤ g ∧ g < w1.heap.size := fun g hg => own_lt HOWN.out hg
        have HW2 := Lib.hid (own_extR HOWN.out hx2)
        have HV : Hid (∀ k, k < rs.length → ∃ g2, ar = some ⟨g2, 0, none⟩ ∧ ∀ W', KP (fun j => (Value.slice al ls.length ql).ownBlock = some j) w2 W' → W'.cell? ⟨g2, k * 2, none⟩ = some (.int .i64 (rs.getD k default).1) ∧ W'.cell? ⟨g2, k * 2 + 1, none⟩ = some (.int .i64 (rs.getD k default).2)) := Lib.hid (fun k hk => by
          obtain ⟨g2, e2, h3, h4, h5⟩ := Hs.Own.at (C := rngC) (k := 2) (fun _ => rfl) hrw hk; have eg : rs.getD k default = rs[k] := by simp [hk]
          rw [eg]; have hng : ¬ (Value.slice al ls.length ql).ownBlock = some g2 := fun h => by have := hbl g2 h; omega
          exact ⟨g2, e2, fun W' h => ⟨h.keep hng (h5 0 _ rfl), h.keep hng (h5 1 _ rfl)⟩⟩)
        have HT : Hid (∀ W', KP (fun j => (Value.slice al ls.length ql).ownBlock = some j) w2 W' → W'.cell? ⟨w.heap.size + 1, 3, none⟩ = some (.int .i64 lo) ∧ Ext w W') := Lib.hid (fun W' h =>
          ⟨h.keep (fun hg => by have := hbl _ hg; omega) hT3, h.toExt X2 (fun k hk => by have := hbl _ hk; omega)⟩)
        have HPB := Lib.hid hbl; clear q0 q1 q2 q3 q4 q5 q6 q7 q8 q9 q10 t0 t1 t2 t3 u0 u1 u2 hrw HS HRN HOWN hbl hT3 HSf; (go_wp2_with fail); go_loopw [50] (fun s wr => ∃ k : Nat, k ≤ rs.length ∧ s = .int .i64 k ∧ KP (fun j => (Value.slice al ls.length ql).ownBlock = some j) w2 wr ∧ Hid (wr.ownsRow W.heap.size 3 1 (.slice al ls.length ql) ls.length (ls.map (.int .i64))) ∧ Hid (∀ j, j < k → inR (nt.getD j 0) (rs.getD j default).1 (rs.getD j default).2 = true)) (fun s _ => rs.length - (intOf s).toNat)
        case atStart => exact ⟨0, Nat.zero_le _, rfl, KP.refl _, HW2, Lib.hid (fun j hj => absurd hj (Nat.not_lt_zero _))⟩
        case round =>
          obtain ⟨k, hk, rfl, hkp, HO, HJ⟩ := hrel; obtain ⟨wo, rfl⟩ : ∃ x, x = wr := ⟨_, rfl⟩; obtain ⟨t3, hxw⟩ := HT.out wo hkp; by_cases hlt : k < rs.length
          · obtain ⟨g2, rfl, hcl⟩ := HV.out k hlt; obtain ⟨m0, m1'⟩ := hcl wo hkp; clear hcl; have hk0 : (0 : Int) ≤ (k : Int) := by omega
            have hk1 : (k : Int) < (rs.length : Int) := by omega
            have hk2 : (k : Int) < (ls.length : Int) + 1 := by have := HLR.out; omega
            have hk3 : k < ls.length + 1 := by have := HLR.out; omega
            have HGT : Hid ((ls.map (Value.int .i64) ++ [Value.int .i64 lo])[k]? = some (.int .i64 (nt.getD k 0))) := Lib.hid (by
              rw [HNT.out]; have e : (ls.map (Value.int .i64) ++ [Value.int .i64 lo]) = (ls ++ [lo]).map (.int .i64) := by simp
              rw [e]; have h : k < (ls ++ [lo]).length := by simp; omega
              rw [List.getElem?_map, List.getD_eq_getElem?_getD, List.getElem?_eq_getElem h]; rfl)
            have HIN : Hid (∀ b, inR (nt.getD k 0) (rs.getD k default).1 (rs.getD k default).2 = b → b = true → ∀ j, j < k + 1 → inR (nt.getD j 0) (rs.getD j default).1 (rs.getD j default).2 = true) := Lib.hid (fun b hb hb1 j hj => by
              by_cases e : j = k
              · subst e; rw [hb]; exact hb1
              · exact HJ.out j (by omega))
            have HBAD : Hid (∀ b, inR (nt.getD k 0) (rs.getD k default).1 (rs.getD k default).2 = b → b = false → r = false) := Lib.hid (fun b hb hb1 => by
              rw [HR.out]; exact all_range_false hlt (hb.trans hb1))
            generalize (rs.getD k default).1 = rlo at *; generalize (rs.getD k default).2 = rhi at *; generalize nt.getD k 0 = nk at *; have HAS := Lib.hid (fun W => has_d rlo rhi nk W); obtain ⟨ib, hib⟩ : ∃ ib, ib = inR nk rlo rhi := ⟨_, rfl⟩; rw [← hib] at HAS; have HIB := Lib.hid hib.symm; clear hib; go_upto_region 7 with fail
            have M8 : Ext wo (wo.alloc (.cells #[.int .i64 rlo, .int .i64 rhi] 54)) := by (repeat (first | exact Ext.refl _ | with_reducible (first | assumption | refine Ext.drew ?_ | refine Ext.alloc ?_ _ | refine Ext.drewN ?_ _ | refine Ext.setCell ?_ (by omega) _ | refine Ext.trans ?_ (by assumption))))
            have hzo : w2.heap.size ≤ wo.heap.size := hkp.size
            have HSS : Hid (∀ w', KP (fun j => (Value.slice al ls.length ql).ownBlock = some j) (wo.alloc (.cells #[.int .i64 rlo, .int .i64 rhi] 54)) w' → (w'.cell? ⟨wo.heap.size, 0, none⟩ = some (.int .i64 rlo) ∧ w'.cell? ⟨wo.heap.size, 1, none⟩ = some (.int .i64 rhi) ∧ w'.cell? ⟨w.heap.size + 1, 3, none⟩ = some (.int .i64 lo)) ∧ KP (fun j => (Value.slice al ls.length ql).ownBlock = some j) (wo.alloc (.cells #[.int .i64 rlo, .int .i64 rhi] 54)) w') := Lib.hid (fun w' h => by
              have hz12 := hx2.size; have hzx := hx1.size; exact ⟨⟨h.keep (fun hg => by have := HPB.out _ hg; omega) (by simp [go_sem]), h.keep (fun hg => by have := HPB.out _ hg; omega) (by simp [go_sem]), h.keep (fun hg => by have := HPB.out _ hg; omega) (M8.keep t3)⟩, h⟩)
            have HO8 : Hid (∀ W', Ext (wo.alloc (.cells #[.int .i64 rlo, .int .i64 rhi] 54)) W' → W'.ownsRow W.heap.size 3 1 (.slice al ls.length ql) ls.length (ls.map (.int .i64)) ∧ W.heap.size ≤ W'.heap.size) := Lib.hid (fun W' h => ⟨own_extR HO.out (M8.trans h), by have := hx1.size; have := hx2.size; have := (M8.trans h).size; omega⟩); have HK8 := Lib.hid (hkp.ext M8); clear m0 m1' t3 HO hkp hxw hzo; generalize (wo.alloc (.cells #[.int .i64 rlo, .int .i64 rhi] 54)) = W8 at *; go_cut [65] from 55 to 65 (fun s wx => s = .bool (!ib) ∧ KP (fun j => (Value.slice al ls.length ql).ownBlock = some j) W8 wx ∧ Hid (wx.ownsRow W.heap.size 3 1 (.slice al ls.length ql) ls.length (ls.map (.int .i64))))
            case first =>
              have HF1 : Hid (ls.length + 1 ≤ maxLen) := Lib.hid (by simp only [maxLen]; omega); have HF2 : Hid ((ls.length + 1) * 8 ≤ 140737488355328) := Lib.hid (by omega)
              have HONE : Hid (∀ u ∈ ([.int .i64 lo] : List Value), u.oneCell' = true) := Lib.hid (by
                intro u hu
                simp only [List.mem_cons, List.not_mem_nil, or_false] at hu; rw [hu]; rfl)
              clear HR HBAD HIN HJ HLR HV HT HPB HK8 HE HNT HW2 HIB X X1 X2 hx1 hx2 M8; obtain ⟨⟨y0, y1, y3⟩, -⟩ := HSS.out W8 (KP.refl _); have hy := lt_of_cell y0; have hy3 := lt_of_cell y3; simp only at hy hy3
              go_region_law
                (first
                  | (go_at_call 127; (refine (HAS.out _).mono ?_); rintro e w5 ⟨rfl, hx5⟩; dsimp only)
                  | (go_simp; (refine (HAS.out _).mono ?_); rintro e w5 ⟨rfl, hx5⟩; dsimp only)
                  | ((refine step_is_app' _ _ 22 rfl ?_); (refine step_append_keep (by rfl) _ _ 22 (by rfl) W.heap.size 3 i0 (.int .i64 0) 1 8 Tryz.underlying22 hi0 hz0 hz1 hz2 rfl (by decide) (.slice al ls.length ql) ls.length (ls.map (.int .i64)) (by rfl) (HO8.out _ (by (repeat (first | exact Ext.refl _ | with_reducible (first | assumption | refine Ext.drew ?_ | refine Ext.alloc ?_ _ | refine Ext.drewN ?_ _ | refine Ext.setCell ?_ (by omega) _ | refine Ext.trans ?_ (by assumption)))))).1 ⟨_, 0, none⟩ 1 1 [.int .i64 lo] (by rfl) rfl (one_inN (by (repeat (first | exact Ext.refl _ | with_reducible (first | assumption | refine Ext.drew ?_ | refine Ext.alloc ?_ _ | refine Ext.drewN ?_ _ | refine Ext.setCell ?_ (by omega) _ | refine Ext.trans ?_ (by assumption))))) (by first | rfl | simp)) HONE.out (by decide) HF1.out HF2.out (HO8.out _ (by (repeat (first | exact Ext.refl _ | with_reducible (first | assumption | refine Ext.drew ?_ | refine Ext.alloc ?_ _ | refine Ext.drewN ?_ _ | refine Ext.setCell ?_ (by omega) _ | refine Ext.trans ?_ (by assumption)))))).2 ?_); intro g cap w4 hown4 hold4 hgrow _ _; have hk4 : KP (fun j => (Value.slice al ls.length ql).ownBlock = some j) _ w4 := KP.grown hgrow (fun g hg => hg); have hc4 := ownRow_cell hown4 HGT.out; have HO4 := Lib.hid hold4; obtain ⟨⟨z0, z1, z3⟩, -⟩ := HSS.out w4 (by (repeat (first | exact KP.refl _ | with_reducible (first | assumption | refine KP.drew ?_ | refine KP.alloc ?_ _ | refine KP.setCell ?_ (fail) _ | refine KP.ext ?_ (by assumption) | refine KP.trans ?_ (by assumption) | refine Ext.kp (by assumption))))); clear hown4 hold4 hgrow))
              all_goals
                (go_wp2_with fail); go_meet
                exact ⟨rfl, by (repeat (first | exact KP.refl _ | with_reducible (first | assumption | refine KP.drew ?_ | refine KP.alloc ?_ _ | refine KP.setCell ?_ (fail) _ | refine KP.ext ?_ (by assumption) | refine KP.trans ?_ (by assumption) | refine Ext.kp (by assumption)))), Lib.hid (own_extR HO4.out (by (repeat (first | exact Ext.refl _ | with_reducible (first | assumption | refine Ext.drew ?_ | refine Ext.alloc ?_ _ | refine Ext.drewN ?_ _ | refine Ext.setCell ?_ (by omega) _ | refine Ext.trans ?_ (by assumption))))))⟩
            case rest =>
              obtain ⟨rfl, hk5, HO5⟩ := hcut; have HK9 := Lib.hid (HK8.out.trans hk5); cases ib with
              | true =>
                have HJ2 := Lib.hid (HIN.out true HIB.out rfl); clear HIN HBAD HJ hk5; (go_wp2_with fail); go_roundw
                case rel => exact ⟨k + 1, by omega, by go_num, HK9.out, HO5, HJ2⟩
                case measure => simp [intOf]; omega
              | false =>
                obtain rfl : r = false := HBAD.out false HIB.out rfl; clear HIN HBAD HJ hk5; (go_wp2_with fail); go_ret; exact ⟨rfl, (HT.out _ HK9.out).2⟩
          · obtain rfl : k = rs.length := by omega
            obtain rfl : r = true := by
              rw [HR.out, List.all_eq_true]; intro j hj
              exact HJ.out j (List.mem_range.1 hj)
            clear HR; (go_wp2_with fail); go_ret; exact ⟨rfl, hxw⟩
      · have d3 : ((m3 : Int) != (n3 : Int)) = true := by rw [bne_iff_ne]; omega
        obtain rfl : r = false := HNO.out (.inr (.inr e3)); have HE := Lib.hid (And.intro e1 (And.intro e2 e3)); clear HNO HYE HLN HLL e1 e2 e3 HS; (go_wp2_with fail); go_ret; exact ⟨rfl, X1⟩
    · have d2 : ((m2 : Int) != (n1 : Int)) = true := by rw [bne_iff_ne]; omega
      obtain rfl : r = false := HNO.out (.inr (.inl e2)); have HE := Lib.hid (And.intro e1 e2); clear HNO HYE HLN HLL e1 e2 HS; (go_wp2_with fail); go_ret; exact ⟨rfl, X1⟩
  · have d1 : ((m1 : Int) != (n2 : Int)) = true := by rw [bne_iff_ne]; omega
    obtain rfl : r = false := HNO.out (.inl e1); have HE := Lib.hid e1; clear HNO HYE HLN HLL e1 HS; (go_wp2_with fail); go_ret; exact ⟨rfl, X1⟩
end Go.Proofs.YtegkdnfeceomdaaGreat
/- Contracts of layer 8: all lists of one number of each range, one after the other. -/
namespace Go.Hs
open Go.RowKit
theorem allL_cons (r : Int × Int) (t : List (Int × Int)) : allL (r :: t) = (List.range (r.2 - r.1 + 1).toNat).flatMap (fun n : Nat => (allL t).map (fun l => (r.1 + (n : Int)) :: l)) := rfl
theorem flatMap_len {α β : Type} {f : α → List β} {k : Nat} (hf : ∀ x, (f x).length = k) (l : List α) : (l.flatMap f).length = l.length * k := by
  induction l with
  | nil => simp
  | cons x r ih => rw [List.flatMap_cons, List.length_append, hf, ih, List.length_cons, Nat.succ_mul]; omega
theorem flat_at' {α β : Type} {C : α → List β} {k : Nat} (hC : ∀ x, (C x).length = k) (xs : List α) (i j : Nat) (h : i < xs.length) (hj : j < k) : (xs.flatMap C)[i * k + j]? = (C xs[i])[j]? := by
  induction xs generalizing i with
  | nil => simp at h
  | cons x r ih =>
    cases i with
    | zero => rw [Nat.zero_mul, Nat.zero_add, List.flatMap_cons, List.getElem?_append_left (by rw [hC]; exact hj)]; rfl
    | succ i =>
      have e : (i + 1) * k = i * k + k := Nat.succ_mul i k; rw [List.flatMap_cons, List.getElem?_append_right (by rw [hC]; omega), hC, show (i + 1) * k + j - k = i * k + j by omega, ih i (by simpa using h)]; simp
theorem allL_len (r : Int × Int) (t : List (Int × Int)) : (allL (r :: t)).length = (r.2 - r.1 + 1).toNat * (allL t).length := by
  rw [allL_cons, flatMap_len (k := (allL t).length) (fun x => by simp), List.length_range]
theorem allL_at {r : Int × Int} {t : List (Int × Int)} {a j : Nat} (ha : a < (r.2 - r.1 + 1).toNat) (hj : j < (allL t).length) : (allL (r :: t))[a * (allL t).length + j]? = some ((r.1 + (a : Int)) :: (allL t)[j]) := by
  have h := flat_at' (C := fun n : Nat => (allL t).map (fun l => (r.1 + (n : Int)) :: l)) (k := (allL t).length) (fun x => by simp) (List.range (r.2 - r.1 + 1).toNat) a j (by simpa using ha) hj; rw [allL_cons, h]; simp [hj]
def AtL (rs : List (Int × Int)) (k i : Nat) (pre : List Int) : Prop := ∀ j (h : j < (allL (rs.drop i)).length), (allL rs)[k + j]? = some (pre ++ (allL (rs.drop i))[j])
theorem atL_zero (rs : List (Int × Int)) : AtL rs 0 0 [] := fun j h => by
  have h' : j < (allL rs).length := h; simp [h']
theorem atL_next {rs : List (Int × Int)} {k i : Nat} {pre : List Int} (h : AtL rs k i pre) (hi : i < rs.length) {a : Nat} (ha : a < (rs[i].2 - rs[i].1 + 1).toNat) : AtL rs (k + a * (allL (rs.drop (i + 1))).length) (i + 1) (pre ++ [rs[i].1 + (a : Int)]) := fun j hj => by
  have e : rs.drop i = rs[i] :: rs.drop (i + 1) := List.drop_eq_getElem_cons hi
  have hlt : a * (allL (rs.drop (i + 1))).length + j < (allL (rs.drop i)).length := by
    rw [e, allL_len]; have h1 : (a + 1) * (allL (rs.drop (i + 1))).length ≤ (rs[i].2 - rs[i].1 + 1).toNat * (allL (rs.drop (i + 1))).length := Nat.mul_le_mul_right _ ha; rw [Nat.succ_mul] at h1; omega
  have h2 := h _ hlt
  have h3 : (allL (rs.drop i))[a * (allL (rs.drop (i + 1))).length + j] = (rs[i].1 + (a : Int)) :: (allL (rs.drop (i + 1)))[j] := by
    have := allL_at (t := rs.drop (i + 1)) ha hj; rw [← e] at this; rw [List.getElem?_eq_getElem hlt] at this; exact Option.some.inj this
  rw [Nat.add_assoc, h2, h3]; simp
def RngB (bl : Nat) (ar : Option Addr) (qr : Nat) (rs : List (Int × Int)) (w : World) : Prop :=
  w.cell? ⟨bl, 0, none⟩ = some (.slice ar rs.length qr) ∧ ∀ k (h : k < rs.length), ∃ g, ar = some ⟨g, 0, none⟩ ∧ w.cell? ⟨g, k * 2, none⟩ = some (.int .i64 (rs[k]).1) ∧ w.cell? ⟨g, k * 2 + 1, none⟩ = some (.int .i64 (rs[k]).2)
structure LsSt (F : FuncId) (D L bl b1 b2 b3 g n : Nat) (pre : List Int) (w : World) : Prop where
  y : w.cell? ⟨b1, 0, none⟩ = some (.func (.yield L) #[] #[])
  o : w.cell? ⟨b2, 0, none⟩ = some (.slice (some ⟨g, 0, none⟩) n n)
  c : w.cell? ⟨b3, 0, none⟩ = some (.func (.func F) #[] #[.pointer (some ⟨bl, 0, none⟩), .pointer (some ⟨b1, 0, none⟩), .pointer (some ⟨b2, 0, none⟩), .pointer (some ⟨b3, 0, none⟩)])
  row : ∀ j, j < n → ∃ x, w.cell? ⟨g, j, none⟩ = some x
  hd : ∀ j (h : j < pre.length), w.cell? ⟨g, j, none⟩ = some (.int .i64 pre[j])
  len : pre.length ≤ n
  fr : ∀ o, w.frozen? ⟨g, o, none⟩ = false
  d : D ≤ b1 ∧ D ≤ b2 ∧ D ≤ b3 ∧ D ≤ g
  ne : b1 ≠ g ∧ b2 ≠ g ∧ b3 ≠ g
  lt : g < w.heap.size
section
variable {F : FuncId} {D L bl b1 b2 b3 g n : Nat} {pre : List Int} {w w' : World}
theorem LsSt.kept (h : LsSt F D L bl b1 b2 b3 g n pre w) (k : Kept D w w') : LsSt F D L bl b1 b2 b3 g n pre w' :=
  ⟨k.cell h.d.1 h.y, k.cell h.d.2.1 h.o, k.cell h.d.2.2.1 h.c, fun j hj => let ⟨x, hx⟩ := h.row j hj; ⟨x, k.cell h.d.2.2.2 hx⟩, fun j hj => k.cell h.d.2.2.2 (h.hd j hj), h.len, fun o => (World.frozen?_of_block (w := w) (k.2 g h.d.2.2.2 h.lt)).trans (h.fr o), h.d, h.ne, Nat.lt_of_lt_of_le h.lt k.1⟩
theorem LsSt.keptU {U : Nat} (h : LsSt F D L bl b1 b2 b3 g n pre w) (k : KeptU D U w w') (hu : b1 < U ∧ b2 < U ∧ b3 < U ∧ g < U) : LsSt F D L bl b1 b2 b3 g n pre w' :=
  ⟨k.cell h.d.1 hu.1 h.y, k.cell h.d.2.1 hu.2.1 h.o, k.cell h.d.2.2.1 hu.2.2.1 h.c, fun j hj => let ⟨x, hx⟩ := h.row j hj; ⟨x, k.cell h.d.2.2.2 hu.2.2.2 hx⟩, fun j hj => k.cell h.d.2.2.2 hu.2.2.2 (h.hd j hj), h.len, fun o => (World.frozen?_of_block (w := w) (k.2 g h.d.2.2.2 hu.2.2.2 h.lt)).trans (h.fr o), h.d, h.ne, Nat.lt_of_lt_of_le h.lt k.1⟩
theorem LsSt.ext (h : LsSt F D L bl b1 b2 b3 g n pre w) (hx : Ext w w') : LsSt F D L bl b1 b2 b3 g n pre w' := h.kept (Ext.kept hx D)
theorem LsSt.less {x : Int} (h : LsSt F D L bl b1 b2 b3 g n (pre ++ [x]) w) : LsSt F D L bl b1 b2 b3 g n pre w :=
  ⟨h.y, h.o, h.c, h.row, fun j hj => by
    have := h.hd j (by simp; omega); rw [List.getElem_append_left hj] at this; exact this, by have := h.len; simp at this; omega, h.fr, h.d, h.ne, h.lt⟩
theorem LsSt.set (h : LsSt F D L bl b1 b2 b3 g n pre w) (hl : pre.length < n) (x : Int) : LsSt F D L bl b1 b2 b3 g n (pre ++ [x]) (w.setCell ⟨g, pre.length, none⟩ (.int .i64 x)) := by
  obtain ⟨n1, n2, n3⟩ := h.ne; refine ⟨cell_ne (.inl n1) h.y, cell_ne (.inl n2) h.o, cell_ne (.inl n3) h.c, fun j hj => ?_, fun j hj => ?_, by simp; omega, fun o => by rw [World.frozen?_setCell]; exact h.fr o, h.d, h.ne, by rw [World.size_setCell]; exact h.lt⟩
  · obtain ⟨y, hy⟩ := h.row j hj; by_cases e : j = pre.length
    · subst e; exact ⟨_, World.cell?_setCell_same _ _ _ hy⟩
    · exact ⟨y, cell_ne (.inr e) hy⟩
  · by_cases e : j = pre.length
    · subst e; obtain ⟨y, hy⟩ := h.row _ hl; simp only [List.getElem_append_right (Nat.le_refl _), Nat.sub_self, List.getElem_cons_zero]; exact World.cell?_setCell_same _ _ _ hy
    · have hj' : j < pre.length := by simp at hj; omega
      rw [List.getElem_append_left hj']; exact cell_ne (.inr e) (h.hd j hj')
theorem LsSt.ints (h : LsSt F D L bl b1 b2 b3 g n pre w) (hl : pre.length = n) (hn : n ≤ 1000) (hp : ∀ x ∈ pre, 0 ≤ x ∧ x ≤ 1000) : IntsV w (.slice (some ⟨g, 0, none⟩) n n) pre := by
  subst hl; refine ⟨_, _, rfl, Nat.le_refl _, by omega, fun i hi => ⟨g, 0, rfl, ?_, ?_⟩⟩
  · rw [Nat.zero_add, Nat.mul_one]; exact h.hd i hi
  · have := hp _ (List.getElem_mem hi); omega
end
end Go.Hs
namespace Go.Proofs.YtegkdnfeceomdaaGreat
open Go.RowKit Go.Hs
attribute [local irreducible] World.setCell World.alloc
attribute [local go_sem] Oper.semAt_some
attribute [local simp] wide_fn wide_fn' wide_depth wide_round
attribute [local go_sem] wide_fn wide_fn' wide_depth wide_round
def ChQ (F : FuncId) (U D L bl b1 b2 b3 g n : Nat) (J : Nat → World → Prop) (Jx : World → Prop) (pre : List Int) (k' : Nat) (e : Ending) (w' : World) : Prop :=
  ∃ b, e = .returned (.bool b) ∧ (b = true → (J k' w' ∧ LsSt F D L bl b1 b2 b3 g n pre w') ∧ U ≤ w'.heap.size) ∧ (b = false → Jx w')
def YieldL (U D L : Nat) (ls : List (List Int)) (J : Nat → World → Prop) (Jx : World → Prop) : Prop := ∀ (k : Nat) (h : k < ls.length) (W1 : World) (v : Value), J k W1 → IntsV W1 v ls[k] → D ≤ W1.heap.size → U ≤ W1.heap.size →
    YieldAt Fence.wide 0 Tryz.prog L #[v] W1 fun e W2 => KeptU D U W1 W2 ∧ ((e = .returned (.bool true) ∧ J (k + 1) W2) ∨ (e = .returned (.bool false) ∧ Jx W2))
set_option maxRecDepth 100000 in
set_option maxHeartbeats 1000000 in
theorem choose_end (U D L bl b1 b2 b3 g qr : Nat) (ar : Option Addr) (rs : List (Int × Int)) (J : Nat → World → Prop) (Jx : World → Prop) (hK : ∀ i W1, J i W1 → RngB bl ar qr rs W1) (hY : YieldL U D L (allL rs) J Jx) (hgU : b1 < U ∧ b2 < U ∧ b3 < U ∧ g < U)
    (pre : List Int) (k : Nat) (W : World) (hUW : U ≤ W.heap.size) (hj : J k W) (hs : LsSt 174 D L bl b1 b2 b3 g rs.length pre W) (hl : pre.length = rs.length) (hn : rs.length ≤ 1000) (hp : ∀ x ∈ pre, 0 ≤ x ∧ x ≤ 1000) (hA : AtL rs k rs.length pre) :
    Calls Tryz.prog 174 #[.int .i64 rs.length, .pointer (some ⟨bl, 0, none⟩), .pointer (some ⟨b1, 0, none⟩), .pointer (some ⟨b2, 0, none⟩), .pointer (some ⟨b3, 0, none⟩)] W (ChQ 174 U D L bl b1 b2 b3 g rs.length J Jx pre (k + 1)) := by
  obtain ⟨hb, -⟩ := hK k W hj; have hi := hs.ints hl hn hp; have hat := hA 0 (by rw [List.drop_length]; decide); have hd0 : (allL (rs.drop rs.length)) = [[]] := by rw [List.drop_length]; rfl
  obtain ⟨hk, hke⟩ : ∃ h : k < (allL rs).length, (allL rs)[k] = pre := by
    have h1 : (allL (rs.drop rs.length))[0]'(by rw [hd0]; decide) = [] := (List.getElem_of_eq hd0 _).trans rfl; rw [h1, List.append_nil, Nat.add_zero] at hat; obtain ⟨h2, h3⟩ := List.getElem?_eq_some_iff.1 hat; exact ⟨h2, h3⟩
  have hy := hY k hk W (.slice (some ⟨g, 0, none⟩) rs.length rs.length) hj (by rw [hke]; exact hi) (by have := hs.d.2.2.2; have := hs.lt; omega) hUW; obtain ⟨fn, tmps, assign, body, hy, hrd⟩ := hy; have q1 := hs.y; have q2 := hs.o; have HS := Lib.hid hs; clear hs hi hat hd0 hke hA hK hY hp hl; refine Iff.mp (callsIn_wide (n := 0)) ?_
  gi_enter Tryz.func174, Tryz.ntmps174
  gi_wp2_with (first | ((with_reducible refine hrd.mono ?_); rintro e w2 ⟨hk2, ⟨rfl, hI2⟩ | ⟨rfl, hI2⟩⟩))
  · (gi_wp2_with fail); go_ret; exact ⟨true, rfl, fun _ => ⟨⟨hI2, HS.out.keptU hk2 hgU⟩, Nat.le_trans hUW hk2.1⟩, fun h => (by cases h)⟩
  · (gi_wp2_with fail); go_ret; exact ⟨false, rfl, fun h => (by cases h), fun _ => hI2⟩
def ChI (U D L bl b1 b2 b3 g : Nat) (rs : List (Int × Int)) (J : Nat → World → Prop) (Jx : World → Prop) (m : Nat) : Prop :=
  ∀ (iv : Int) (i k : Nat) (pre : List Int) (W : World), iv = i → i + m = rs.length → U ≤ W.heap.size → J k W → LsSt 174 D L bl b1 b2 b3 g rs.length pre W → pre.length = i → (∀ x ∈ pre, 0 ≤ x ∧ x ≤ 1000) → AtL rs k i pre →
    Calls Tryz.prog 174 #[.int .i64 iv, .pointer (some ⟨bl, 0, none⟩), .pointer (some ⟨b1, 0, none⟩), .pointer (some ⟨b2, 0, none⟩), .pointer (some ⟨b3, 0, none⟩)] W (ChQ 174 U D L bl b1 b2 b3 g rs.length J Jx pre (k + (allL (rs.drop i)).length))
set_option maxRecDepth 100000 in
set_option maxHeartbeats 4000000 in
theorem choose_more (U D L bl b1 b2 b3 g qr : Nat) (ar : Option Addr) (rs : List (Int × Int)) (J : Nat → World → Prop) (Jx : World → Prop) (hK : ∀ i W1, J i W1 → RngB bl ar qr rs W1) (hJ : ∀ i A B, J i A → BelR (fun _ => False) (fun _ => True) D U A B → J i B) (hgU : b1 < U ∧ b2 < U ∧ b3 < U ∧ g < U)
    (hR : ∀ r ∈ rs, 0 ≤ r.1 ∧ r.1 ≤ r.2 ∧ r.2 ≤ 1000) (hn : rs.length ≤ 1000) (m : Nat) (ih : ChI U D L bl b1 b2 b3 g rs J Jx m) : ChI U D L bl b1 b2 b3 g rs J Jx (m + 1) := by
  intro iv i k pre W hiv him hUW hj hs hl hp hA
  subst hiv; have hi : i < rs.length := by omega
  have HIH : Hid (∀ (iv : Int) (a k' : Nat) (W' : World), iv = (i : Int) + 1 → (a : Int) ≤ rs[i].2 - rs[i].1 → k' = k + a * (allL (rs.drop (i + 1))).length → U ≤ W'.heap.size → J k' W' → LsSt 174 D L bl b1 b2 b3 g rs.length (pre ++ [rs[i].1 + (a : Int)]) W' →
      Calls Tryz.prog 174 #[.int .i64 iv, .pointer (some ⟨bl, 0, none⟩), .pointer (some ⟨b1, 0, none⟩), .pointer (some ⟨b2, 0, none⟩), .pointer (some ⟨b3, 0, none⟩)] W' (ChQ 174 U D L bl b1 b2 b3 g rs.length J Jx (pre ++ [rs[i].1 + (a : Int)]) (k' + (allL (rs.drop (i + 1))).length))) :=
    Lib.hid (fun iv a k' W' h1 h2 h3 h0 h4 h5 => by
      have hr := hR _ (List.getElem_mem hi); subst h3
      exact ih iv (i + 1) _ _ W' (by omega) (by omega) h0 h4 h5 (by simp; omega) (fun x hx => by
        rcases List.mem_append.1 hx with h | h
        · exact hp x h
        · have : x = rs[i].1 + (a : Int) := by simpa using h
          omega) (atL_next hA hi (by omega)))
  have HTOT : Hid (∀ n : Nat, rs[i].2 - rs[i].1 + 1 = (n : Int) → (allL (rs.drop i)).length = n * (allL (rs.drop (i + 1))).length) := Lib.hid (fun n hn => by
    have e : rs.drop i = rs[i] :: rs.drop (i + 1) := List.drop_eq_getElem_cons hi; rw [e, allL_len, hn]; simp)
  have HK : Hid (∀ j W1, J j W1 → W1.cell? ⟨bl, 0, none⟩ = some (.slice ar rs.length qr) ∧ ∃ gr, ar = some ⟨gr, 0, none⟩ ∧ W1.cell? ⟨gr, i * 2, none⟩ = some (.int .i64 rs[i].1) ∧ W1.cell? ⟨gr, i * 2 + 1, none⟩ = some (.int .i64 rs[i].2)) := Lib.hid (fun j W1 h => ⟨(hK j W1 h).1, (hK j W1 h).2 i hi⟩); have hr := hR _ (List.getElem_mem hi); have HSZ := Lib.hid (fun W => size_d rs[i].1 rs[i].2 ⟨hr.1, hr.2.1, hr.2.2⟩ W); have HJ := Lib.hid hJ; obtain ⟨N, hN⟩ : ∃ N : Nat, rs[i].2 - rs[i].1 + 1 = (N : Int) := ⟨(rs[i].2 - rs[i].1 + 1).toNat, by omega⟩; have HT := Lib.hid (HTOT.out N hN); rw [hN] at HSZ; have HN := Lib.hid hN; generalize (allL (rs.drop i)).length = tot at *; generalize (allL (rs.drop (i + 1))).length = c at *; generalize rs[i].1 = lo at *; generalize rs[i].2 = hi' at *; have hlo : 0 ≤ lo ∧ lo ≤ 1000 := by omega
  have hNn : N ≤ 1001 := by omega
  have HS := Lib.hid hs; have HL := Lib.hid hl; obtain ⟨hb, gr, rfl, m0, m1⟩ := HK.out k W hj; have hk0 : (0 : Int) ≤ (i : Int) := by omega
  have hk1 : (i : Int) < (rs.length : Int) := by omega
  have hne : ((i : Int) == (rs.length : Int)) = false := by rw [beq_eq_false_iff_ne]; omega
  have hne' : ¬ (i : Int) = (rs.length : Int) := by omega
  have hDW : D ≤ W.heap.size := by have := hs.d.2.2.2; have := hs.lt; omega
  clear HTOT hr hN hA hp hl hs ih hK hJ hR him; go_enter Tryz.func174, Tryz.ntmps174
  (go_wp2_with fail); (with_reducible refine (HSZ.out _).mono ?_); rintro e w1 ⟨rfl, hx1⟩; have HJ1 := Lib.hid (HJ.out k W w1 hj (ext_toR hx1 inv_none (fun _ h => h.elim))); have hUW1 : U ≤ w1.heap.size := Nat.le_trans hUW hx1.size; have HS1 := Lib.hid (HS.out.ext hx1); clear hb m0 m1 hj HS; (go_wp2_with fail); go_loopw [20] (fun s20 wr => ∃ a : Nat, a ≤ N ∧ s20 = .int .i64 a ∧ U ≤ wr.heap.size ∧ Hid (J (k + a * c) wr) ∧ Hid (LsSt 174 D L bl b1 b2 b3 g rs.length pre wr)) (fun s _ => N - (intOf s).toNat)
  case atStart => exact ⟨0, Nat.zero_le _, rfl, hUW1, Lib.hid (by rw [Nat.zero_mul]; exact HJ1.out), HS1⟩
  case round =>
    obtain ⟨a, ha, rfl, hUo, HJa, HSa⟩ := hrel; obtain ⟨wo, rfl⟩ : ∃ x, x = wr := ⟨_, rfl⟩; by_cases hlt : a < N
    · obtain ⟨hb, gr', ee, m0, -⟩ := HK.out _ wo HJa.out; cases ee
      have q2 := HSa.out.o; have q3 := HSa.out.c; have nn := HSa.out.ne; obtain ⟨y, hy⟩ := HSa.out.row i (by omega); have fr := HSa.out.fr; have hw : IntKind.i64.wrap (lo + (a : Int)) = lo + (a : Int) := IntWalk.i64_in _ (by omega); have hw2 : IntKind.i64.wrap ((i : Int) + 1) = (i : Int) + 1 := IntWalk.i64_in _ (by omega); have hDg := HSa.out.d.2.2.2; have XB : BelR (fun _ => False) (fun _ => True) D U wo (wo.setCell ⟨g, i, none⟩ (.int .i64 (lo + (a : Int)))) := belR_set inv_none (fun _ h => h.elim) hDg hgU.2.2.2
      have HJ6 : Hid (∀ V, V = (wo.setCell ⟨g, i, none⟩ (.int .i64 (lo + (a : Int)))).drew → (J (k + a * c) V ∧ LsSt 174 D L bl b1 b2 b3 g rs.length (pre ++ [lo + (a : Int)]) V) ∧ U ≤ V.heap.size) := Lib.hid (fun V hV => by
        subst hV; refine ⟨⟨HJ.out _ _ _ HJa.out (XB.trans (ext_toR ((Ext.refl _).drew) inv_none (fun _ h => h.elim))), ?_⟩, by show U ≤ (wo.setCell _ _).heap.size; rw [World.size_setCell]; exact hUo⟩
        have := HSa.out.set (by rw [HL.out]; exact hi) (lo + (a : Int)); rw [HL.out] at this; exact this.ext (Ext.refl _).drew)
      clear HJa HSa XB hDg HK; (go_wp2_with fail); go_region; obtain ⟨⟨hj6, hs6⟩, hU6⟩ := HJ6.out _ rfl; generalize (wo.setCell ⟨g, i, none⟩ (.int .i64 (lo + (a : Int)))).drew = W6 at *; clear HJ6 q2 q3 hy fr hb m0; have q3 := hs6.c; have HJ7 := Lib.hid hj6; have HS7 := Lib.hid hs6; clear hj6 hs6; (go_wp2_with fail); (with_reducible refine (HIH.out _ a _ _ rfl (by have := HN.out; omega) rfl hU6 HJ7.out HS7.out).mono ?_); rintro e w7 ⟨b, rfl, hbt, hbf⟩; cases b with
      | true =>
        obtain ⟨⟨hj7, hs7⟩, hU7⟩ := hbt rfl; have HJ8 : Hid (J (k + (a + 1) * c) w7) := Lib.hid (by rw [Nat.succ_mul, ← Nat.add_assoc]; exact hj7); have HS8 := Lib.hid hs7.less; clear hbt hbf hj7 hs7; (go_wp2_with fail); go_roundw
        case rel => exact ⟨a + 1, by omega, by go_num, hU7, HJ8, HS8⟩
        case measure => simp [intOf]; omega
      | false =>
        have HF := Lib.hid (hbf rfl); clear hbt hbf; (go_wp2_with fail); go_ret; exact ⟨false, rfl, fun h => (by cases h), fun _ => HF.out⟩
    · obtain rfl : a = N := by omega
      (go_wp2_with fail); go_ret; exact ⟨true, rfl, fun _ => ⟨⟨by rw [HT.out]; exact HJa.out, HSa.out⟩, hUo⟩, fun h => (by cases h)⟩
theorem choose_all (U D L bl b1 b2 b3 g qr : Nat) (ar : Option Addr) (rs : List (Int × Int)) (J : Nat → World → Prop) (Jx : World → Prop) (hK : ∀ i W1, J i W1 → RngB bl ar qr rs W1) (hJ : ∀ i A B, J i A → BelR (fun _ => False) (fun _ => True) D U A B → J i B) (hgU : b1 < U ∧ b2 < U ∧ b3 < U ∧ g < U)
    (hY : YieldL U D L (allL rs) J Jx) (hR : ∀ r ∈ rs, 0 ≤ r.1 ∧ r.1 ≤ r.2 ∧ r.2 ≤ 1000) (hn : rs.length ≤ 1000) : ∀ m, ChI U D L bl b1 b2 b3 g rs J Jx m
  | 0 => by
    intro iv i k pre W hiv him hUW hj hs hl hp hA
    obtain rfl : i = rs.length := by omega
    subst hiv; have e : (allL (rs.drop rs.length)).length = 1 := by rw [List.drop_length]; rfl
    rw [e]; exact choose_end U D L bl b1 b2 b3 g qr ar rs J Jx hK hY hgU pre k W hUW hj hs hl hn hp hA
  | m + 1 => choose_more U D L bl b1 b2 b3 g qr ar rs J Jx hK hJ hgU hR hn m (choose_all U D L bl b1 b2 b3 g qr ar rs J Jx hK hJ hgU hY hR hn m)
theorem fn_lists1 : FnOK 173 := fun args w => by simp [go_sem]
def ArgL (ls : List (List Int)) (i : Nat) (as' : Array Value) (w : World) : Prop := ∃ v, as' = #[v] ∧ ∃ h : i < ls.length, IntsV w v ls[i]
set_option maxRecDepth 100000 in
set_option maxHeartbeats 4000000 in
theorem lists_givesU (bl qr : Nat) (ar : Option Addr) (rs : List (Int × Int)) (hR : ∀ r ∈ rs, 0 ≤ r.1 ∧ r.1 ≤ r.2 ∧ r.2 ≤ 1000) (hn : rs.length ≤ 1000) :
    GivesU (fun _ => False) (fun _ => True) 173 #[.pointer (some ⟨bl, 0, none⟩)] (allL rs).length (fun _ => ArgL (allL rs)) (RngB bl ar qr rs) := by
  intro L J Jx W _ hK hJ hJx hY h0
  have hY' : ∀ U, W.heap.size ≤ U → YieldL U W.heap.size L (allL rs) (J U) (Jx U) := fun U hU k h W1 v hj hv hs hUW => hY U k h W1 #[v] hU hUW hj ⟨v, rfl, h, hv⟩
  have HCH := Lib.hid (fun U hU b1 b2 b3 g hg => choose_all U W.heap.size L bl b1 b2 b3 g qr ar rs (J U) (Jx U) (hK U) (fun i A B h hb => hJ U i A B hU h hb) hg (hY' U hU) hR hn rs.length); obtain ⟨hb, -⟩ := hK W.heap.size 0 W (h0 _ (Nat.le_refl _)); have HJ := Lib.hid hJ; have H0 := Lib.hid h0; obtain ⟨i0, hi0, hz0, hz1, hz2⟩ := info_parts info_int; obtain ⟨M, hM⟩ : ∃ M, M = madeCells (Value.int .i64 0).cells ((rs.length : Int).toNat * i0.size) := ⟨_, rfl⟩; have hMs : M.size = rs.length := by rw [hM, size_madeCells, hz1, Nat.mul_one]; rfl
  have hmk : ∀ W : World, (Instr.makeSlice 22 (.int .i64 rs.length) (.int .i64 rs.length)).run Tryz.prog W = .ok (.slice (some ⟨W.heap.size, 0, none⟩) rs.length rs.length) (W.alloc (.cells M 3)) := fun W => by
    have h := run_makeSlice (P := Tryz.prog) W 22 3 i0 (.int .i64 0) Tryz.underlying22 hi0 hz0 .i64 .i64 (rs.length : Int) rs.length (by omega) (Int.le_refl _) (by rw [hz1]; omega) (by rw [hz2]; omega) (by omega); rw [← hM] at h; simpa using h
  have HMS := Lib.hid hMs; clear hM hY hY' hJ hK hJx h0 hMs; have hbl : bl < W.heap.size := lt_of_cell hb; have hbl' : ¬ bl = W.heap.size := by omega
  refine Iff.mpr (callsIn_wide (n := 0)) ?_
  simp only [List.append_toArray, List.cons_append, List.nil_append]; go_enter Tryz.func173, Tryz.ntmps173
  (go_wp2_with fail); have X : Ext W ((((W.alloc (.cells #[.func (.yield L) #[] #[]] 171)).alloc (.cells M 3)).alloc (.cells #[.slice (some ⟨W.heap.size + 1, 0, none⟩) rs.length rs.length] 22)).alloc (.cells #[.func (.func 174) #[] #[.pointer (some ⟨bl, 0, none⟩), .pointer (some ⟨W.heap.size, 0, none⟩), .pointer (some ⟨W.heap.size + 1 + 1, 0, none⟩), .pointer (some ⟨W.heap.size + 1 + 1 + 1, 0, none⟩)]] 131)) := by (repeat (first | exact Ext.refl _ | with_reducible (first | assumption | refine Ext.drew ?_ | refine Ext.alloc ?_ _ | refine Ext.drewN ?_ _ | refine Ext.setCell ?_ (by omega) _ | refine Ext.trans ?_ (by assumption))))
  have ST : LsSt 174 W.heap.size L bl W.heap.size (W.heap.size + 1 + 1) (W.heap.size + 1 + 1 + 1) (W.heap.size + 1) rs.length [] ((((W.alloc (.cells #[.func (.yield L) #[] #[]] 171)).alloc (.cells M 3)).alloc (.cells #[.slice (some ⟨W.heap.size + 1, 0, none⟩) rs.length rs.length] 22)).alloc (.cells #[.func (.func 174) #[] #[.pointer (some ⟨bl, 0, none⟩), .pointer (some ⟨W.heap.size, 0, none⟩), .pointer (some ⟨W.heap.size + 1 + 1, 0, none⟩), .pointer (some ⟨W.heap.size + 1 + 1 + 1, 0, none⟩)]] 131)) := by
    refine ⟨by simp [go_sem], by simp [go_sem], by simp [go_sem], fun j hj => ⟨M[j]'(by rw [HMS.out]; exact hj), ?_⟩, fun j hj => absurd hj (Nat.not_lt_zero _), Nat.zero_le _, fun o => by simp [go_sem], ⟨by omega, by omega, by omega, by omega⟩, ⟨by omega, by omega, by omega⟩, by simp⟩
    have hj2 : j < M.size := by rw [HMS.out]; exact hj
    simp [go_sem, hj2]
  have hVz : ((((W.alloc (.cells #[.func (.yield L) #[] #[]] 171)).alloc (.cells M 3)).alloc (.cells #[.slice (some ⟨W.heap.size + 1, 0, none⟩) rs.length rs.length] 22)).alloc (.cells #[.func (.func 174) #[] #[.pointer (some ⟨bl, 0, none⟩), .pointer (some ⟨W.heap.size, 0, none⟩), .pointer (some ⟨W.heap.size + 1 + 1, 0, none⟩), .pointer (some ⟨W.heap.size + 1 + 1 + 1, 0, none⟩)]] 131)).heap.size = W.heap.size + 4 := by simp
  generalize ((((W.alloc (.cells #[.func (.yield L) #[] #[]] 171)).alloc (.cells M 3)).alloc (.cells #[.slice (some ⟨W.heap.size + 1, 0, none⟩) rs.length rs.length] 22)).alloc (.cells #[.func (.func 174) #[] #[.pointer (some ⟨bl, 0, none⟩), .pointer (some ⟨W.heap.size, 0, none⟩), .pointer (some ⟨W.heap.size + 1 + 1, 0, none⟩), .pointer (some ⟨W.heap.size + 1 + 1 + 1, 0, none⟩)]] 131)) = V at *; have hc := HCH.out (W.heap.size + 4) (by omega) W.heap.size (W.heap.size + 1 + 1) (W.heap.size + 1 + 1 + 1) (W.heap.size + 1) (by omega); unfold ChI at hc; have hj0 : J (W.heap.size + 4) 0 V := HJ.out _ 0 W V (by omega) (H0.out _ (by omega)) (ext_toR X inv_none (fun _ h => h.elim)); have hUV : W.heap.size + 4 ≤ V.heap.size := by omega
  have hnil : ∀ x ∈ ([] : List Int), 0 ≤ x ∧ x ≤ 1000 := fun x hx => by cases hx
  (with_reducible refine (hc 0 0 0 [] V rfl (by omega) hUV hj0 ST rfl hnil (atL_zero rs)).mono ?_); rintro e w7 ⟨b, rfl, hbt, hbf⟩
  have HF : Hid (J (W.heap.size + 4) (allL rs).length w7 ∨ Jx (W.heap.size + 4) w7) := Lib.hid (by
    cases b with
    | true => exact .inl (by have := (hbt rfl).1.1; rwa [Nat.zero_add, List.drop_zero] at this)
    | false => exact .inr (hbf rfl))
  clear hbt hbf ST; (go_wp2_with fail); go_end0
  exact ⟨⟨_, rfl⟩, W.heap.size + 4, by omega, HF.out⟩
end Go.Proofs.YtegkdnfeceomdaaGreat
/- Contracts of layer 8: the truth that has the numbers of a list. -/
namespace Go.Hs
open Go.RowKit
def TruV (w : World) (v : Value) (t : DTr) : Prop := ∃ vd vs vst, v = .agg #[vd, vs, vst, .int .i64 t.loss] ∧ IntsV w vd t.days ∧ IntsV w vs t.sown ∧ IntsV w vst t.starts
theorem TruV.ext {w w' : World} {v : Value} {t : DTr} (h : TruV w v t) (hx : Ext w w') : TruV w' v t := let ⟨a, b, c, e, h1, h2, h3⟩ := h; ⟨a, b, c, e, h1.ext hx, h2.ext hx, h3.ext hx⟩
def TruB (U : Nat) (v : Value) : Prop := ∃ ad nd cd as' ns cs at' nt ct lo, v = .agg #[.slice ad nd cd, .slice as' ns cs, .slice at' nt ct, .int .i64 lo] ∧ (∀ b o, ad = some ⟨b, o, none⟩ → U ≤ b) ∧ (∀ b o, as' = some ⟨b, o, none⟩ → U ≤ b) ∧ (∀ b o, at' = some ⟨b, o, none⟩ → U ≤ b)
theorem TruB.mono {U V : Nat} {v : Value} (h : TruB U v) (hV : V ≤ U) : TruB V v :=
  let ⟨ad, nd, cd, as', ns, cs, at', nt, ct, lo, e, h1, h2, h3⟩ := h
  ⟨ad, nd, cd, as', ns, cs, at', nt, ct, lo, e, fun b o k => Nat.le_trans hV (h1 b o k), fun b o k => Nat.le_trans hV (h2 b o k), fun b o k => Nat.le_trans hV (h3 b o k)⟩
theorem slice_ints {w : World} {g n q lo hi : Nat} {X : Option Addr} {l : List Int} (hl : l.length = n) (hb : ∀ x ∈ l, i64ok x) (hn : n ≤ 1000) (hc : ∀ j (h : j < l.length), w.cell? ⟨g, j, none⟩ = some (.int .i64 l[j])) (h1 : lo ≤ hi) (h2 : hi ≤ n) (hq : hi - lo ≤ q) (hX : lo < hi → X = some ⟨g, lo, none⟩) : IntsV w (.slice X (hi - lo) q) ((l.drop lo).take (hi - lo)) := by
  have hlen : ((l.drop lo).take (hi - lo)).length = hi - lo := by simp; omega
  refine ⟨X, q, by rw [hlen], by rw [hlen]; exact hq, by rw [hlen]; omega, fun i hi' => ?_⟩
  rw [hlen] at hi'; have e : ((l.drop lo).take (hi - lo))[i]'(by rw [hlen]; exact hi') = l[lo + i]'(by omega) := by simp
  refine ⟨g, lo, hX (by omega), ?_, ?_⟩
  · rw [Nat.mul_one, e]; exact hc _ _
  · rw [e]; exact hb _ (List.getElem_mem _)
end Go.Hs
namespace Go.Proofs.YtegkdnfeceomdaaGreat
open Go.RowKit Go.Hs
attribute [local irreducible] World.setCell World.alloc
theorem run_slice_low {g n q hi mx : Nat} (h1 : hi ≤ mx) (h2 : mx ≤ q) : ∀ w, (Instr.slice 22 (.slice (some ⟨g, 0, none⟩) n q) none (some (.int .i64 hi)) (some (.int .i64 mx))).run Tryz.prog w = .ok (.slice (some ⟨g, 0, none⟩) hi mx) w := by
  intro w
  have a1 : (0 : Int) ≤ (hi : Int) ∧ (hi : Int) ≤ (mx : Int) := by omega
  have a2 : (0 : Int) ≤ (mx : Int) ∧ (mx : Int) ≤ (q : Int) := by omega
  simp [Instr.slice, Instr.sliceBounds, Instr.sliceBound, asIntOf, run_underlying Tryz.underlying22, h1, h2, Addr.add_lit]
theorem run_slice_mid {g n q lo hi mx : Nat} (h0 : lo ≤ hi) (h1 : hi ≤ mx) (h2 : mx ≤ q) : ∃ X, ((lo < hi → X = some ⟨g, lo, none⟩) ∧ ∃ o, X = some ⟨g, o, none⟩) ∧ ∀ w, (Instr.slice 22 (.slice (some ⟨g, 0, none⟩) n q) (some (.int .i64 lo)) (some (.int .i64 hi)) (some (.int .i64 mx))).run Tryz.prog w = .ok (.slice X (hi - lo) (mx - lo)) w := by
  refine ⟨if mx = lo then some ⟨g, 0, none⟩ else some ⟨g, lo, none⟩, ⟨fun h => if_neg (by omega), by split <;> exact ⟨_, rfl⟩⟩, fun w => ?_⟩
  have hz := Tryz.sizeOf3; have a0 : lo ≤ mx := by omega
  by_cases hm : mx = lo
  · subst hm; simp [Instr.slice, Instr.sliceBounds, Instr.sliceBound, asIntOf, run_underlying Tryz.underlying22, h0, h1, h2, hz]
  · simp [Instr.slice, Instr.sliceBounds, Instr.sliceBound, asIntOf, run_underlying Tryz.underlying22, h0, h1, h2, hz, hm, Addr.add_lit]
set_option maxRecDepth 100000 in
set_option maxHeartbeats 4000000 in
theorem truth_d (A : CaseA) (c : DCas) (l : List Int) (v : Value) (w : World) (hv : IntsV w v l) (hl : l.length = c.bk.ents.length + c.bk.pars.length + c.covs.length + 1) (h1 : c.bk.ents.length ≤ 100) (h2 : c.bk.pars.length ≤ 100) (h3 : c.covs.length ≤ 100) :
    Calls Tryz.prog 148 #[A.v c, v] w fun e w' => ∃ t, e = .returned t ∧ TruV w' t (truD c l) ∧ TruB w.heap.size t ∧ Ext w w' := by
  have HCL := Lib.hid (fun W (hx : Ext w W) => clone_x v l W (hv.ext hx) (by omega))
  have hok : ∀ x ∈ l, i64ok x := by
    obtain ⟨a, k, rfl, -, -, hr⟩ := hv; intro x hx
    obtain ⟨i, hi, rfl⟩ := List.getElem_of_mem hx; obtain ⟨b, o, -, h⟩ := hr i hi; exact h.2
  have HOK := Lib.hid hok; have HTR : Hid (truD c l = ⟨l.take c.bk.ents.length, (l.drop c.bk.ents.length).take c.bk.pars.length, (l.drop (c.bk.ents.length + c.bk.pars.length)).take c.covs.length, l.getD (c.bk.ents.length + c.bk.pars.length + c.covs.length) 0⟩) := rfl; have HL := Lib.hid hl; clear hv hok hl; generalize truD c l = tt at *; unfold CaseA.v caseV at *; obtain ⟨a1, c1, a2, c2, a3, c3, a4, c4⟩ := A; simp only at *; generalize c.bk.pars.length = n1 at *; generalize c.bk.ents.length = n2 at *; generalize c.covs.length = n3 at *; generalize c.clms.length = n4 at *; generalize c.bk.last = last at *; generalize c.bk.owners = owners at *; generalize c.soc = soc at *; generalize c.day = day at *; generalize c.parcel = parcel at *; generalize c.llo = llo at *; generalize c.lhi = lhi at *; go_enter Tryz.func148, Tryz.ntmps148
  (go_wp2_with fail); obtain ⟨W, hW⟩ : ∃ W, W = ((w.alloc (.cells #[.int .i64 last, .int .i64 owners, .slice a1 n1 c1, .slice a2 n2 c2, .int .i64 soc, .int .i64 day, .int .i64 parcel, .slice a3 n3 c3, .int .i64 llo, .int .i64 lhi, .slice a4 n4 c4] 57)).alloc (.cells #[.slice none 0 0, .slice none 0 0, .slice none 0 0, .int .i64 0] 61)) := ⟨_, rfl⟩; have X : Ext w W := by subst hW; (repeat (first | exact Ext.refl _ | with_reducible (first | assumption | refine Ext.drew ?_ | refine Ext.alloc ?_ _ | refine Ext.drewN ?_ _ | refine Ext.setCell ?_ (by omega) _ | refine Ext.trans ?_ (by assumption))))
  have HS : Hid (∀ w', Ext W w' → (w'.cell? ⟨w.heap.size, 0, none⟩ = some (.int .i64 last) ∧ w'.cell? ⟨w.heap.size, 1, none⟩ = some (.int .i64 owners) ∧ w'.cell? ⟨w.heap.size, 2, none⟩ = some (.slice a1 n1 c1) ∧ w'.cell? ⟨w.heap.size, 3, none⟩ = some (.slice a2 n2 c2) ∧ w'.cell? ⟨w.heap.size, 4, none⟩ = some (.int .i64 soc) ∧ w'.cell? ⟨w.heap.size, 5, none⟩ = some (.int .i64 day) ∧ w'.cell? ⟨w.heap.size, 6, none⟩ = some (.int .i64 parcel) ∧ w'.cell? ⟨w.heap.size, 7, none⟩ = some (.slice a3 n3 c3) ∧ w'.cell? ⟨w.heap.size, 8, none⟩ = some (.int .i64 llo) ∧ w'.cell? ⟨w.heap.size, 9, none⟩ = some (.int .i64 lhi) ∧ w'.cell? ⟨w.heap.size, 10, none⟩ = some (.slice a4 n4 c4) ∧ w'.cell? ⟨w.heap.size + 1, 0, none⟩ = some (.slice none 0 0) ∧ w'.cell? ⟨w.heap.size + 1, 1, none⟩ = some (.slice none 0 0) ∧ w'.cell? ⟨w.heap.size + 1, 2, none⟩ = some (.slice none 0 0) ∧ w'.cell? ⟨w.heap.size + 1, 3, none⟩ = some (.int .i64 0)) ∧ Ext W w') := Lib.hid (fun w' hx => ⟨⟨hx.keep (by subst hW; simp [go_sem]), hx.keep (by subst hW; simp [go_sem]), hx.keep (by subst hW; simp [go_sem]), hx.keep (by subst hW; simp [go_sem]), hx.keep (by subst hW; simp [go_sem]), hx.keep (by subst hW; simp [go_sem]), hx.keep (by subst hW; simp [go_sem]), hx.keep (by subst hW; simp [go_sem]), hx.keep (by subst hW; simp [go_sem]), hx.keep (by subst hW; simp [go_sem]), hx.keep (by subst hW; simp [go_sem]), hx.keep (by subst hW; simp [go_sem]), hx.keep (by subst hW; simp [go_sem]), hx.keep (by subst hW; simp [go_sem]), hx.keep (by subst hW; simp [go_sem])⟩, hx⟩); have HSf : Hid (∀ w', Ext W w' → ∀ o, w'.frozen? ⟨w.heap.size + 1, o, none⟩ = false) := Lib.hid (fun w' hx o => (hx.frozen (by subst hW; simp)).trans (by subst hW; simp [go_sem])); have HSz : w.heap.size + 1 + 1 ≤ W.heap.size := by subst hW; simp
  rw [← hW]; clear hW; (with_reducible refine (HCL.out _ X).mono ?_); rintro e w1 ⟨v1, rfl, hown, hx1⟩; obtain ⟨⟨-, -, q2, q3, -, -, -, q7, -, -, -, t0, t1, t2, t3⟩, -⟩ := HS.out w1 hx1; have tf := HSf.out w1 hx1; have X1 := X.trans hx1; have hz1 := hx1.size; clear HS HSf HCL; have hlen := HL.out; rcases own_open hown with ⟨-, h0⟩ | ⟨g, q, rfl, hB, hg, hq, hc⟩
  · omega
  · have HC : Hid (∀ j (h : j < l.length), w1.cell? ⟨g, j, none⟩ = some (.int .i64 l[j])) := Lib.hid (fun j h => hc j _ (by simp [h])); have hlast := HC.out (n2 + n1 + n3) (by omega)
    have eg : l.getD (n2 + n1 + n3) 0 = l[n2 + n1 + n3]'(by omega) := by
      have : n2 + n1 + n3 < l.length := by omega
      simp [this]
    have hq1 : n2 + n1 + n3 < q := by omega
    have hsA := run_slice_low (g := g) (n := l.length) (q := q) (hi := n2) (mx := n2) (Nat.le_refl _) (by omega); obtain ⟨XB, ⟨hXB, oB, hoB⟩, hsB⟩ := run_slice_mid (g := g) (n := l.length) (q := q) (lo := n2) (hi := n2 + n1) (mx := n2 + n1) (by omega) (Nat.le_refl _) (by omega); obtain ⟨XC, ⟨hXC, oC, hoC⟩, hsC⟩ := run_slice_mid (g := g) (n := l.length) (q := q) (lo := n2 + n1) (hi := n2 + n1 + n3) (mx := n2 + n1 + n3) (by omega) (Nat.le_refl _) (by omega); have eB : n2 + n1 - n2 = n1 := by omega
    have eC : n2 + n1 + n3 - (n2 + n1) = n3 := by omega
    rw [eB] at hsB; rw [eC] at hsC
    have HEQ : Hid (∀ V : World, (∀ j (h : j < l.length), V.cell? ⟨g, j, none⟩ = some (.int .i64 l[j])) → TruV V (.agg #[.slice (some ⟨g, 0, none⟩) n2 n2, .slice XB n1 n1, .slice XC n3 n3, .int .i64 (l[n2 + n1 + n3]'(by omega))]) tt) := Lib.hid (fun V hV => by
      have sA := slice_ints (w := V) (g := g) (n := l.length) (q := n2) (lo := 0) (hi := n2) (X := some ⟨g, 0, none⟩) rfl HOK.out (by omega) hV (by omega) (by omega) (by omega) (fun _ => rfl); have sB := slice_ints (w := V) (g := g) (n := l.length) (q := n1) (lo := n2) (hi := n2 + n1) (X := XB) rfl HOK.out (by omega) hV (by omega) (by omega) (by omega) hXB; have sC := slice_ints (w := V) (g := g) (n := l.length) (q := n3) (lo := n2 + n1) (hi := n2 + n1 + n3) (X := XC) rfl HOK.out (by omega) hV (by omega) (by omega) (by omega) hXC; rw [eB] at sB; rw [eC] at sC; rw [HTR.out, ← eg]; exact ⟨_, _, _, rfl, by simpa using sA, sB, sC⟩)
    generalize l[n2 + n1 + n3]'(by omega) = la at *; have hgw : w.heap.size ≤ g := by have := X.size; omega
    have HTB : Hid (TruB w.heap.size (.agg #[.slice (some ⟨g, 0, none⟩) n2 n2, .slice XB n1 n1, .slice XC n3 n3, .int .i64 la])) := Lib.hid ⟨_, _, _, _, _, _, _, _, _, _, rfl, fun b o e => by cases e; exact hgw, fun b o e => by rw [hoB] at e; cases e; exact hgw, fun b o e => by rw [hoC] at e; cases e; exact hgw⟩; clear hoB hoC hgw; have w1' : IntKind.i64.wrap ((n2 : Int) + n1) = (n2 : Int) + n1 := IntWalk.i64_in _ (by omega); have w2' : IntKind.i64.wrap ((n2 : Int) + n1 + n3) = (n2 : Int) + n1 + n3 := IntWalk.i64_in _ (by omega); have k0 : (0 : Int) ≤ (n2 : Int) + n1 + n3 := by omega
    have k1 : (n2 : Int) + n1 + n3 < (l.length : Int) := by omega
    have k2 : ((n2 : Int) + n1 + n3).toNat = n2 + n1 + n3 := by omega
    rw [show (((n2 + n1 : Nat)) : Int) = (n2 : Int) + n1 by omega] at hsB hsC; rw [show (((n2 + n1 + n3 : Nat)) : Int) = (n2 : Int) + n1 + n3 by omega] at hsC; clear hown hc hXB hXC eg eB eC hlen hq1; (go_wp2_with fail); go_region; (go_wp2_with fail); refine bodyPost_ret (v := .agg #[.slice (some ⟨g, 0, none⟩) n2 n2, .slice XB n1 n1, .slice XC n3 n3, .int .i64 la]) (by simp [results, Tryz.results148, go_sem, t0, t1, t2, t3]) rfl ⟨_, rfl, HEQ.out _ (fun j h => ?_), HTB.out, ?_⟩
    · have hne : g ≠ w.heap.size + 1 := by omega
      exact (Ext.refl _).drew.keep (cell_ne (.inl hne) (cell_ne (.inl hne) (cell_ne (.inl hne) (cell_ne (.inl hne) (HC.out j h)))))
    · exact ((((X1.setCell (by omega) _).setCell (by omega) _).setCell (by omega) _).setCell (by omega) _).drew
end Go.Proofs.YtegkdnfeceomdaaGreat
