/- Rows of bounds that are read; what the program's Bounds returns. Printed by gen_wb.py. -/
import Derived.Test.YtegkdnfeceomdaaGreatKDB1
import Derived.Test.YtegkdnfeceomdaaGreatKDA27
set_option maxRecDepth 100000
set_option maxHeartbeats 16000000
set_option linter.unusedSimpArgs false
set_option linter.unusedVariables false
namespace Go.Hs
open Go.RowKit Go.Proofs.YtegkdnfeceomdaaGreat
def RowB (g n:Nat) (u:Nat→Bd4) (w:World):Prop:=∀i,i<n→Cell4 w g (i*4) (u i).c
theorem RowB.ext {g n:Nat} {u:Nat→Bd4} {w W:World} (h:RowB g n u w) (x:Ext w W):RowB g n u W:=fun i hi=>(h i hi).ext x
theorem RowB.box {g n T:Nat} {u:Nat→Bd4} {w:World} {x y:Value} (h:RowB g n u w) (hg:g≠T):RowB g n u ((w.setCell ⟨T,0,none⟩ x).setCell ⟨T,1,none⟩ y):=fun i hi=>by
 obtain⟨h0,h1,h2,h3⟩:=h i hi;exact⟨cell_ne (.inl hg) (cell_ne (.inl hg) h0),cell_ne (.inl hg) (cell_ne (.inl hg) h1),cell_ne (.inl hg) (cell_ne (.inl hg) h2),cell_ne (.inl hg) (cell_ne (.inl hg) h3)⟩
theorem RowB.of {c:DCas} {w W:World} {e n q:Nat} {a:Option Addr} (h:Hs.Own 4 bndC W.heap.size e w (.slice a n q) (bndsD c n)) (hn:0<n):∃g,a=some ⟨g,0,none⟩∧RowB g n (bd4 c) w:=by
 have hl:(bndsD c n).length=n:=bndsD_len c n;have hat:=fun i (hi:i<n)=>Hs.Own.at (C:=bndC) (k:=4) (fun x=>rfl) h (i:=i) (by rw [hl];exact hi)
 obtain⟨g,rfl,-,-,-⟩:=hat 0 hn;refine⟨g,rfl,fun i hi=> ?_⟩
 obtain⟨g',e',-,-,h0⟩:=hat i hi;cases e'
 have hx:(bndsD c n)[i]'(by rw [hl];exact hi)=bnd1 c i:=by simp [bndsD]
 rw [hx] at h0;exact⟨h0 0 _ rfl,h0 1 _ rfl,h0 2 _ rfl,h0 3 _ rfl⟩
theorem bnd_ask {c:DCas} (h:bndE c=0):askD c true=0∧caseD c=0∧(truthsD c []).isEmpty=false:=by
 unfold bndE at h;split at h
 ·rename_i h1;exact absurd h h1
 ·rename_i h1
  have ha:askD c true=0:=by simpa using h1
  split at h
  ·cases h
  ·rename_i h2
   exact⟨ha,(askD_zero ha).1,by simpa using h2⟩
end Go.Hs
namespace Go.Proofs.YtegkdnfeceomdaaGreat
open Go.RowKit Go.Hs
theorem Bounds_r (A:CaseA) (c:DCas) (W:World) (hm:CaseM W A c):Calls Tryz.prog 33 #[A.v c] W fun e w'=>∃a n q,e= .returned (.tuple #[.slice a n q,.int .i64 (bndE c)])∧Hid (bndE c≠0→n=0)∧Hid (bndE c=0→n=c.soc.toNat∧∃g,a=some ⟨g,0,none⟩∧RowB g n (bd4 c) w')∧Ext W w':=
 (Bounds_d A c W hm).mono (fun e w' h => by
  obtain⟨hn,hy,hx⟩:=h;by_cases h0:bndE c=0
  ·obtain ⟨a, q, rfl, ho⟩ := hy h0
   have hs:0<c.soc.toNat:=by
    have:=(caseD_zero (bnd_ask h0).2.1).2.1.soc;omega
   obtain⟨g,rfl,hr⟩:=RowB.of ho hs;exact⟨_,_,q,by rw [h0],hHd (fun h=>absurd h0 h),hHd (fun _=>⟨rfl,g,rfl,hr⟩),hx⟩
  ·exact⟨none,0,0,hn h0,hHd (fun _=>rfl),hHd (fun h=>absurd h h0),hx⟩)
end Go.Proofs.YtegkdnfeceomdaaGreat
