/- Bundled: what the texts L M UA JA say one after another. -/
import Derived.WalkKit
import Derived.WalkSpells
import Derived.WalkLawsBesides
import Derived.BigQuiet
import Derived.Deep.QuietTactic
import Derived.Lib.Hide
set_option maxRecDepth 100000
set_option maxHeartbeats 16000000
set_option linter.unusedSimpArgs false
set_option linter.unusedVariables false
namespace Go.Hs
open Go.RowKit
def Ext (w w':World):Prop:=Below w.heap.size w w'
theorem Ext.refl (w:World):Ext w w:=Below.refl _ _
theorem Ext.trans {a b c:World} (h:Ext a b) (k:Ext b c):Ext a c:=Below.trans h (Below.mono k h.size)
theorem Ext.size {a b:World} (h:Ext a b):a.heap.size≤b.heap.size:=Below.size h
theorem Ext.drew {a b:World} (h:Ext a b):Ext a b.drew:=Below.drew h
theorem Ext.alloc {a b:World} (h:Ext a b) (o:Obj):Ext a (b.alloc o):=Below.alloc h h.size o
theorem Ext.cell {a b:World} (h:Ext a b) {k o:Nat} (hk:k<a.heap.size):b.cell? ⟨k,o,none⟩=a.cell? ⟨k,o,none⟩:=Below.cell (p:=⟨k,o,none⟩) h hk
theorem Ext.frozen {a b:World} (h:Ext a b) {k o:Nat} (hk:k<a.heap.size):b.frozen? ⟨k,o,none⟩=a.frozen? ⟨k,o,none⟩:=Below.frozen (p:=⟨k,o,none⟩) h hk
theorem Ext.heap {a b:World} (h:Ext a b) {k:Nat} (hk:k<a.heap.size):b.heap[k]?=a.heap[k]?:=Below.block h k hk
theorem lt_of_cell {w:World} {a:Addr} {v:Value} (h:w.cell? a=some v):a.block<w.heap.size:=by
 unfold World.cell? at h;split at h
 ·rename_i hh
  exact(Array.getElem?_eq_some_iff.1 hh).1
 ·cases h
theorem Ext.keep {a b:World} (h:Ext a b) {k o:Nat} {v:Value} (hc:a.cell? ⟨k,o,none⟩=some v):b.cell? ⟨k,o,none⟩=some v:=by
 rw [h.cell (lt_of_cell (a:=⟨k,o,none⟩) hc)];exact hc
def Rows {α:Type} (R:World→Nat→Nat→α→Prop) (k:Nat) (w:World) (a:Option Addr) (xs:List α):Prop:=
 ∀(i:Nat) (h:i<xs.length),∃b off,a=some ⟨b,off,none⟩∧R w b (off+i*k) xs[i]
theorem Rows.at {α:Type} {R:World→Nat→Nat→α→Prop} {k:Nat} {w:World} {b off:Nat} {xs:List α} (h:Rows R k w (some ⟨b,off,none⟩) xs) (i:Nat) (hi:i<xs.length):R w b (off+i*k) xs[i]:=by
 obtain⟨b',off',he,hr⟩:=h i hi;cases he;exact hr
theorem Rows.ext {α:Type} {R:World→Nat→Nat→α→Prop} {k:Nat} {w w':World} {a:Option Addr} {xs:List α} (hR:∀b o x,R w b o x→R w' b o x) (h:Rows R k w a xs):Rows R k w' a xs:=
 fun i hi=>let ⟨b,off,he,hr⟩:=h i hi;⟨b,off,he,hR _ _ _ hr⟩
def SliceV {α:Type} (R:World→Nat→Nat→α→Prop) (k:Nat) (w:World) (v:Value) (xs:List α):Prop:=
 ∃a cap,v= .slice a xs.length cap∧xs.length≤cap∧xs.length≤140737488351232∧Rows R k w a xs
theorem SliceV.ext {α:Type} {R:World→Nat→Nat→α→Prop} {k:Nat} {w w':World} {v:Value} {xs:List α} (hR:∀b o x,R w b o x→R w' b o x) (h:SliceV R k w v xs):SliceV R k w' v xs:=
 let ⟨a,cap,he,h1,h2,hr⟩:=h;⟨a,cap,he,h1,h2,hr.ext hR⟩
def IntAt (w:World) (b o:Nat) (x:Int):Prop:=w.cell? ⟨b,o,none⟩=some (.int .i64 x)∧ -9223372036854775808≤x∧x≤9223372036854775807
theorem IntAt.ext {w w':World} (h:Ext w w') (b o:Nat) (x:Int) (hi:IntAt w b o x):IntAt w' b o x:=⟨h.keep hi.1,hi.2⟩
def IntsV:World→Value→List Int→Prop:=SliceV IntAt 1
theorem IntsV.ext {w w':World} {v:Value} {xs:List Int} (h:Ext w w') (k:IntsV w v xs):IntsV w' v xs:=SliceV.ext (IntAt.ext h) k
def IntsAt (w:World) (b o:Nat) (xs:List Int):Prop:=∃v,w.cell? ⟨b,o,none⟩=some v∧IntsV w v xs
theorem IntsAt.ext {w w':World} (h:Ext w w') (b o:Nat) (xs:List Int) (k:IntsAt w b o xs):IntsAt w' b o xs:=let ⟨v,h1,h2⟩:=k;⟨v,h.keep h1,h2.ext h⟩
def Ints2V:World→Value→List (List Int)→Prop:=SliceV IntsAt 1
theorem Ints2V.ext {w w':World} {v:Value} {xs:List (List Int)} (h:Ext w w') (k:Ints2V w v xs):Ints2V w' v xs:=SliceV.ext (IntsAt.ext h) k
def Ints2At (w:World) (b o:Nat) (xs:List (List Int)):Prop:=∃v,w.cell? ⟨b,o,none⟩=some v∧Ints2V w v xs
theorem Ints2At.ext {w w':World} (h:Ext w w') (b o:Nat) (xs:List (List Int)) (k:Ints2At w b o xs):Ints2At w' b o xs:=let ⟨v,h1,h2⟩:=k;⟨v,h.keep h1,h2.ext h⟩
def Ints3V:World→Value→List (List (List Int))→Prop:=SliceV Ints2At 1
theorem Ints3V.ext {w w':World} {v:Value} {xs:List (List (List Int))} (h:Ext w w') (k:Ints3V w v xs):Ints3V w' v xs:=SliceV.ext (Ints2At.ext h) k
structure Tar where
 start:Int
 whole:Bool
 least:Int
 weeks:List Int
 counts:List Int
 rates:List (List (List Int))
def i64ok (x:Int):Prop:= -9223372036854775808≤x∧x≤9223372036854775807
structure TarC (w:World) (c3 c4 c5:Value) (t:Tar):Prop where
 f:i64ok t.start
 l:i64ok t.least
 weeks:IntsV w c3 t.weeks
 counts:IntsV w c4 t.counts
 rates:Ints3V w c5 t.rates
theorem TarC.ext {w w':World} {c3 c4 c5:Value} {t:Tar} (h:Ext w w') (k:TarC w c3 c4 c5 t):TarC w' c3 c4 c5 t:=⟨k.f,k.l,k.weeks.ext h,k.counts.ext h,k.rates.ext h⟩
def TarAt (w:World) (b o:Nat) (t:Tar):Prop:=∃c3 c4 c5,
 w.cell? ⟨b,o,none⟩=some (.int .i64 t.start)∧w.cell? ⟨b,o+1,none⟩=some (.bool t.whole)∧w.cell? ⟨b,o+2,none⟩=some (.int .i64 t.least)∧
 w.cell? ⟨b,o+3,none⟩=some c3∧w.cell? ⟨b,o+4,none⟩=some c4∧w.cell? ⟨b,o+5,none⟩=some c5∧TarC w c3 c4 c5 t
theorem TarAt.ext {w w':World} (h:Ext w w') (b o:Nat) (t:Tar) (k:TarAt w b o t):TarAt w' b o t:=by
 obtain⟨c3,c4,c5,h0,h1,h2,h3,h4,h5,hc⟩:=k;exact⟨c3,c4,c5,h.keep h0,h.keep h1,h.keep h2,h.keep h3,h.keep h4,h.keep h5,hc.ext h⟩
def TarsV:World→Value→List Tar→Prop:=SliceV TarAt 6
theorem TarsV.ext {w w':World} {v:Value} {xs:List Tar} (h:Ext w w') (k:TarsV w v xs):TarsV w' v xs:=SliceV.ext (TarAt.ext h) k
def inR (n lo hi:Int):Bool:=decide (lo≤n)&&decide (n≤hi)
def Cells1 (w:World) (a:Option Addr) (us:List Value):Prop:=∀(i:Nat) (h:i<us.length),∃b off,a=some ⟨b,off,none⟩∧w.cell? ⟨b,off+i,none⟩=some us[i]
def IdxPost (n:Nat) (p:Nat→Bool) (I:Nat→World→Prop) (e:Ending) (w:World):Prop:=
 (∃i,i<n∧p i=true∧(∀m,m<i→p m=false)∧e= .returned (.int .i64 i)∧I (i+1) w)∨((∀m,m<n→p m=false)∧e= .returned (.int .i64 (-1))∧I n w)
structure V6 where
 c0:Value
 c1:Value
 c2:Value
 c3:Value
 c4:Value
 c5:Value
abbrev V6.val (x:V6):Value:= .agg #[x.c0,x.c1,x.c2,x.c3,x.c4,x.c5]
def Cell6 (w:World) (b o:Nat) (x:V6):Prop:=
 w.cell? ⟨b,o,none⟩=some x.c0∧w.cell? ⟨b,o+1,none⟩=some x.c1∧w.cell? ⟨b,o+2,none⟩=some x.c2∧
 w.cell? ⟨b,o+3,none⟩=some x.c3∧w.cell? ⟨b,o+4,none⟩=some x.c4∧w.cell? ⟨b,o+5,none⟩=some x.c5
theorem Cell6.ext {w w':World} (h:Ext w w') (b o:Nat) (x:V6) (k:Cell6 w b o x):Cell6 w' b o x:=
 ⟨h.keep k.1,h.keep k.2.1,h.keep k.2.2.1,h.keep k.2.2.2.1,h.keep k.2.2.2.2.1,h.keep k.2.2.2.2.2⟩
def Cells6 (w:World) (a:Option Addr) (us:List V6):Prop:=∀(i:Nat) (h:i<us.length),∃b off,a=some ⟨b,off,none⟩∧Cell6 w b (off+i*6) us[i]
def anyB (n:Nat) (p:Nat→Bool):Bool:=(List.range n).any p
def allB (n:Nat) (p:Nat→Bool):Bool:=(List.range n).all p
theorem allB_iff {n:Nat} {p:Nat→Bool} :allB n p=true↔∀i,i<n→p i=true:=by simp [allB]
theorem anyB_iff {n:Nat} {p:Nat→Bool} :anyB n p=true↔∃i,i<n∧p i=true:=by simp [anyB]
def ContPost (n:Nat) (p:Nat→Bool) (I:Nat→World→Prop) (e:Ending) (w:World):Prop:=
 ∃i,i≤n∧I i w∧e= .returned (.bool (anyB n p))
theorem ContPost.yes {n:Nat} {p:Nat→Bool} {I:Nat→World→Prop} {e:Ending} {w:World} {i:Nat} (h1:i<n) (h2:p i=true) (he:e= .returned (.bool true)) (h:I (i+1) w):ContPost n p I e w:=
 ⟨i+1,h1,h,by rw [he,anyB_iff.2 ⟨i,h1,h2⟩]⟩
theorem ContPost.no {n:Nat} {p:Nat→Bool} {I:Nat→World→Prop} {e:Ending} {w:World} (h2:∀m,m<n→p m=false) (he:e= .returned (.bool false)) (h:I n w):ContPost n p I e w:=
 ⟨n, Nat.le_refl _, h, by
  have:anyB n p=false:=by
   rw [←Bool.not_eq_true,anyB_iff];rintro ⟨i,hi,hp⟩;rw [h2 i hi] at hp;cases hp
  rw [he,this]⟩
def Kept (B:Nat) (w1 w2:World):Prop:=w1.heap.size≤w2.heap.size∧∀k,B≤k→k<w1.heap.size→w2.heap[k]?=w1.heap[k]?
theorem Ext.kept {w1 w2:World} (h:Ext w1 w2) (B:Nat):Kept B w1 w2:=⟨h.size,fun _ _ hk=>h.heap hk⟩
theorem Kept.trans {B:Nat} {w1 w2 w3:World} (h:Kept B w1 w2) (k:Kept B w2 w3):Kept B w1 w3:=
 ⟨Nat.le_trans h.1 k.1,fun i hB hi=>(k.2 i hB (Nat.lt_of_lt_of_le hi h.1)).trans (h.2 i hB hi)⟩
theorem Kept.cell {B:Nat} {w1 w2:World} (h:Kept B w1 w2) {b o:Nat} {v:Value} (hB:B≤b) (hc:w1.cell? ⟨b,o,none⟩=some v):w2.cell? ⟨b,o,none⟩=some v:=by
 rw [World.cell?_of_block (w:=w1) (h.2 b hB (lt_of_cell (a:=⟨b,o,none⟩) hc))];exact hc
structure AllInv (w0:World) (fv:Value) (I:Nat→World→Prop) (i:Nat) (w:World):Prop where
 cell:w.cell? ⟨w0.heap.size,0,none⟩=some fv
 size:w0.heap.size<w.heap.size
 inv:I i w
theorem AllInv.next {w0:World} {fv:Value} {I:Nat→World→Prop} {i:Nat} {w1 w2 w3:World} (h:AllInv w0 fv I i w1) (hx:Ext w1 w2) (hi:I (i+1) w3) (hk:Kept w0.heap.size w2 w3):AllInv w0 fv I (i+1) w3:=
 ⟨hk.cell (Nat.le_refl _) (hx.keep h.cell),Nat.lt_of_lt_of_le h.size (Nat.le_trans hx.size hk.1),hi⟩
def AllPost (n:Nat) (q:Nat→Bool) (I:Nat→World→Prop) (e:Ending) (w:World):Prop:=
 ∃i,i≤n∧I i w∧e= .returned (.bool (allB n q))
def prevOf (xs:List Int) (i:Nat):Int:=if i=0 then -1 else xs.getD (i - 1) 0
def risesB (xs:List Int) (most:Int):Bool:=decide (0<xs.length)&&(xs.getD 0 1==0)&&allB xs.length (fun i=>inR (xs.getD i 0) (wrap64 (prevOf xs i+1)) most)
def fewB (t:Tar):Bool:=decide (t.weeks.length≤4)&&decide (t.counts.length≤5)&&decide (t.rates.length≤3)
theorem SliceV.values {α:Type} {R:World→Nat→Nat→α→Prop} {S:World→Value→α→Prop} {w:World} {a:Option Addr} {xs:List α}
  (hRS:∀b o x,R w b o x→∃v,w.cell? ⟨b,o,none⟩=some v∧S w v x) (h:Rows R 1 w a xs):
  ∃us:List Value,us.length=xs.length∧Cells1 w a us∧∀i (h1:i<us.length) (h2:i<xs.length),S w us[i] xs[i]:=by
 have hex:∀i:Nat,∃u:Value,∀h2:i<xs.length,(∃b off,a=some ⟨b,off,none⟩∧w.cell? ⟨b,off+i,none⟩=some u)∧S w u xs[i]:=by
  intro i
  by_cases h2:i<xs.length
  ·obtain⟨b,off,he,hr⟩:=h i h2;obtain⟨v,hv,hs⟩:=hRS _ _ _ hr;exact⟨v,fun _=>⟨⟨b,off,he,by simpa using hv⟩,hs⟩⟩
  ·exact⟨undef,fun h=>absurd h h2⟩
 refine⟨(List.range xs.length).map (fun i=>Classical.choose (hex i)),by simp,?_,?_⟩
 ·intro i hi
  simp at hi
  have:=(Classical.choose_spec (hex i) hi).1;obtain⟨b,off,he,hc⟩:=this;exact⟨b,off,he,by simpa using hc⟩
 ·intro i h1 h2
  have:=(Classical.choose_spec (hex i) h2).2;simpa using this
theorem IntsV.cells {w:World} {v:Value} {xs:List Int} (h:IntsV w v xs):∃a c,v= .slice a xs.length c∧xs.length≤c∧xs.length≤140737488351232∧Cells1 w a (xs.map (.int .i64))∧(∀x∈xs,i64ok x):=by
 obtain⟨a,c,he,h1,h2,hr⟩:=h;refine⟨a,c,he,h1,h2,?_,?_⟩
 ·intro i hi
  simp at hi
  obtain⟨b,off,he,hc⟩:=hr i hi;exact⟨b,off,he,by simpa using hc.1⟩
 ·intro x hx
  obtain⟨i,hi,rfl⟩:=List.getElem_of_mem hx;obtain⟨b,off,he,hc⟩:=hr i hi;exact hc.2
theorem Ints2V.cells {w:World} {v:Value} {xs:List (List Int)} (h:Ints2V w v xs):∃a c us,v= .slice a us.length c∧us.length=xs.length∧us.length≤c∧us.length≤140737488351232∧Cells1 w a us∧∀i (h1:i<us.length) (h2:i<xs.length),IntsV w us[i] xs[i]:=by
 obtain⟨a,c,he,h1,h2,hr⟩:=h;obtain⟨us,hl,hc,hs⟩:=SliceV.values (S:=IntsV) (fun b o x h=>h) hr;exact⟨a,c,us,by rw [hl];exact he,hl,by omega,by omega,hc,hs⟩
theorem Ints3V.cells {w:World} {v:Value} {xs:List (List (List Int))} (h:Ints3V w v xs):∃a c us,v= .slice a us.length c∧us.length=xs.length∧us.length≤c∧us.length≤140737488351232∧Cells1 w a us∧∀i (h1:i<us.length) (h2:i<xs.length),Ints2V w us[i] xs[i]:=by
 obtain⟨a,c,he,h1,h2,hr⟩:=h;obtain⟨us,hl,hc,hs⟩:=SliceV.values (S:=Ints2V) (fun b o x h=>h) hr;exact⟨a,c,us,by rw [hl];exact he,hl,by omega,by omega,hc,hs⟩
def TarU (w:World) (u:V6) (t:Tar):Prop:=u.c0= .int .i64 t.start∧u.c1= .bool t.whole∧u.c2= .int .i64 t.least∧TarC w u.c3 u.c4 u.c5 t
theorem TarU.ext {w w':World} {u:V6} {t:Tar} (h:Ext w w') (k:TarU w u t):TarU w' u t:=⟨k.1,k.2.1,k.2.2.1,k.2.2.2.ext h⟩
theorem TarsV.cells {w:World} {v:Value} {xs:List Tar} (h:TarsV w v xs):∃a c us,v= .slice a us.length c∧us.length=xs.length∧us.length≤c∧us.length≤140737488351232∧Cells6 w a us∧∀i (h1:i<us.length) (h2:i<xs.length),TarU w us[i] xs[i]:=by
 obtain⟨a,c,he,h1,h2,hr⟩:=h
 have hex:∀i:Nat,∃u:V6,∀h2:i<xs.length,(∃b off,a=some ⟨b,off,none⟩∧Cell6 w b (off+i*6) u)∧TarU w u xs[i]:=by
  intro i
  by_cases h2:i<xs.length
  ·obtain⟨b,off,he,c3,c4,c5,g0,g1,g2,g3,g4,g5,gt⟩:=hr i h2;exact⟨⟨_,_,_,c3,c4,c5⟩,fun _=>⟨⟨b,off,he,g0,g1,g2,g3,g4,g5⟩,rfl,rfl,rfl,gt⟩⟩
  ·exact⟨⟨undef,undef,undef,undef,undef,undef⟩,fun h=>absurd h h2⟩
 refine⟨a,c,(List.range xs.length).map (fun i=>Classical.choose (hex i)),by simpa using he,by simp,by simpa using h1,by simpa using h2,?_,?_⟩
 ·intro i hi
  simp at hi
  obtain⟨b,off,he,hc⟩:=(Classical.choose_spec (hex i) hi).1;exact⟨b,off,he,by simpa using hc⟩
 ·intro i h1 h2
  have:=(Classical.choose_spec (hex i) h2).2;simpa using this
theorem Cells1.ext {w w':World} {a:Option Addr} {us:List Value} (h:Ext w w') (k:Cells1 w a us):Cells1 w' a us:=fun i hi=>let ⟨b,o,he,hc⟩:=k i hi;⟨b,o,he,h.keep hc⟩
theorem Cells6.ext {w w':World} {a:Option Addr} {us:List V6} (h:Ext w w') (k:Cells6 w a us):Cells6 w' a us:=fun i hi=>let ⟨b,o,he,hc⟩:=k i hi;⟨b,o,he,hc.ext h⟩
def rowB (m:Nat) (x:List Int):Bool:=decide (x.length=m)&&allB x.length (fun i=>inR (x.getD i 0) 0 100)
def cropB (t:Tar) (l:List (List Int)):Bool:=decide (l.length=t.weeks.length)&&allB l.length (fun i=>rowB t.counts.length (l.getD i []))
def validB (t:Tar):Bool:=inR t.start 0 120&&inR t.least 0 100&&risesB t.weeks 120&&decide (1<t.counts.length)&&risesB t.counts 100&&(t.counts.getD (t.counts.length - 1) 0==100)&&decide (0<t.rates.length)&&allB t.rates.length (fun i=>cropB t (t.rates.getD i []))
end Go.Hs
namespace Go.Hs
instance:Inhabited Tar:=⟨⟨0,false,0,[],[],[]⟩⟩
def chainB (l:List Tar):Bool:=allB (l.length - 1) (fun i=>decide ((l.getD i default).start<(l.getD (i+1) default).start)&&decide ((l.getD (i+1) default).rates.length=(l.getD 0 default).rates.length))
def checkS (l:List Tar):Int:=
 if 3<l.length∨allB l.length (fun i=>fewB (l.getD i default))=false then 3
 else if l.length=0∨(l.getD 0 default).start≠0∨allB l.length (fun i=>validB (l.getD i default))=false then 1
 else if chainB l=false then 1 else 0
end Go.Hs
namespace Go.Hs
open Go.RowKit
theorem Cells6.at {w:World} {b off:Nat} {us:List V6} (h:Cells6 w (some ⟨b,off,none⟩) us) (i:Nat) (hi:i<us.length):Cell6 w b (off+i*6) us[i]:=by
 obtain⟨b',off',he,hr⟩:=h i hi;cases he;exact hr
theorem Cells1.at {w:World} {b off:Nat} {us:List Value} (h:Cells1 w (some ⟨b,off,none⟩) us) (i:Nat) (hi:i<us.length):w.cell? ⟨b,off+i,none⟩=some us[i]:=by
 obtain⟨b',off',he,hr⟩:=h i hi;cases he;exact hr
def linkB (l:List Tar) (i:Nat):Bool:=decide ((l.getD i default).start<(l.getD (i+1) default).start)&&decide ((l.getD (i+1) default).rates.length=(l.getD 0 default).rates.length)
theorem SliceV.rows {α:Type} {R:World→Nat→Nat→α→Prop} {k:Nat} {w:World} {a:Option Addr} {n c:Nat} {xs:List α} (h:SliceV R k w (.slice a n c) xs):Rows R k w a xs:=by
 obtain⟨a',c',he,-,-,hr⟩:=h;cases he;exact hr
theorem TarAt.open {w:World} {b o:Nat} {t:Tar} (h:TarAt w b o t):∃a3 k3 a4 k4 a5 k5,
  w.cell? ⟨b,o,none⟩=some (.int .i64 t.start)∧w.cell? ⟨b,o+1,none⟩=some (.bool t.whole)∧w.cell? ⟨b,o+2,none⟩=some (.int .i64 t.least)∧
  w.cell? ⟨b,o+3,none⟩=some (.slice a3 t.weeks.length k3)∧w.cell? ⟨b,o+4,none⟩=some (.slice a4 t.counts.length k4)∧w.cell? ⟨b,o+5,none⟩=some (.slice a5 t.rates.length k5)∧
  TarC w (.slice a3 t.weeks.length k3) (.slice a4 t.counts.length k4) (.slice a5 t.rates.length k5) t:=by
 obtain⟨c3,c4,c5,h0,h1,h2,h3,h4,h5,hc⟩:=h;have hc':=hc;obtain⟨-,-,⟨a3,k3,rfl,-⟩,⟨a4,k4,rfl,-⟩,⟨a5,k5,rfl,-⟩⟩:=hc';exact⟨a3,k3,a4,k4,a5,k5,h0,h1,h2,h3,h4,h5,hc⟩
theorem Ext.drewN {a b:World} (h:Ext a b) (n:Nat):Ext a (b.drewN n):=⟨h.os,h.tape,h.output,h.size,h.block⟩
def atS (l:List Tar) (day:Int):Tar:=l.foldl (fun t x=>if x.start≤day then x else t) default
theorem atS_take {l:List Tar} {k:Nat} (h:k<l.length) (day:Int):atS (l.take (k+1)) day=if l[k].start≤day then l[k] else atS (l.take k) day:=by
 unfold atS;rw [List.take_succ_eq_append_getElem h,List.foldl_append];rfl
def weekTo (l:List Int) (day:Int) (k:Nat):Nat:=(List.range k).foldl (fun r i=>if l.getD i 0≤day then i else r) 0
def World.set6 (w:World) (R:Nat) (u:V6):World:=(((((w.setCell ⟨R,0,none⟩ u.c0).setCell ⟨R,1,none⟩ u.c1).setCell ⟨R,2,none⟩ u.c2).setCell ⟨R,3,none⟩ u.c3).setCell ⟨R,4,none⟩ u.c4).setCell ⟨R,5,none⟩ u.c5
theorem set6_cell {w:World} {R:Nat} {x u:V6} (h:Cell6 w R 0 x):Cell6 (World.set6 w R u) R 0 u:=by
 obtain⟨h0,h1,h2,h3,h4,h5⟩:=h;simp only [Nat.zero_add] at*;unfold World.set6;have n:∀i j:Nat,i≠j→(⟨R,i,none⟩:Addr)≠⟨R,j,none⟩:=fun i j hij e=>hij (by cases e;rfl)
 refine⟨?_,?_,?_,?_,?_,?_⟩
 all_goals try simp only [Nat.zero_add]
 ·rw [World.cell?_setCell_other (h:=n _ _ (by decide)),World.cell?_setCell_other (h:=n _ _ (by decide)),World.cell?_setCell_other (h:=n _ _ (by decide)),World.cell?_setCell_other (h:=n _ _ (by decide)),World.cell?_setCell_other (h:=n _ _ (by decide)),World.cell?_setCell_same (h:=h0)]
 ·rw [World.cell?_setCell_other (h:=n _ _ (by decide)),World.cell?_setCell_other (h:=n _ _ (by decide)),World.cell?_setCell_other (h:=n _ _ (by decide)),World.cell?_setCell_other (h:=n _ _ (by decide)),World.cell?_setCell_same (u:=x.c1)];rw [World.cell?_setCell_other (h:=n _ _ (by decide))];exact h1
 ·rw [World.cell?_setCell_other (h:=n _ _ (by decide)),World.cell?_setCell_other (h:=n _ _ (by decide)),World.cell?_setCell_other (h:=n _ _ (by decide)),World.cell?_setCell_same (u:=x.c2)];rw [World.cell?_setCell_other (h:=n _ _ (by decide)),World.cell?_setCell_other (h:=n _ _ (by decide))];exact h2
 ·rw [World.cell?_setCell_other (h:=n _ _ (by decide)),World.cell?_setCell_other (h:=n _ _ (by decide)),World.cell?_setCell_same (u:=x.c3)];rw [World.cell?_setCell_other (h:=n _ _ (by decide)),World.cell?_setCell_other (h:=n _ _ (by decide)),World.cell?_setCell_other (h:=n _ _ (by decide))];exact h3
 ·rw [World.cell?_setCell_other (h:=n _ _ (by decide)),World.cell?_setCell_same (u:=x.c4)];rw [World.cell?_setCell_other (h:=n _ _ (by decide)),World.cell?_setCell_other (h:=n _ _ (by decide)),World.cell?_setCell_other (h:=n _ _ (by decide)),World.cell?_setCell_other (h:=n _ _ (by decide))];exact h4
 ·rw [World.cell?_setCell_same (u:=x.c5)];rw [World.cell?_setCell_other (h:=n _ _ (by decide)),World.cell?_setCell_other (h:=n _ _ (by decide)),World.cell?_setCell_other (h:=n _ _ (by decide)),World.cell?_setCell_other (h:=n _ _ (by decide)),World.cell?_setCell_other (h:=n _ _ (by decide))];exact h5
theorem Ext.setCell {w0 w:World} (h:Ext w0 w) {R o:Nat} (hR:w0.heap.size≤R) (v:Value):Ext w0 (w.setCell ⟨R,o,none⟩ v):=Below.setCell (p:=⟨R,o,none⟩) h hR v
theorem EX {a b:World} (h:Ext a b:=by(repeat (first|exact Ext.refl _|with_reducible (first|assumption|refine Ext.drew ?_|refine Ext.alloc ?_ _|refine Ext.drewN ?_ _|refine Ext.setCell ?_ (by omega) _|refine Ext.trans ?_ (by assumption))))):Ext a b:=h
theorem EXD {a b:World} (h:Ext a b:=by(repeat (first|exact Ext.refl _|with_reducible (first|assumption|refine Ext.drew ?_|refine Ext.alloc ?_ _|refine Ext.drewN ?_ _|refine Ext.setCell ?_ (by omega) _|refine Ext.trans ?_ (by assumption))));done):Ext a b:=h
theorem tl (l:List Oper):l.toArray.toList=l:=rfl
theorem hHd {p:Prop} (h:p):Go.RowKit.Hid p:=h
theorem Ext.set6 {w0 w:World} (h:Ext w0 w) {R:Nat} (hR:w0.heap.size≤R) (u:V6):Ext w0 (World.set6 w R u):=
 (((((h.setCell hR _).setCell hR _).setCell hR _).setCell hR _).setCell hR _).setCell hR _
theorem set6_frozen (w:World) (R:Nat) (u:V6) (a:Addr):(World.set6 w R u).frozen? a=w.frozen? a:=by
 unfold World.set6;simp
def AtInv (B:Nat) (wd w0:World) (t:Tar) (w:World):Prop:=∃u:V6,Cell6 w (B+1) 0 u∧TarU wd u t∧(∀o,w.frozen? ⟨B+1,o,none⟩=false)∧Ext w0 w
theorem IntsV.nil (w:World):IntsV w (.slice none 0 0) []:=⟨none,0,rfl,Nat.le_refl _,by simp,fun i h=>absurd h (Nat.not_lt_zero _)⟩
theorem Ints3V.nil (w:World):Ints3V w (.slice none 0 0) []:=⟨none,0,rfl,Nat.le_refl _,by simp,fun i h=>absurd h (Nat.not_lt_zero _)⟩
theorem AtInv.start (w:World):TarU w ⟨.int .i64 0,.bool false,.int .i64 0,.slice none 0 0,.slice none 0 0,.slice none 0 0⟩ (default:Tar):=
 ⟨rfl,rfl,rfl,⟨by decide,by decide⟩,⟨by decide,by decide⟩,IntsV.nil w,IntsV.nil w,Ints3V.nil w⟩
theorem AtInv.step {B:Nat} {wd w0 w:World} {y t:Tar} {u:V6} (h:AtInv B wd w0 y w) (hB:w0.heap.size≤B+1) (hu:TarU wd u t) (o:Obj):AtInv B wd w0 t ((World.set6 w (B+1) u).alloc o):=by
 obtain⟨x,hc,-,hf,hx⟩:=h;have hx1:Ext (World.set6 w (B+1) u) ((World.set6 w (B+1) u).alloc o):=(Ext.refl _).alloc o;have hlt:B+1<(World.set6 w (B+1) u).heap.size:=lt_of_cell (set6_cell (u:=u) hc).1;exact⟨u,(set6_cell hc).ext hx1,hu,fun i=>by rw [hx1.frozen hlt,set6_frozen];exact hf i,(hx.set6 hB u).trans hx1⟩
theorem AtInv.same {B:Nat} {wd w0 w:World} {y:Tar} (h:AtInv B wd w0 y w) (o:Obj):AtInv B wd w0 y (w.alloc o):=by
 obtain⟨x,hc,hu,hf,hx⟩:=h;have hx1:Ext w (w.alloc o):=(Ext.refl _).alloc o;exact⟨x,hc.ext hx1,hu,fun i=>by rw [hx1.frozen (lt_of_cell hc.1)];exact hf i,hx.trans hx1⟩
theorem TarU.slices {w:World} {u:V6} {t:Tar} (h:TarU w u t):∃a3 k3 a4 k4 a5 k5,u=⟨.int .i64 t.start,.bool t.whole,.int .i64 t.least,.slice a3 t.weeks.length k3,.slice a4 t.counts.length k4,.slice a5 t.rates.length k5⟩:=by
 obtain⟨u0,u1,u2,u3,u4,u5⟩:=u;obtain⟨h0,h1,h2,-,-,⟨a3,k3,h3,-⟩,⟨a4,k4,h4,-⟩,⟨a5,k5,h5,-⟩⟩:=h;simp only at*;subst h0 h1 h2 h3 h4 h5;exact⟨a3,k3,a4,k4,a5,k5,rfl⟩
def Sorted (xs:List Int):Prop:=∀a b,a≤b→b<xs.length→xs.getD a 0≤xs.getD b 0
def Found (xs:List Int) (x:Int) (i:Nat):Prop:=i≤xs.length∧(∀m,m<i→xs.getD m 0<x)∧(∀m,i≤m→m<xs.length→x≤xs.getD m 0)
theorem IntsV.slice {w:World} {v:Value} {xs:List Int} (h:IntsV w v xs):∃a c,v= .slice a xs.length c:=let ⟨a,c,e,_⟩:=h;⟨a,c,e⟩
theorem Ints2V.slice {w:World} {v:Value} {xs:List (List Int)} (h:Ints2V w v xs):∃a c,v= .slice a xs.length c:=let ⟨a,c,e,_⟩:=h;⟨a,c,e⟩
theorem IntsV.get {w:World} {a:Option Addr} {n c:Nat} {xs:List Int} (h:IntsV w (.slice a n c) xs) (i:Nat) (hi:i<xs.length):∃b off,a=some ⟨b,off,none⟩∧w.cell? ⟨b,off+i,none⟩=some (.int .i64 (xs.getD i 0)):=by
 obtain⟨b,off,he,hc⟩:=SliceV.rows h i hi;exact⟨b,off,he,by have:=hc.1;simpa [hi] using this⟩
theorem Ints2V.get {w:World} {a:Option Addr} {n c:Nat} {xs:List (List Int)} (h:Ints2V w (.slice a n c) xs) (i:Nat) (hi:i<xs.length):∃b off a1 c1,a=some ⟨b,off,none⟩∧w.cell? ⟨b,off+i,none⟩=some (.slice a1 (xs.getD i []).length c1)∧IntsV w (.slice a1 (xs.getD i []).length c1) (xs.getD i []):=by
 obtain⟨b,off,he,v,hc,hv⟩:=SliceV.rows h i hi;obtain⟨a1,c1,rfl⟩:=hv.slice;have e:xs[i]=xs.getD i []:=by simp [hi]
 rw [←e];exact⟨b,off,a1,c1,he,by simpa using hc,hv⟩
theorem Ints3V.get {w:World} {a:Option Addr} {n c:Nat} {xs:List (List (List Int))} (h:Ints3V w (.slice a n c) xs) (i:Nat) (hi:i<xs.length):∃b off a1 c1,a=some ⟨b,off,none⟩∧w.cell? ⟨b,off+i,none⟩=some (.slice a1 (xs.getD i []).length c1)∧Ints2V w (.slice a1 (xs.getD i []).length c1) (xs.getD i []):=by
 obtain⟨b,off,he,v,hc,hv⟩:=SliceV.rows h i hi;obtain⟨a1,c1,rfl⟩:=hv.slice;have e:xs[i]=xs.getD i []:=by simp [hi]
 rw [←e];exact⟨b,off,a1,c1,he,by simpa using hc,hv⟩
theorem IntsV.ok {w:World} {v:Value} {xs:List Int} (h:IntsV w v xs):∀x∈xs,i64ok x:=by
 obtain⟨a,c,he,-,-,-,h⟩:=h.cells;exact h
def firstGe (xs:List Int) (x:Int):Nat:=(xs.takeWhile (fun y=>decide (y<x))).length
theorem Found.eq {xs:List Int} {x:Int} {i:Nat} (h:Found xs x i):i=firstGe xs x:=by
  obtain⟨h1,h2,h3⟩:=h;unfold firstGe;induction xs generalizing i with
  |nil=>simp at h1;simp [h1]
  | cons y r ih =>
    cases i with
    | zero =>
      have:=h3 0 (Nat.le_refl _) (by simp);simp at this
      rw [List.takeWhile_cons_of_neg (by simpa using this)];rfl
    | succ i =>
      have:=h2 0 (by omega);simp at this
      rw [List.takeWhile_cons_of_pos (by simpa using this)];have e:=ih (i:=i) (by simpa using h1) (fun m hm=>by have:=h2 (m+1) (by omega);simpa using this) (fun m hm hl=>by have:=h3 (m+1) (by omega) (by simpa using hl);simpa using this);simp only [List.length_cons];omega
structure CountsOK (xs:List Int):Prop where
 two:1<xs.length
 sorted:Sorted xs
 strict:∀a b,a<b→b<xs.length→xs.getD a 0<xs.getD b 0
 first:xs.getD 0 0=0
 last:xs.getD (xs.length - 1) 0=100
theorem CountsOK.bound {xs:List Int} (h:CountsOK xs) (i:Nat) (hi:i<xs.length):0≤xs.getD i 0∧xs.getD i 0≤100:=by
 have h1:=h.sorted 0 i (by omega) hi;have h2:=h.sorted i (xs.length - 1) (by omega) (by omega);rw [h.first] at h1;rw [h.last] at h2;exact⟨h1,h2⟩
structure RowOK (m:Nat) (row:List Int):Prop where
 len:row.length=m
 bound:∀i,i<row.length→0≤row.getD i 0∧row.getD i 0≤100
def interp (xs row:List Int) (n:Int):Int:=
 if xs.getD (firstGe xs n) 0=n then row.getD (firstGe xs n) 0
 else (row.getD (firstGe xs n - 1) 0*(xs.getD (firstGe xs n) 0 - n)+row.getD (firstGe xs n) 0*(n - xs.getD (firstGe xs n - 1) 0)) / (xs.getD (firstGe xs n) 0 - xs.getD (firstGe xs n - 1) 0)
theorem CountsOK.found {xs:List Int} (h:CountsOK xs) {n:Int} (h0:0≤n) (h1:n≤100) {i:Nat} (hi:Found xs n i):i<xs.length∧(xs.getD i 0≠n→1≤i∧xs.getD (i - 1) 0<n∧n<xs.getD i 0):=by
 have h2:=h.two
 have hlt:i<xs.length:=by
  rcases Nat.lt_or_ge i xs.length with hl|hl
  ·exact hl
  ·have e : i = xs.length := by have := hi.1; omega
   have:=hi.2.1 (xs.length - 1) (by omega);rw [h.last] at this;omega
 refine⟨hlt,fun hne=> ?_⟩
 have hge:=hi.2.2 i (Nat.le_refl _) hlt
 have h1i:1≤i:=by
  rcases Nat.eq_zero_or_pos i with e|e
  ·subst e;rw [h.first] at hge hne;omega
  ·exact e
 exact⟨h1i,hi.2.1 (i - 1) (by omega),by omega⟩
end Go.Hs
namespace Go.Hs
end Go.Hs
namespace Go.Hs
open Go.RowKit
structure V3 where
 c0:Value
 c1:Value
 c2:Value
abbrev V3.val (x:V3):Value:= .agg #[x.c0,x.c1,x.c2]
def Cell3 (w:World) (b o:Nat) (x:V3):Prop:=
 w.cell? ⟨b,o,none⟩=some x.c0∧w.cell? ⟨b,o+1,none⟩=some x.c1∧w.cell? ⟨b,o+2,none⟩=some x.c2
theorem Cell3.ext {w w':World} (h:Ext w w') (b o:Nat) (x:V3) (k:Cell3 w b o x):Cell3 w' b o x:=
 ⟨h.keep k.1,h.keep k.2.1,h.keep k.2.2⟩
def Cells3 (w:World) (a:Option Addr) (us:List V3):Prop:=∀(i:Nat) (h:i<us.length),∃b off,a=some ⟨b,off,none⟩∧Cell3 w b (off+i*3) us[i]
theorem Cells3.ext {w w':World} {a:Option Addr} {us:List V3} (h:Ext w w') (k:Cells3 w a us):Cells3 w' a us:=fun i hi=>let ⟨b,o,he,hc⟩:=k i hi;⟨b,o,he,hc.ext h⟩
def Slice3 {α:Type} (U:α→V3) (w:World) (v:Value) (xs:List α):Prop:=∃a c,v= .slice a xs.length c∧xs.length≤c∧xs.length≤1000∧Cells3 w a (xs.map U)
theorem Slice3.ext {α:Type} {U:α→V3} {w w':World} {v:Value} {xs:List α} (h:Ext w w') (k:Slice3 U w v xs):Slice3 U w' v xs:=
 let ⟨a,c,he,h1,h2,hc⟩:=k;⟨a,c,he,h1,h2,hc.ext h⟩
structure V9 where
 c0:Value
 c1:Value
 c2:Value
 c3:Value
 c4:Value
 c5:Value
 c6:Value
 c7:Value
 c8:Value
abbrev V9.val (x:V9):Value:= .agg #[x.c0,x.c1,x.c2,x.c3,x.c4,x.c5,x.c6,x.c7,x.c8]
def Cell9 (w:World) (b o:Nat) (x:V9):Prop:=
 w.cell? ⟨b,o,none⟩=some x.c0∧w.cell? ⟨b,o+1,none⟩=some x.c1∧w.cell? ⟨b,o+2,none⟩=some x.c2∧w.cell? ⟨b,o+3,none⟩=some x.c3∧w.cell? ⟨b,o+4,none⟩=some x.c4∧w.cell? ⟨b,o+5,none⟩=some x.c5∧w.cell? ⟨b,o+6,none⟩=some x.c6∧w.cell? ⟨b,o+7,none⟩=some x.c7∧w.cell? ⟨b,o+8,none⟩=some x.c8
theorem Cell9.ext {w w':World} (h:Ext w w') (b o:Nat) (x:V9) (k:Cell9 w b o x):Cell9 w' b o x:=
 ⟨h.keep k.1,h.keep k.2.1,h.keep k.2.2.1,h.keep k.2.2.2.1,h.keep k.2.2.2.2.1,h.keep k.2.2.2.2.2.1,h.keep k.2.2.2.2.2.2.1,h.keep k.2.2.2.2.2.2.2.1,h.keep k.2.2.2.2.2.2.2.2⟩
def Cells9 (w:World) (a:Option Addr) (us:List V9):Prop:=∀(i:Nat) (h:i<us.length),∃b off,a=some ⟨b,off,none⟩∧Cell9 w b (off+i*9) us[i]
theorem Cells9.ext {w w':World} {a:Option Addr} {us:List V9} (h:Ext w w') (k:Cells9 w a us):Cells9 w' a us:=fun i hi=>let ⟨b,o,he,hc⟩:=k i hi;⟨b,o,he,hc.ext h⟩
def Slice9 {α:Type} (U:α→V9) (w:World) (v:Value) (xs:List α):Prop:=∃a c,v= .slice a xs.length c∧xs.length≤c∧xs.length≤1000∧Cells9 w a (xs.map U)
theorem Slice9.ext {α:Type} {U:α→V9} {w w':World} {v:Value} {xs:List α} (h:Ext w w') (k:Slice9 U w v xs):Slice9 U w' v xs:=
 let ⟨a,c,he,h1,h2,hc⟩:=k;⟨a,c,he,h1,h2,hc.ext h⟩
structure Fld where
 crop:Int
 value:Int
 near:Int
 alo:Int
 ahi:Int
 blo:Int
 bhi:Int
 ulo:Int
 uhi:Int
structure Thr where
 a:Int
 b:Int
 u:Int
structure Cas where
 tars:List Tar
 day:Int
 fee:Int
 flds:List Fld
def Fld.c (f:Fld):V9:=⟨.int .i64 f.crop,.int .i64 f.value,.int .i64 f.near,.int .i64 f.alo,.int .i64 f.ahi,.int .i64 f.blo,.int .i64 f.bhi,.int .i64 f.ulo,.int .i64 f.uhi⟩
def Thr.c (x:Thr):V3:=⟨.int .i64 x.a,.int .i64 x.b,.int .i64 x.u⟩
def FldsV:World→Value→List Fld→Prop:=Slice9 Fld.c
def ThrsV:World→Value→List Thr→Prop:=Slice3 Thr.c
def CasV (w:World) (v:Value) (c:Cas):Prop:=∃vt vf,v= .agg #[vt,.int .i64 c.day,.int .i64 c.fee,vf]∧TarsV w vt c.tars∧FldsV w vf c.flds
theorem FldsV.ext {w w':World} {v:Value} {l:List Fld} (h:Ext w w') (k:FldsV w v l):FldsV w' v l:=Slice9.ext h k
theorem ThrsV.ext {w w':World} {v:Value} {l:List Thr} (h:Ext w w') (k:ThrsV w v l):ThrsV w' v l:=Slice3.ext h k
theorem CasV.ext {w w':World} {v:Value} {c:Cas} (h:Ext w w') (k:CasV w v c):CasV w' v c:=
 let ⟨vt,vf,he,h1,h2⟩:=k;⟨vt,vf,he,h1.ext h,h2.ext h⟩
def absI (n:Int):Int:=max n (-n)
def calledB (f:Fld) (x:Thr):Bool:=decide (f.near<absI (x.a - x.b))
def settledS (f:Fld) (x:Thr):Int:=if calledB f x then min (max x.u (min x.a x.b)) (max x.a x.b) else (x.a+x.b) / 2
def loserS (f:Fld) (x:Thr):Nat:=
 if calledB f x then
  if absI (x.b - settledS f x)<absI (x.a - settledS f x) then 2 else if absI (x.a - settledS f x)<absI (x.b - settledS f x) then 3 else 1
 else 0
structure V4 where
 c0:Value
 c1:Value
 c2:Value
 c3:Value
abbrev V4.val (x:V4):Value:= .agg #[x.c0,x.c1,x.c2,x.c3]
def V4.l (x:V4):List Value:= [x.c0,x.c1,x.c2,x.c3]
def Cell4 (w:World) (b o:Nat) (x:V4):Prop:=
 w.cell? ⟨b,o,none⟩=some x.c0∧w.cell? ⟨b,o+1,none⟩=some x.c1∧w.cell? ⟨b,o+2,none⟩=some x.c2∧w.cell? ⟨b,o+3,none⟩=some x.c3
theorem Cell4.ext {w w':World} (h:Ext w w') (b o:Nat) (x:V4) (k:Cell4 w b o x):Cell4 w' b o x:=
 ⟨h.keep k.1,h.keep k.2.1,h.keep k.2.2.1,h.keep k.2.2.2⟩
def Cells4 (w:World) (a:Option Addr) (us:List V4):Prop:=∀(i:Nat) (h:i<us.length),∃b off,a=some ⟨b,off,none⟩∧Cell4 w b (off+i*4) us[i]
theorem Cells4.ext {w w':World} {a:Option Addr} {us:List V4} (h:Ext w w') (k:Cells4 w a us):Cells4 w' a us:=fun i hi=>let ⟨b,o,he,hc⟩:=k i hi;⟨b,o,he,hc.ext h⟩
def Slice4 {α:Type} (U:α→V4) (w:World) (v:Value) (xs:List α):Prop:=∃a c,v= .slice a xs.length c∧xs.length≤c∧xs.length≤1000∧Cells4 w a (xs.map U)
theorem Slice4.ext {α:Type} {U:α→V4} {w w':World} {v:Value} {xs:List α} (h:Ext w w') (k:Slice4 U w v xs):Slice4 U w' v xs:=
 let ⟨a,c,he,h1,h2,hc⟩:=k;⟨a,c,he,h1,h2,hc.ext h⟩
structure V7 where
 c0:Value
 c1:Value
 c2:Value
 c3:Value
 c4:Value
 c5:Value
 c6:Value
abbrev V7.val (x:V7):Value:= .agg #[x.c0,x.c1,x.c2,x.c3,x.c4,x.c5,x.c6]
def V7.l (x:V7):List Value:= [x.c0,x.c1,x.c2,x.c3,x.c4,x.c5,x.c6]
def Cell7 (w:World) (b o:Nat) (x:V7):Prop:=
 w.cell? ⟨b,o,none⟩=some x.c0∧w.cell? ⟨b,o+1,none⟩=some x.c1∧w.cell? ⟨b,o+2,none⟩=some x.c2∧w.cell? ⟨b,o+3,none⟩=some x.c3∧w.cell? ⟨b,o+4,none⟩=some x.c4∧w.cell? ⟨b,o+5,none⟩=some x.c5∧w.cell? ⟨b,o+6,none⟩=some x.c6
theorem Cell7.ext {w w':World} (h:Ext w w') (b o:Nat) (x:V7) (k:Cell7 w b o x):Cell7 w' b o x:=
 ⟨h.keep k.1,h.keep k.2.1,h.keep k.2.2.1,h.keep k.2.2.2.1,h.keep k.2.2.2.2.1,h.keep k.2.2.2.2.2.1,h.keep k.2.2.2.2.2.2⟩
def Cells7 (w:World) (a:Option Addr) (us:List V7):Prop:=∀(i:Nat) (h:i<us.length),∃b off,a=some ⟨b,off,none⟩∧Cell7 w b (off+i*7) us[i]
theorem Cells7.ext {w w':World} {a:Option Addr} {us:List V7} (h:Ext w w') (k:Cells7 w a us):Cells7 w' a us:=fun i hi=>let ⟨b,o,he,hc⟩:=k i hi;⟨b,o,he,hc.ext h⟩
def Slice7 {α:Type} (U:α→V7) (w:World) (v:Value) (xs:List α):Prop:=∃a c,v= .slice a xs.length c∧xs.length≤c∧xs.length≤1000∧Cells7 w a (xs.map U)
theorem Slice7.ext {α:Type} {U:α→V7} {w w':World} {v:Value} {xs:List α} (h:Ext w w') (k:Slice7 U w v xs):Slice7 U w' v xs:=
 let ⟨a,c,he,h1,h2,hc⟩:=k;⟨a,c,he,h1,h2,hc.ext h⟩
structure V8 where
 c0:Value
 c1:Value
 c2:Value
 c3:Value
 c4:Value
 c5:Value
 c6:Value
 c7:Value
abbrev V8.val (x:V8):Value:= .agg #[x.c0,x.c1,x.c2,x.c3,x.c4,x.c5,x.c6,x.c7]
def V8.l (x:V8):List Value:= [x.c0,x.c1,x.c2,x.c3,x.c4,x.c5,x.c6,x.c7]
def Cell8 (w:World) (b o:Nat) (x:V8):Prop:=
 w.cell? ⟨b,o,none⟩=some x.c0∧w.cell? ⟨b,o+1,none⟩=some x.c1∧w.cell? ⟨b,o+2,none⟩=some x.c2∧w.cell? ⟨b,o+3,none⟩=some x.c3∧w.cell? ⟨b,o+4,none⟩=some x.c4∧w.cell? ⟨b,o+5,none⟩=some x.c5∧w.cell? ⟨b,o+6,none⟩=some x.c6∧w.cell? ⟨b,o+7,none⟩=some x.c7
theorem Cell8.ext {w w':World} (h:Ext w w') (b o:Nat) (x:V8) (k:Cell8 w b o x):Cell8 w' b o x:=
 ⟨h.keep k.1,h.keep k.2.1,h.keep k.2.2.1,h.keep k.2.2.2.1,h.keep k.2.2.2.2.1,h.keep k.2.2.2.2.2.1,h.keep k.2.2.2.2.2.2.1,h.keep k.2.2.2.2.2.2.2⟩
def Cells8 (w:World) (a:Option Addr) (us:List V8):Prop:=∀(i:Nat) (h:i<us.length),∃b off,a=some ⟨b,off,none⟩∧Cell8 w b (off+i*8) us[i]
theorem Cells8.ext {w w':World} {a:Option Addr} {us:List V8} (h:Ext w w') (k:Cells8 w a us):Cells8 w' a us:=fun i hi=>let ⟨b,o,he,hc⟩:=k i hi;⟨b,o,he,hc.ext h⟩
def Slice8 {α:Type} (U:α→V8) (w:World) (v:Value) (xs:List α):Prop:=∃a c,v= .slice a xs.length c∧xs.length≤c∧xs.length≤1000∧Cells8 w a (xs.map U)
theorem Slice8.ext {α:Type} {U:α→V8} {w w':World} {v:Value} {xs:List α} (h:Ext w w') (k:Slice8 U w v xs):Slice8 U w' v xs:=
 let ⟨a,c,he,h1,h2,hc⟩:=k;⟨a,c,he,h1,h2,hc.ext h⟩
structure Par where
 owner:Int
 value:Int
 slo:Int
 shi:Int
deriving Inhabited
abbrev Par.c (x:Par):V4:=⟨.int .i64 x.owner,.int .i64 x.value,.int .i64 x.slo,.int .i64 x.shi⟩
structure Ent where
 kind:Int
 parcel:Int
 other:Int
 frm:Int
 to:Int
 part:Int
 dlo:Int
 dhi:Int
deriving Inhabited
abbrev Ent.c (x:Ent):V8:=⟨.int .i64 x.kind,.int .i64 x.parcel,.int .i64 x.other,.int .i64 x.frm,.int .i64 x.to,.int .i64 x.part,.int .i64 x.dlo,.int .i64 x.dhi⟩
structure Cov where
 soc:Int
 owner:Int
 parcel:Int
 sum:Int
 till:Int
 slo:Int
 shi:Int
deriving Inhabited
abbrev Cov.c (x:Cov):V7:=⟨.int .i64 x.soc,.int .i64 x.owner,.int .i64 x.parcel,.int .i64 x.sum,.int .i64 x.till,.int .i64 x.slo,.int .i64 x.shi⟩
structure Clm where
 soc:Int
 plo:Int
 phi:Int
deriving Inhabited
abbrev Clm.c (x:Clm):V3:=⟨.int .i64 x.soc,.int .i64 x.plo,.int .i64 x.phi⟩
structure Bk where
 last:Int
 owners:Int
 pars:List Par
 ents:List Ent
structure DCas where
 bk:Bk
 soc:Int
 day:Int
 parcel:Int
 covs:List Cov
 llo:Int
 lhi:Int
 clms:List Clm
def ParsV:World→Value→List Par→Prop:=Slice4 Par.c
def EntsV:World→Value→List Ent→Prop:=Slice8 Ent.c
def CovsV:World→Value→List Cov→Prop:=Slice7 Cov.c
def ClmsV:World→Value→List Clm→Prop:=Slice3 Clm.c
theorem ParsV.ext {w w':World} {v:Value} {l:List Par} (h:Ext w w') (k:ParsV w v l):ParsV w' v l:=Slice4.ext h k
theorem EntsV.ext {w w':World} {v:Value} {l:List Ent} (h:Ext w w') (k:EntsV w v l):EntsV w' v l:=Slice8.ext h k
theorem CovsV.ext {w w':World} {v:Value} {l:List Cov} (h:Ext w w') (k:CovsV w v l):CovsV w' v l:=Slice7.ext h k
theorem ClmsV.ext {w w':World} {v:Value} {l:List Clm} (h:Ext w w') (k:ClmsV w v l):ClmsV w' v l:=Slice3.ext h k
def bkV (a1:Option Addr) (n1 c1:Nat) (a2:Option Addr) (n2 c2:Nat) (last owners:Int):Value:= .agg #[.int .i64 last,.int .i64 owners,.slice a1 n1 c1,.slice a2 n2 c2]
def BkV (w:World) (v:Value) (b:Bk):Prop:=∃vp ve,v= .agg #[.int .i64 b.last,.int .i64 b.owners,vp,ve]∧ParsV w vp b.pars∧EntsV w ve b.ents
theorem BkV.ext {w w':World} {v:Value} {b:Bk} (k:BkV w v b) (h:Ext w w'):BkV w' v b:=let ⟨vp,ve,e,h1,h2⟩:=k;⟨vp,ve,e,ParsV.ext h h1,EntsV.ext h h2⟩
theorem BkV.open {w:World} {v:Value} {b:Bk} (h:BkV w v b):∃a1 c1 a2 c2,v=bkV a1 b.pars.length c1 a2 b.ents.length c2 b.last b.owners∧Cells4 w a1 (b.pars.map Par.c)∧Cells8 w a2 (b.ents.map Ent.c)∧b.pars.length≤c1∧b.ents.length≤c2∧b.pars.length≤1000∧b.ents.length≤1000:=by
 obtain⟨vp,ve,rfl,⟨a1,c1,rfl,h1,h2,h3⟩,⟨a2,c2,rfl,k1,k2,k3⟩⟩:=h;exact⟨a1,c1,a2,c2,rfl,h3,k3,h1,k1,h2,k2⟩
def numsTo (b:Bk) (n:Nat):Nat:=b.pars.length+((b.ents.take n).countP fun e=>decide (e.kind=1))
def numsB (b:Bk):Nat:=numsTo b b.ents.length
def ownerB (b:Bk) (n:Int):Bool:=inR n 0 (b.owners - 1)
def dayB (b:Bk) (n:Int):Bool:=inR n 0 b.last
def daysB (b:Bk) (lo hi:Int):Bool:=dayB b lo&&(dayB b hi&&decide (lo≤hi))
def numberB (b:Bk) (n:Int):Bool:=inR n 0 ((numsB b:Int) - 1)
def parB (b:Bk) (p:Par):Bool:=ownerB b p.owner&&(inR p.value 0 1000&&daysB b p.slo p.shi)
def kindB (b:Bk) (e:Ent):Bool:=
 if e.kind=0 then (decide (e.other=0)&&decide (e.part=0))&&(ownerB b e.frm&&(ownerB b e.to&&decide (e.frm≠e.to)))
 else if e.kind=1 then (decide (e.other=0)&&(decide (e.frm=0)&&decide (e.to=0)))&&inR e.part 1 1000
 else if e.kind=2 then (decide (e.part=0)&&(decide (e.frm=0)&&decide (e.to=0)))&&(numberB b e.other&&decide (e.other≠e.parcel))
 else if e.kind=3 then decide (e.other=0)&&(decide (e.part=0)&&(decide (e.frm=0)&&decide (e.to=0)))
 else false
def entB (b:Bk) (e:Ent):Bool:=(numberB b e.parcel&&daysB b e.dlo e.dhi)&&kindB b e
def rngsB (b:Bk):List (Int×Int):=b.ents.map (fun e=>(e.dlo,e.dhi))++b.pars.map (fun p=>(p.slo,p.shi))
def manyL (cap:Int) (l:List (Int×Int)):Int:=l.foldl (fun n r=>min (n*(r.2 - r.1+1)) (cap+1)) 1
def bookE (b:Bk):Int:=
 if 4<b.owners∨4<b.pars.length∨6<b.ents.length then 3
 else if inR b.last 0 30&&(decide (1≤b.owners)&&(b.pars.all (parB b)&&b.ents.all (entB b))) then (if 1000<manyL 1000 (rngsB b) then 3 else 0)
 else 1
end Go.Hs
