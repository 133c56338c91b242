/- Bundled: what the texts OF HTR say one after another. -/
import Derived.Test.YtegkdnfeceomdaaGreatKDA26
import Derived.Test.YtegkdnfeceomdaaGreatKDA17
import Derived.Test.YtegkdnfeceomdaaGreatKDC7
import Derived.Test.YtegkdnfeceomdaaGreatKDC9
import Derived.Test.YtegkdnfeceomdaaGreatKDA27
import Derived.Test.YtegkdnfeceomdaaGreatKDA4
set_option maxRecDepth 100000
set_option maxHeartbeats 16000000
set_option linter.unusedSimpArgs false
set_option linter.unusedVariables false
namespace Go.Hs
open Go.RowKit
structure ParI (x:Par):Prop where
 owner:i64ok x.owner
 value:i64ok x.value
 slo:i64ok x.slo
 shi:i64ok x.shi
def ParAtW (w:World) (b o:Nat) (x:Par):Prop:=Cell4 w b o x.c∧ParI x
def ParsW:World→Value→List Par→Prop:=SliceW ParAtW 4
theorem ParsW.toV {w:World} {v:Value} {l:List Par} (h:ParsW w v l) (hl:l.length≤1000):ParsV w v l:=by
 obtain⟨a,c,he,h1,-,hr⟩:=h;refine⟨a,c,he,h1,hl,fun i hi=> ?_⟩
 have hi':i<l.length:=by simpa using hi
 obtain⟨b,o,hb,hx,-⟩:=hr i hi';exact⟨b,o,hb,by simpa using hx⟩
theorem ParsW.ok {w:World} {v:Value} {l:List Par} (h:ParsW w v l):∀f,f∈l→ParI f:=fun f hf=>by
 obtain⟨a,k,-,-,-,hr⟩:=h;obtain⟨i,hi,rfl⟩:=List.getElem_of_mem hf;obtain⟨b,o,-,-,hx⟩:=hr i hi;exact hx
structure EntI (x:Ent):Prop where
 kind:i64ok x.kind
 parcel:i64ok x.parcel
 other:i64ok x.other
 frm:i64ok x.frm
 tt:i64ok x.to
 part:i64ok x.part
 dlo:i64ok x.dlo
 dhi:i64ok x.dhi
def EntAtW (w:World) (b o:Nat) (x:Ent):Prop:=Cell8 w b o x.c∧EntI x
def EntsW:World→Value→List Ent→Prop:=SliceW EntAtW 8
theorem EntsW.toV {w:World} {v:Value} {l:List Ent} (h:EntsW w v l) (hl:l.length≤1000):EntsV w v l:=by
 obtain⟨a,c,he,h1,-,hr⟩:=h;refine⟨a,c,he,h1,hl,fun i hi=> ?_⟩
 have hi':i<l.length:=by simpa using hi
 obtain⟨b,o,hb,hx,-⟩:=hr i hi';exact⟨b,o,hb,by simpa using hx⟩
theorem EntsW.ok {w:World} {v:Value} {l:List Ent} (h:EntsW w v l):∀f,f∈l→EntI f:=fun f hf=>by
 obtain⟨a,k,-,-,-,hr⟩:=h;obtain⟨i,hi,rfl⟩:=List.getElem_of_mem hf;obtain⟨b,o,-,-,hx⟩:=hr i hi;exact hx
structure CovI (x:Cov):Prop where
 soc:i64ok x.soc
 owner:i64ok x.owner
 parcel:i64ok x.parcel
 sum:i64ok x.sum
 till:i64ok x.till
 slo:i64ok x.slo
 shi:i64ok x.shi
def CovAtW (w:World) (b o:Nat) (x:Cov):Prop:=Cell7 w b o x.c∧CovI x
def CovsW:World→Value→List Cov→Prop:=SliceW CovAtW 7
theorem CovsW.toV {w:World} {v:Value} {l:List Cov} (h:CovsW w v l) (hl:l.length≤1000):CovsV w v l:=by
 obtain⟨a,c,he,h1,-,hr⟩:=h;refine⟨a,c,he,h1,hl,fun i hi=> ?_⟩
 have hi':i<l.length:=by simpa using hi
 obtain⟨b,o,hb,hx,-⟩:=hr i hi';exact⟨b,o,hb,by simpa using hx⟩
theorem CovsW.ok {w:World} {v:Value} {l:List Cov} (h:CovsW w v l):∀f,f∈l→CovI f:=fun f hf=>by
 obtain⟨a,k,-,-,-,hr⟩:=h;obtain⟨i,hi,rfl⟩:=List.getElem_of_mem hf;obtain⟨b,o,-,-,hx⟩:=hr i hi;exact hx
structure ClmI (x:Clm):Prop where
 soc:i64ok x.soc
 plo:i64ok x.plo
 phi:i64ok x.phi
def ClmAtW (w:World) (b o:Nat) (x:Clm):Prop:=Cell3 w b o x.c∧ClmI x
def ClmsW:World→Value→List Clm→Prop:=SliceW ClmAtW 3
theorem ClmsW.toV {w:World} {v:Value} {l:List Clm} (h:ClmsW w v l) (hl:l.length≤1000):ClmsV w v l:=by
 obtain⟨a,c,he,h1,-,hr⟩:=h;refine⟨a,c,he,h1,hl,fun i hi=> ?_⟩
 have hi':i<l.length:=by simpa using hi
 obtain⟨b,o,hb,hx,-⟩:=hr i hi';exact⟨b,o,hb,by simpa using hx⟩
theorem ClmsW.ok {w:World} {v:Value} {l:List Clm} (h:ClmsW w v l):∀f,f∈l→ClmI f:=fun f hf=>by
 obtain⟨a,k,-,-,-,hr⟩:=h;obtain⟨i,hi,rfl⟩:=List.getElem_of_mem hf;obtain⟨b,o,-,-,hx⟩:=hr i hi;exact hx
structure DCasI (c:DCas):Prop where
 last:i64ok c.bk.last
 owners:i64ok c.bk.owners
 soc:i64ok c.soc
 day:i64ok c.day
 parcel:i64ok c.parcel
 llo:i64ok c.llo
 lhi:i64ok c.lhi
def DCasW (w:World) (v:Value) (c:DCas):Prop:=∃vp ve vc vm,v= .agg #[.int .i64 c.bk.last,.int .i64 c.bk.owners,vp,ve,.int .i64 c.soc,.int .i64 c.day,.int .i64 c.parcel,vc,.int .i64 c.llo,.int .i64 c.lhi,vm]∧ParsW w vp c.bk.pars∧EntsW w ve c.bk.ents∧CovsW w vc c.covs∧ClmsW w vm c.clms∧DCasI c
def DTruW (w:World) (v:Value) (t:DTr):Prop:=∃vd vs vst,v= .agg #[vd,vs,vst,.int .i64 t.loss]∧IntsW w vd t.days∧IntsW w vs t.sown∧IntsW w vst t.starts∧i64ok t.loss
theorem DCasW.toM {w:World} {v:Value} {c:DCas} (h:DCasW w v c) (h1:c.bk.pars.length≤1000) (h2:c.bk.ents.length≤1000) (h3:c.covs.length≤1000) (h4:c.clms.length≤1000):∃A,v=A.v c∧CaseM w A c:=by
 obtain⟨vp,ve,vc,vm,rfl,k1,k2,k3,k4,-⟩:=h;obtain⟨a1,c1,rfl,g1,-,e1⟩:=k1.toV h1;obtain⟨a2,c2,rfl,g2,-,e2⟩:=k2.toV h2;obtain⟨a3,c3,rfl,g3,-,e3⟩:=k3.toV h3;obtain⟨a4,c4,rfl,g4,-,e4⟩:=k4.toV h4;exact⟨⟨a1,c1,a2,c2,a3,c3,a4,c4⟩,rfl,e1,e2,e3,e4,⟨g1,h1⟩,⟨g2,h2⟩,⟨g3,h3⟩,⟨g4,h4⟩⟩
theorem IntsW.toK {w:World} {v:Value} {xs:List Int} (h:IntsW w v xs) (hl:xs.length≤1000):IntsV w v xs:=by
 obtain⟨a,c,he,h1,-,hr⟩:=h;exact⟨a,c,he,h1,by omega,hr⟩
theorem DTruW.toV {w:World} {v:Value} {t:DTr} (h:DTruW w v t) (h1:t.days.length≤1000) (h2:t.sown.length≤1000) (h3:t.starts.length≤1000):TruV w v t:=by
 obtain⟨vd,vs,vst,rfl,k1,k2,k3,-⟩:=h;exact⟨_,_,_,rfl,k1.toK h1,k2.toK h2,k3.toK h3⟩
end Go.Hs
namespace Go.Proofs.YtegkdnfeceomdaaGreat
open Go.ChangeShapes Go.WideShapes Go.ChangeAt Go.RowKit Go.Deep Go.Hs
section
variable {H:Type} {enc:TypeId×Value→H} {w:World} {base:Nat} {spare:Nat→Bool} {held:Bool}
theorem kk_int:Tryz.prog.cellsOf 3=1:=by kernel_rfl
theorem kk_range:Tryz.prog.cellsOf 38=2:=by kernel_rfl
theorem kk_ints:Tryz.prog.cellsOf 22=1:=by kernel_rfl
theorem kk_pars:Tryz.prog.cellsOf 32=1:=by kernel_rfl
theorem kk_ents:Tryz.prog.cellsOf 33=1:=by kernel_rfl
theorem kk_book:Tryz.prog.cellsOf 35=4:=by kernel_rfl
theorem kk_tru:Tryz.prog.cellsOf 43=2:=by kernel_rfl
theorem kk_covs:Tryz.prog.cellsOf 36=1:=by kernel_rfl
theorem kk_clms:Tryz.prog.cellsOf 39=1:=by kernel_rfl
theorem kk_case:Tryz.prog.cellsOf 41=11:=by kernel_rfl
theorem gett_some {α:Type} {l:List α} {i:Nat} (h:i<l.length):∃y,l[i]?=some y:=⟨l[i],by simp [h]⟩
theorem intt_cell {n:Nat} {v:Value} {y:DataW H×List MemPlace} (h:DataW.trod enc Tryz.prog w base spare held n 3 [v]=some y):∃z,v= .int .i64 z∧i64ok z:=by
 obtain⟨z,he,-,hw⟩:=DataW.trod_int Tryz.underlying3 h;simp at he
 exact⟨z,he,bd_of_wf hw⟩
theorem rng_cells {n:Nat} {a b:Value} {y:DataW H×List MemPlace} (h:DataW.trod enc Tryz.prog w base spare held n 38 [a,b]=some y):∃x z,a= .int .i64 x∧b= .int .i64 z∧i64ok x∧i64ok z:=by
 obtain⟨xs,m,-,-,-,hl,hg⟩:=DataW.trod_struct Tryz.underlying38 h;obtain⟨y0,e0⟩:=gett_some (l:=xs) (i:=0) (by rw [hl];decide);obtain⟨y1,e1⟩:=gett_some (l:=xs) (i:=1) (by rw [hl];decide);have g0:=hg 0 _ rfl;have g1:=hg 1 _ rfl;rw [e0] at g0;rw [e1] at g1;simp [kk_int,kk_range,kk_ints,kk_pars,kk_ents,kk_book,kk_tru,kk_covs,kk_clms] at g0 g1
 obtain⟨x,hx,ox⟩:=intt_cell g0;obtain⟨z,hz,oz⟩:=intt_cell g1;exact⟨x,z,hx,hz,ox,oz⟩
theorem par_cells {n:Nat} {c0 c1 c2 c3:Value} {y:DataW H×List MemPlace} (h:DataW.trod enc Tryz.prog w base spare held n 214 [c0,c1,c2,c3]=some y):
  ∃f:Par,c0= .int .i64 f.owner∧c1= .int .i64 f.value∧c2= .int .i64 f.slo∧c3= .int .i64 f.shi∧ParI f:=by
 obtain⟨xs,m,-,-,-,hl,hg⟩:=DataW.trod_struct Tryz.underlying214 h;obtain⟨y0,e0⟩:=gett_some (l:=xs) (i:=0) (by rw [hl];decide);obtain⟨y1,e1⟩:=gett_some (l:=xs) (i:=1) (by rw [hl];decide);obtain⟨y2,e2⟩:=gett_some (l:=xs) (i:=2) (by rw [hl];decide);have g0:=hg 0 _ rfl;have g1:=hg 1 _ rfl;have g2:=hg 2 _ rfl;rw [e0] at g0;rw [e1] at g1;rw [e2] at g2;simp [kk_int,kk_range,kk_ints,kk_pars,kk_ents,kk_book,kk_tru,kk_covs,kk_clms] at g0 g1 g2
 obtain⟨x0,h0,o0⟩:=intt_cell g0;obtain⟨x1,h1,o1⟩:=intt_cell g1;obtain⟨x2,x3,h2,h3,o2,o3⟩:=rng_cells g2;exact⟨⟨x0,x1,x2,x3⟩,h0,h1,h2,h3,o0,o1,o2,o3⟩
theorem par_open1 {b o:Nat} {cs:List Value} {n:Nat} {y:DataW H×List MemPlace} (hc:w.cells? base ⟨b,o,none⟩ (3+1)=some cs) (hd:DataW.trod enc Tryz.prog w base spare held n 214 cs=some y):∃c,ParAtW w b o c:=by
  obtain⟨-,hl,hat⟩:=World.cells?_some hc;match cs,hl with
  | [v0, v1, v2, v3], _ =>
    obtain⟨c,rfl,rfl,rfl,rfl,hok⟩:=par_cells hd;have g0:=hat 0 (by omega);have g1:=hat 1 (by omega);have g2:=hat 2 (by omega);have g3:=hat 3 (by omega);simp [add_none] at g0 g1 g2 g3
    exact⟨c,⟨g0,g1,g2,g3⟩,hok⟩
theorem pars_open {fuel:Nat} {v:Value} {x:DataW H×List MemPlace} (h:DataW.trod enc Tryz.prog w base spare held fuel 32 [v]=some x):∃l,ParsW w v l:=
 slice_open (k:=3) Tryz.underlying32 (by kernel_rfl) (fun _ _ _ _ _ hc hd=>par_open1 hc hd) h
theorem ent_cells {n:Nat} {c0 c1 c2 c3 c4 c5 c6 c7:Value} {y:DataW H×List MemPlace} (h:DataW.trod enc Tryz.prog w base spare held n 217 [c0,c1,c2,c3,c4,c5,c6,c7]=some y):
  ∃f:Ent,c0= .int .i64 f.kind∧c1= .int .i64 f.parcel∧c2= .int .i64 f.other∧c3= .int .i64 f.frm∧c4= .int .i64 f.to∧c5= .int .i64 f.part∧c6= .int .i64 f.dlo∧c7= .int .i64 f.dhi∧EntI f:=by
 obtain⟨xs,m,-,-,-,hl,hg⟩:=DataW.trod_struct Tryz.underlying217 h;obtain⟨y0,e0⟩:=gett_some (l:=xs) (i:=0) (by rw [hl];decide);obtain⟨y1,e1⟩:=gett_some (l:=xs) (i:=1) (by rw [hl];decide);obtain⟨y2,e2⟩:=gett_some (l:=xs) (i:=2) (by rw [hl];decide);obtain⟨y3,e3⟩:=gett_some (l:=xs) (i:=3) (by rw [hl];decide);obtain⟨y4,e4⟩:=gett_some (l:=xs) (i:=4) (by rw [hl];decide);obtain⟨y5,e5⟩:=gett_some (l:=xs) (i:=5) (by rw [hl];decide);obtain⟨y6,e6⟩:=gett_some (l:=xs) (i:=6) (by rw [hl];decide);have g0:=hg 0 _ rfl;have g1:=hg 1 _ rfl;have g2:=hg 2 _ rfl;have g3:=hg 3 _ rfl;have g4:=hg 4 _ rfl;have g5:=hg 5 _ rfl;have g6:=hg 6 _ rfl;rw [e0] at g0;rw [e1] at g1;rw [e2] at g2;rw [e3] at g3;rw [e4] at g4;rw [e5] at g5;rw [e6] at g6;simp [kk_int,kk_range,kk_ints,kk_pars,kk_ents,kk_book,kk_tru,kk_covs,kk_clms] at g0 g1 g2 g3 g4 g5 g6
 obtain⟨x0,h0,o0⟩:=intt_cell g0;obtain⟨x1,h1,o1⟩:=intt_cell g1;obtain⟨x2,h2,o2⟩:=intt_cell g2;obtain⟨x3,h3,o3⟩:=intt_cell g3;obtain⟨x4,h4,o4⟩:=intt_cell g4;obtain⟨x5,h5,o5⟩:=intt_cell g5;obtain⟨x6,x7,h6,h7,o6,o7⟩:=rng_cells g6;exact⟨⟨x0,x1,x2,x3,x4,x5,x6,x7⟩,h0,h1,h2,h3,h4,h5,h6,h7,o0,o1,o2,o3,o4,o5,o6,o7⟩
theorem ent_open1 {b o:Nat} {cs:List Value} {n:Nat} {y:DataW H×List MemPlace} (hc:w.cells? base ⟨b,o,none⟩ (7+1)=some cs) (hd:DataW.trod enc Tryz.prog w base spare held n 217 cs=some y):∃c,EntAtW w b o c:=by
  obtain⟨-,hl,hat⟩:=World.cells?_some hc;match cs,hl with
  | [v0, v1, v2, v3, v4, v5, v6, v7], _ =>
    obtain⟨c,rfl,rfl,rfl,rfl,rfl,rfl,rfl,rfl,hok⟩:=ent_cells hd;have g0:=hat 0 (by omega);have g1:=hat 1 (by omega);have g2:=hat 2 (by omega);have g3:=hat 3 (by omega);have g4:=hat 4 (by omega);have g5:=hat 5 (by omega);have g6:=hat 6 (by omega);have g7:=hat 7 (by omega);simp [add_none] at g0 g1 g2 g3 g4 g5 g6 g7
    exact⟨c,⟨g0,g1,g2,g3,g4,g5,g6,g7⟩,hok⟩
theorem ents_open {fuel:Nat} {v:Value} {x:DataW H×List MemPlace} (h:DataW.trod enc Tryz.prog w base spare held fuel 33 [v]=some x):∃l,EntsW w v l:=
 slice_open (k:=7) Tryz.underlying33 (by kernel_rfl) (fun _ _ _ _ _ hc hd=>ent_open1 hc hd) h
theorem cov_cells {n:Nat} {c0 c1 c2 c3 c4 c5 c6:Value} {y:DataW H×List MemPlace} (h:DataW.trod enc Tryz.prog w base spare held n 108 [c0,c1,c2,c3,c4,c5,c6]=some y):
  ∃f:Cov,c0= .int .i64 f.soc∧c1= .int .i64 f.owner∧c2= .int .i64 f.parcel∧c3= .int .i64 f.sum∧c4= .int .i64 f.till∧c5= .int .i64 f.slo∧c6= .int .i64 f.shi∧CovI f:=by
 obtain⟨xs,m,-,-,-,hl,hg⟩:=DataW.trod_struct Tryz.underlying108 h;obtain⟨y0,e0⟩:=gett_some (l:=xs) (i:=0) (by rw [hl];decide);obtain⟨y1,e1⟩:=gett_some (l:=xs) (i:=1) (by rw [hl];decide);obtain⟨y2,e2⟩:=gett_some (l:=xs) (i:=2) (by rw [hl];decide);obtain⟨y3,e3⟩:=gett_some (l:=xs) (i:=3) (by rw [hl];decide);obtain⟨y4,e4⟩:=gett_some (l:=xs) (i:=4) (by rw [hl];decide);obtain⟨y5,e5⟩:=gett_some (l:=xs) (i:=5) (by rw [hl];decide);have g0:=hg 0 _ rfl;have g1:=hg 1 _ rfl;have g2:=hg 2 _ rfl;have g3:=hg 3 _ rfl;have g4:=hg 4 _ rfl;have g5:=hg 5 _ rfl;rw [e0] at g0;rw [e1] at g1;rw [e2] at g2;rw [e3] at g3;rw [e4] at g4;rw [e5] at g5;simp [kk_int,kk_range,kk_ints,kk_pars,kk_ents,kk_book,kk_tru,kk_covs,kk_clms] at g0 g1 g2 g3 g4 g5
 obtain⟨x0,h0,o0⟩:=intt_cell g0;obtain⟨x1,h1,o1⟩:=intt_cell g1;obtain⟨x2,h2,o2⟩:=intt_cell g2;obtain⟨x3,h3,o3⟩:=intt_cell g3;obtain⟨x4,h4,o4⟩:=intt_cell g4;obtain⟨x5,x6,h5,h6,o5,o6⟩:=rng_cells g5;exact⟨⟨x0,x1,x2,x3,x4,x5,x6⟩,h0,h1,h2,h3,h4,h5,h6,o0,o1,o2,o3,o4,o5,o6⟩
theorem cov_open1 {b o:Nat} {cs:List Value} {n:Nat} {y:DataW H×List MemPlace} (hc:w.cells? base ⟨b,o,none⟩ (6+1)=some cs) (hd:DataW.trod enc Tryz.prog w base spare held n 108 cs=some y):∃c,CovAtW w b o c:=by
  obtain⟨-,hl,hat⟩:=World.cells?_some hc;match cs,hl with
  | [v0, v1, v2, v3, v4, v5, v6], _ =>
    obtain⟨c,rfl,rfl,rfl,rfl,rfl,rfl,rfl,hok⟩:=cov_cells hd;have g0:=hat 0 (by omega);have g1:=hat 1 (by omega);have g2:=hat 2 (by omega);have g3:=hat 3 (by omega);have g4:=hat 4 (by omega);have g5:=hat 5 (by omega);have g6:=hat 6 (by omega);simp [add_none] at g0 g1 g2 g3 g4 g5 g6
    exact⟨c,⟨g0,g1,g2,g3,g4,g5,g6⟩,hok⟩
theorem covs_open {fuel:Nat} {v:Value} {x:DataW H×List MemPlace} (h:DataW.trod enc Tryz.prog w base spare held fuel 36 [v]=some x):∃l,CovsW w v l:=
 slice_open (k:=6) Tryz.underlying36 (by kernel_rfl) (fun _ _ _ _ _ hc hd=>cov_open1 hc hd) h
theorem clm_cells {n:Nat} {c0 c1 c2:Value} {y:DataW H×List MemPlace} (h:DataW.trod enc Tryz.prog w base spare held n 103 [c0,c1,c2]=some y):
  ∃f:Clm,c0= .int .i64 f.soc∧c1= .int .i64 f.plo∧c2= .int .i64 f.phi∧ClmI f:=by
 obtain⟨xs,m,-,-,-,hl,hg⟩:=DataW.trod_struct Tryz.underlying103 h;obtain⟨y0,e0⟩:=gett_some (l:=xs) (i:=0) (by rw [hl];decide);obtain⟨y1,e1⟩:=gett_some (l:=xs) (i:=1) (by rw [hl];decide);have g0:=hg 0 _ rfl;have g1:=hg 1 _ rfl;rw [e0] at g0;rw [e1] at g1;simp [kk_int,kk_range,kk_ints,kk_pars,kk_ents,kk_book,kk_tru,kk_covs,kk_clms] at g0 g1
 obtain⟨x0,h0,o0⟩:=intt_cell g0;obtain⟨x1,x2,h1,h2,o1,o2⟩:=rng_cells g1;exact⟨⟨x0,x1,x2⟩,h0,h1,h2,o0,o1,o2⟩
theorem clm_open1 {b o:Nat} {cs:List Value} {n:Nat} {y:DataW H×List MemPlace} (hc:w.cells? base ⟨b,o,none⟩ (2+1)=some cs) (hd:DataW.trod enc Tryz.prog w base spare held n 103 cs=some y):∃c,ClmAtW w b o c:=by
  obtain⟨-,hl,hat⟩:=World.cells?_some hc;match cs,hl with
  | [v0, v1, v2], _ =>
    obtain⟨c,rfl,rfl,rfl,hok⟩:=clm_cells hd;have g0:=hat 0 (by omega);have g1:=hat 1 (by omega);have g2:=hat 2 (by omega);simp [add_none] at g0 g1 g2
    exact⟨c,⟨g0,g1,g2⟩,hok⟩
theorem clms_open {fuel:Nat} {v:Value} {x:DataW H×List MemPlace} (h:DataW.trod enc Tryz.prog w base spare held fuel 39 [v]=some x):∃l,ClmsW w v l:=
 slice_open (k:=2) Tryz.underlying39 (by kernel_rfl) (fun _ _ _ _ _ hc hd=>clm_open1 hc hd) h
theorem openn_agg_11 {P:Program} {r:Reach} {b0:Nat} {t:TypeId} {fs:Array Field} {v:Value} {d:DataW H} {p:List MemPlace} (hs:P.underlying t=some (.struct fs)) (hC:P.cellsOf t=11) (hv:Value.okWide P w r b0 t v) (h:DataW.Trod enc P w base spare held t v d p):
    ∃c0 c1 c2 c3 c4 c5 c6 c7 c8 c9 c10 n y,v= .agg #[c0,c1,c2,c3,c4,c5,c6,c7,c8,c9,c10]∧DataW.trod enc P w base spare held n t [c0,c1,c2,c3,c4,c5,c6,c7,c8,c9,c10]=some y:=by
  obtain⟨cs,rfl,hsz⟩:=okWide_struct hs hv;obtain⟨l⟩:=cs;match l,hsz.trans hC with
  | [c0, c1, c2, c3, c4, c5, c6, c7, c8, c9, c10], _ =>
    obtain⟨fuel,hf⟩:=h;exact⟨c0,c1,c2,c3,c4,c5,c6,c7,c8,c9,c10,fuel,_,rfl,hf⟩
theorem bk_cells {n:Nat} {a b c d:Value} {y:DataW H×List MemPlace} (h:DataW.trod enc Tryz.prog w base spare held n 35 [a,b,c,d]=some y):∃x z ps es,a= .int .i64 x∧b= .int .i64 z∧i64ok x∧i64ok z∧ParsW w c ps∧EntsW w d es:=by
 obtain⟨xs,m,-,-,-,hl,hg⟩:=DataW.trod_struct Tryz.underlying35 h;obtain⟨y0,e0⟩:=gett_some (l:=xs) (i:=0) (by rw [hl];decide);obtain⟨y1,e1⟩:=gett_some (l:=xs) (i:=1) (by rw [hl];decide);obtain⟨y2,e2⟩:=gett_some (l:=xs) (i:=2) (by rw [hl];decide);obtain⟨y3,e3⟩:=gett_some (l:=xs) (i:=3) (by rw [hl];decide);have g0:=hg 0 _ rfl;have g1:=hg 1 _ rfl;have g2:=hg 2 _ rfl;have g3:=hg 3 _ rfl;rw [e0] at g0;rw [e1] at g1;rw [e2] at g2;rw [e3] at g3;simp [kk_int,kk_range,kk_ints,kk_pars,kk_ents,kk_book,kk_tru,kk_covs,kk_clms] at g0 g1 g2 g3
 obtain⟨x,hx,ox⟩:=intt_cell g0;obtain⟨z,hz,oz⟩:=intt_cell g1;obtain⟨ps,hp⟩:=pars_open g2;obtain⟨es,he⟩:=ents_open g3;exact⟨x,z,ps,es,hx,hz,ox,oz,hp,he⟩
theorem dcase_open {r:Reach} {b0:Nat} {v:Value} {d:DataW H} {p:List MemPlace} (hv:Value.okWide Tryz.prog w r b0 41 v) (h0:DataW.Trod enc Tryz.prog w base spare held 41 v d p):
  ∃c:DCas,DCasW w v c:=by
 obtain⟨c0,c1,c2,c3,c4,c5,c6,c7,c8,c9,c10,n,y,rfl,h⟩:=openn_agg_11 Tryz.underlying41 kk_case hv h0;obtain⟨xs,m,-,-,-,hl,hg⟩:=DataW.trod_struct Tryz.underlying41 h;obtain⟨y0,e0⟩:=gett_some (l:=xs) (i:=0) (by rw [hl];decide);obtain⟨y1,e1⟩:=gett_some (l:=xs) (i:=1) (by rw [hl];decide);obtain⟨y2,e2⟩:=gett_some (l:=xs) (i:=2) (by rw [hl];decide);obtain⟨y3,e3⟩:=gett_some (l:=xs) (i:=3) (by rw [hl];decide);obtain⟨y4,e4⟩:=gett_some (l:=xs) (i:=4) (by rw [hl];decide);obtain⟨y5,e5⟩:=gett_some (l:=xs) (i:=5) (by rw [hl];decide);obtain⟨y6,e6⟩:=gett_some (l:=xs) (i:=6) (by rw [hl];decide);have g0:=hg 0 _ rfl;have g1:=hg 1 _ rfl;have g2:=hg 2 _ rfl;have g3:=hg 3 _ rfl;have g4:=hg 4 _ rfl;have g5:=hg 5 _ rfl;have g6:=hg 6 _ rfl;rw [e0] at g0;rw [e1] at g1;rw [e2] at g2;rw [e3] at g3;rw [e4] at g4;rw [e5] at g5;rw [e6] at g6;simp [kk_int,kk_range,kk_ints,kk_pars,kk_ents,kk_book,kk_tru,kk_covs,kk_clms] at g0 g1 g2 g3 g4 g5 g6
 obtain⟨la,ow,ps,es,rfl,rfl,o1,o2,hp,he⟩:=bk_cells g0;obtain⟨soc,rfl,o3⟩:=intt_cell g1;obtain⟨day,rfl,o4⟩:=intt_cell g2;obtain⟨pa,rfl,o5⟩:=intt_cell g3;obtain⟨cs,hc⟩:=covs_open g4;obtain⟨lo,hi,rfl,rfl,o6,o7⟩:=rng_cells g5;obtain⟨ms,hm⟩:=clms_open g6;exact⟨⟨⟨la,ow,ps,es⟩,soc,day,pa,cs,lo,hi,ms⟩,_,_,_,_,rfl,hp,he,hc,hm,⟨o1,o2,o3,o4,o5,o6,o7⟩⟩
end
end Go.Proofs.YtegkdnfeceomdaaGreat
namespace Go.Hs
open Go.RowKit
def thinD (c:DCas):Bool:=decide (c.covs.length≤8)&&(decide (c.clms.length≤8)&&((decide (c.bk.pars.length≤7)&&decide (c.bk.ents.length≤9))&&(decide (caseD c≠0)||decide (manyC c≤300))))
theorem thinD_len {c:DCas} (h:thinD c=true):c.covs.length≤8∧c.clms.length≤8∧c.bk.pars.length≤7∧c.bk.ents.length≤9:=by
 simp only [thinD,Bool.and_eq_true,decide_eq_true_eq] at h;exact⟨h.1,h.2.1,h.2.2.1.1,h.2.2.1.2⟩
theorem DCasW.parts {w:World} {v:Value} {c:DCas} (h:DCasW w v c):∃A:CaseA,v=A.v c∧(c.bk.pars.length≤1000→c.bk.ents.length≤1000→c.covs.length≤1000→c.clms.length≤1000→CaseM w A c):=by
 obtain⟨vp,ve,vc,vm,rfl,⟨a1,c1,rfl,-⟩,⟨a2,c2,rfl,-⟩,⟨a3,c3,rfl,-⟩,⟨a4,c4,rfl,-⟩,-⟩:=id h;refine⟨⟨a1,c1,a2,c2,a3,c3,a4,c4⟩,rfl,fun h1 h2 h3 h4=> ?_⟩
 obtain⟨⟨b1,d1,b2,d2,b3,d3,b4,d4⟩,e,hm⟩:=h.toM h1 h2 h3 h4;unfold CaseA.v caseV at e;simp only [Value.agg.injEq,Array.mk.injEq,List.cons.injEq,Value.slice.injEq,and_true,true_and] at e;obtain⟨⟨rfl,rfl⟩,⟨rfl,rfl⟩,⟨rfl,rfl⟩,rfl,rfl⟩:=e;exact hm
theorem DTruW.parts {w:World} {v:Value} {t:DTr} (h:DTruW w v t):∃ad cd as' cs at' ct,v= .agg #[.slice ad t.days.length cd,.slice as' t.sown.length cs,.slice at' t.starts.length ct,.int .i64 t.loss]∧(t.days.length≤1000→t.sown.length≤1000→t.starts.length≤1000→TruV w v t):=by
 obtain⟨vd,vs,vst,rfl,⟨a1,c1,rfl,-⟩,⟨a2,c2,rfl,-⟩,⟨a3,c3,rfl,-⟩,-⟩:=id h;exact⟨_,_,_,_,_,_,rfl,fun h1 h2 h3=>h.toV h1 h2 h3⟩
end Go.Hs
namespace Go.Proofs.YtegkdnfeceomdaaGreat
open Go.RowKit Go.Hs
attribute [local irreducible] World.setCell World.alloc
theorem Thin1_h (a1:Option Addr) (n1 c1:Nat) (a2:Option Addr) (n2 c2:Nat) (la ow:Int) (w:World):Calls Tryz.prog 67 #[.agg #[.int .i64 la,.int .i64 ow,.slice a1 n1 c1,.slice a2 n2 c2]] w fun e w'=>e= .returned (.bool (decide (n1≤7)&&decide (n2≤9)))∧Ext w w':=by
 by_cases h1:n1≤7
 ·have d1 : decide (n1 ≤ 7) = true := decide_eq_true h1; have e1 : decide ((n1 : Int) ≤ 7) = true := decide_eq_true (by omega); have e1' : (n1 : Int) ≤ 7 := by omega
  rw [d1,Bool.true_and];by_cases h2:n2≤9
  ·have d2 : decide (n2 ≤ 9) = true := decide_eq_true h2; have e2 : decide ((n2 : Int) ≤ 9) = true := decide_eq_true (by omega); have e2' : (n2 : Int) ≤ 9 := by omega
   rw [d2];go_enter Tryz.func67,Tryz.ntmps67
   (go_wp2_with fail);go_ret;exact⟨rfl,EX⟩
  ·have d2 : decide (n2 ≤ 9) = false := decide_eq_false h2; have e2 : decide ((n2 : Int) ≤ 9) = false := decide_eq_false (by omega); rw [d2]; go_enter Tryz.func67, Tryz.ntmps67
   (go_wp2_with fail);go_ret;exact⟨rfl,EX⟩
 ·have d1 : decide (n1 ≤ 7) = false := decide_eq_false h1; have e1 : decide ((n1 : Int) ≤ 7) = false := decide_eq_false (by omega); rw [d1, Bool.false_and]; go_enter Tryz.func67, Tryz.ntmps67
  (go_wp2_with fail);go_ret;exact⟨rfl,EX⟩
theorem Thin8_h (A : CaseA) (c : DCas) (w : World) (hm0 : c.bk.pars.length ≤ 1000 → c.bk.ents.length ≤ 1000 → c.covs.length ≤ 1000 → c.clms.length ≤ 1000 → CaseM w A c) : Calls Tryz.prog 24 #[A.v c] w fun e w' => e = .returned (.bool (thinD c)) ∧ Ext w w' := by
  have HT1:=hHd Thin1_h
  have HFM:Hid (c.bk.pars.length≤7→c.bk.ents.length≤9→c.covs.length≤8→c.clms.length≤8→∀W,Ext w W→Calls Tryz.prog 68 #[A.v c] W (fun e w'=>e= .returned (.int .i64 (caseD c))∧Ext W w')∧(caseD c=0→Calls Tryz.prog 47 #[A.v c] W fun e w'=>e= .returned (.int .i64 (manyC c))∧Ext W w')):=hHd (fun h1 h2 h3 h4 W hx=>by
    have hm:=hm0 (by omega) (by omega) (by omega) (by omega);exact⟨Fault_dh A c W (hm.ext hx),fun h0=>Many_dh A c W (hm.ext hx) (rngS_of (caseD_zero h0).2.1)⟩)
  clear hm0;obtain⟨a1,c1,a2,c2,a3,c3,a4,c4⟩:=A;unfold CaseA.v caseV at*;simp only at*;by_cases h3:c.covs.length≤8
  · have d3 : decide ((c.covs.length : Int) ≤ 8) = true := decide_eq_true (by omega); have d3' : (c.covs.length : Int) ≤ 8 := by omega
    by_cases h4:c.clms.length≤8
    · have d4 : decide ((c.clms.length : Int) ≤ 8) = true := decide_eq_true (by omega); have d4' : (c.clms.length : Int) ≤ 8 := by omega
      cases hb:(decide (c.bk.pars.length≤7)&&decide (c.bk.ents.length≤9)) with
      | true =>
        have hb1:c.bk.pars.length≤7∧c.bk.ents.length≤9:=by simpa using hb
        have HFM2:=hHd (HFM.out hb1.1 hb1.2 h3 h4);have HT2:Hid (∀W,Calls Tryz.prog 67 #[.agg #[.int .i64 c.bk.last,.int .i64 c.bk.owners,.slice a1 c.bk.pars.length c1,.slice a2 c.bk.ents.length c2]] W fun e w'=>e= .returned (.bool true)∧Ext W w'):=hHd (fun W=>by rw [←hb];exact HT1.out _ _ _ _ _ _ _ _ W);by_cases hc:caseD c=0
        · have HTH : Hid (thinD c = decide (manyC c ≤ 300)) := hHd (by unfold thinD; rw [decide_eq_true h3, decide_eq_true h4, hb, hc]; simp); have HMM := hHd (fun W hx => (HFM2.out W hx).2 hc); have HF3 := hHd (fun W hx => (HFM2.out W hx).1); rw [HTH.out]; rw [hc] at HF3; clear HFM HFM2 HTH hc hb hb1 HT1 h3 h4; generalize manyC c = M at *; by_cases hM : M ≤ 300
          · have dM : decide (M ≤ 300) = true := decide_eq_true hM; rw [dM]; go_enter Tryz.func24, Tryz.ntmps24
            (go_wp2_with fail);obtain⟨W,hW,X,HS,HSf,HSz⟩:=bx11 w 41 (.int .i64 c.bk.last) (.int .i64 c.bk.owners) (.slice a1 c.bk.pars.length c1) (.slice a2 c.bk.ents.length c2) (.int .i64 c.soc) (.int .i64 c.day) (.int .i64 c.parcel) (.slice a3 c.covs.length c3) (.int .i64 c.llo) (.int .i64 c.lhi) (.slice a4 c.clms.length c4);rw [hW];clear hW;obtain⟨⟨q0,q1,q2,q3,q4,q5,q6,q7,q8,q9,q10⟩,-⟩:=HS.out W (Ext.refl _);(go_wp2_with fail);(with_reducible refine(HT2.out _).mono ?_);rintro e w1 ⟨rfl,hx1⟩;have X1:Ext W w1:=EX;obtain⟨⟨q0,q1,q2,q3,q4,q5,q6,q7,q8,q9,q10⟩,-⟩:=HS.out w1 X1;(go_wp2_with fail);(with_reducible refine(HF3.out _ (X.trans EX)).mono ?_);rintro e w2 ⟨rfl,hx2⟩;have X2:Ext W w2:=EX;obtain⟨⟨q0,q1,q2,q3,q4,q5,q6,q7,q8,q9,q10⟩,-⟩:=HS.out w2 X2;(go_wp2_with fail);(with_reducible refine(HMM.out _ (X.trans EX)).mono ?_);rintro e w3 ⟨rfl,hx3⟩;have X3:Ext W w3:=EX;obtain⟨⟨q0,q1,q2,q3,q4,q5,q6,q7,q8,q9,q10⟩,-⟩:=HS.out w3 X3;(go_wp2_with fail);go_ret;exact⟨rfl,EX⟩
          · have dM : decide (M ≤ 300) = false := decide_eq_false hM; rw [dM]; go_enter Tryz.func24, Tryz.ntmps24
            (go_wp2_with fail);obtain⟨W,hW,X,HS,HSf,HSz⟩:=bx11 w 41 (.int .i64 c.bk.last) (.int .i64 c.bk.owners) (.slice a1 c.bk.pars.length c1) (.slice a2 c.bk.ents.length c2) (.int .i64 c.soc) (.int .i64 c.day) (.int .i64 c.parcel) (.slice a3 c.covs.length c3) (.int .i64 c.llo) (.int .i64 c.lhi) (.slice a4 c.clms.length c4);rw [hW];clear hW;obtain⟨⟨q0,q1,q2,q3,q4,q5,q6,q7,q8,q9,q10⟩,-⟩:=HS.out W (Ext.refl _);(go_wp2_with fail);(with_reducible refine(HT2.out _).mono ?_);rintro e w1 ⟨rfl,hx1⟩;have X1:Ext W w1:=EX;obtain⟨⟨q0,q1,q2,q3,q4,q5,q6,q7,q8,q9,q10⟩,-⟩:=HS.out w1 X1;(go_wp2_with fail);(with_reducible refine(HF3.out _ (X.trans EX)).mono ?_);rintro e w2 ⟨rfl,hx2⟩;have X2:Ext W w2:=EX;obtain⟨⟨q0,q1,q2,q3,q4,q5,q6,q7,q8,q9,q10⟩,-⟩:=HS.out w2 X2;(go_wp2_with fail);(with_reducible refine(HMM.out _ (X.trans EX)).mono ?_);rintro e w3 ⟨rfl,hx3⟩;have X3:Ext W w3:=EX;obtain⟨⟨q0,q1,q2,q3,q4,q5,q6,q7,q8,q9,q10⟩,-⟩:=HS.out w3 X3;(go_wp2_with fail);go_ret;exact⟨rfl,EX⟩
        · have HTH : Hid (thinD c = true) := hHd (by unfold thinD; rw [decide_eq_true h3, decide_eq_true h4, hb, decide_eq_true hc]; rfl); have HF3 := hHd (fun W hx => (HFM2.out W hx).1); have hc1 : (caseD c != 0) = true := by rw [bne_iff_ne]; exact hc
          rw [HTH.out];clear HFM HFM2 HTH hb hb1 HT1 h3 h4 hc;generalize caseD c=F at*;go_enter Tryz.func24,Tryz.ntmps24
          (go_wp2_with fail);obtain⟨W,hW,X,HS,HSf,HSz⟩:=bx11 w 41 (.int .i64 c.bk.last) (.int .i64 c.bk.owners) (.slice a1 c.bk.pars.length c1) (.slice a2 c.bk.ents.length c2) (.int .i64 c.soc) (.int .i64 c.day) (.int .i64 c.parcel) (.slice a3 c.covs.length c3) (.int .i64 c.llo) (.int .i64 c.lhi) (.slice a4 c.clms.length c4);rw [hW];clear hW;obtain⟨⟨q0,q1,q2,q3,q4,q5,q6,q7,q8,q9,q10⟩,-⟩:=HS.out W (Ext.refl _);(go_wp2_with fail);(with_reducible refine(HT2.out _).mono ?_);rintro e w1 ⟨rfl,hx1⟩;have X1:Ext W w1:=EX;obtain⟨⟨q0,q1,q2,q3,q4,q5,q6,q7,q8,q9,q10⟩,-⟩:=HS.out w1 X1;(go_wp2_with fail);(with_reducible refine(HF3.out _ (X.trans EX)).mono ?_);rintro e w2 ⟨rfl,hx2⟩;have X2:Ext W w2:=EX;obtain⟨⟨q0,q1,q2,q3,q4,q5,q6,q7,q8,q9,q10⟩,-⟩:=HS.out w2 X2;(go_wp2_with fail);go_ret;exact⟨rfl,EX⟩
      | false =>
        have HT2:Hid (∀W,Calls Tryz.prog 67 #[.agg #[.int .i64 c.bk.last,.int .i64 c.bk.owners,.slice a1 c.bk.pars.length c1,.slice a2 c.bk.ents.length c2]] W fun e w'=>e= .returned (.bool false)∧Ext W w'):=hHd (fun W=>by rw [←hb];exact HT1.out _ _ _ _ _ _ _ _ W);have HTH:Hid (thinD c=false):=hHd (by unfold thinD;rw [hb];simp);rw [HTH.out];clear HFM HTH hb HT1 h3 h4;go_enter Tryz.func24,Tryz.ntmps24
        (go_wp2_with fail);obtain⟨W,hW,X,HS,HSf,HSz⟩:=bx11 w 41 (.int .i64 c.bk.last) (.int .i64 c.bk.owners) (.slice a1 c.bk.pars.length c1) (.slice a2 c.bk.ents.length c2) (.int .i64 c.soc) (.int .i64 c.day) (.int .i64 c.parcel) (.slice a3 c.covs.length c3) (.int .i64 c.llo) (.int .i64 c.lhi) (.slice a4 c.clms.length c4);rw [hW];clear hW;obtain⟨⟨q0,q1,q2,q3,q4,q5,q6,q7,q8,q9,q10⟩,-⟩:=HS.out W (Ext.refl _);(go_wp2_with fail);(with_reducible refine(HT2.out _).mono ?_);rintro e w1 ⟨rfl,hx1⟩;have X1:Ext W w1:=EX;obtain⟨⟨q0,q1,q2,q3,q4,q5,q6,q7,q8,q9,q10⟩,-⟩:=HS.out w1 X1;(go_wp2_with fail);go_ret;exact⟨rfl,EX⟩
    · have d4 : decide ((c.clms.length : Int) ≤ 8) = false := decide_eq_false (by omega); have HTH : Hid (thinD c = false) := hHd (by unfold thinD; rw [decide_eq_false h4]; simp); rw [HTH.out]; clear HFM HTH HT1 h3 h4; go_enter Tryz.func24, Tryz.ntmps24
      (go_wp2_with fail);go_ret;exact⟨rfl,EX⟩
  · have d3 : decide ((c.covs.length : Int) ≤ 8) = false := decide_eq_false (by omega); have HTH : Hid (thinD c = false) := hHd (by unfold thinD; rw [decide_eq_false h3]; simp); rw [HTH.out]; clear HFM HTH HT1 h3; go_enter Tryz.func24, Tryz.ntmps24
    (go_wp2_with fail);go_ret;exact⟨rfl,EX⟩
end Go.Proofs.YtegkdnfeceomdaaGreat
