/- Bundled: what the texts HN HO say one after another. -/
import Derived.Test.YtegkdnfeceomdaaGreatKDC1
import Derived.Test.YtegkdnfeceomdaaGreatKDA8
import Derived.Test.YtegkdnfeceomdaaGreatKDA26
import Derived.Test.YtegkdnfeceomdaaGreatKDA20
import Derived.Test.YtegkdnfeceomdaaGreatKDA2
import Derived.Test.YtegkdnfeceomdaaGreatKDA15
import Derived.Test.YtegkdnfeceomdaaGreatKDA4
set_option maxRecDepth 100000
set_option maxHeartbeats 16000000
set_option linter.unusedSimpArgs false
set_option linter.unusedVariables false
namespace Go.Hs
open Go.RowKit Go.Proofs.YtegkdnfeceomdaaGreat
def HapQ (b:Bk) (B N i d:Nat) (f:Fds) (w:World) (e:Ending) (w':World):Prop:=
 KP (fun j=>j=B) w w'∧(happenS b i d f=none→e= .returned (.bool false))∧∀f',happenS b i d f=some f'→e= .returned (.bool true)∧FdL B N f' w'
theorem KP.joinH {p q:Nat→Prop} {a b c:World} (h:KP p a b) (k:KP q b c) (hq:∀j,q j→p j∨a.heap.size≤j):KP p a c:=
 ⟨k.os.trans h.os, k.tape.trans h.tape, k.output.trans h.output, Nat.le_trans h.size k.size, fun i hi hr => (k.block i (Nat.lt_of_lt_of_le hi h.size) (fun e => by
  rcases hq i e with e|e
  ·exact hr e
  ·omega)).trans (h.block i hi hr)⟩
theorem hapQ_no {b:Bk} {B N i d:Nat} {f:Fds} {w w':World} (h:happenS b i d f=none) (hk:KP (fun j=>j=B) w w'):HapQ b B N i d f w (.returned (.bool false)) w':=
 ⟨hk,fun _=>rfl,fun f' hf=>by rw [h] at hf;cases hf⟩
theorem hapQ_yes {b:Bk} {B N i d:Nat} {f g:Fds} {w w':World} (h:happenS b i d f=some g) (hk:KP (fun j=>j=B) w w') (hg:FdL B N g w'):HapQ b B N i d f w (.returned (.bool true)) w':=
 ⟨hk,fun hf=>(by rw [h] at hf;cases hf),fun f' hf=>(by rw [h] at hf;cases hf;exact⟨rfl,hg⟩)⟩
theorem swap_fds {f:Fds} {p o:Nat} (h:p≠o) (x y:Int):upd (upd f p { f p with owner:=x }) o { (upd f p { f p with owner:=x }) o with owner:=y } =upd (upd f p { f p with owner:=x }) o { f o with owner:=y } :=by
 have e:upd f p { f p with owner:=x } o=f o:=by unfold upd;rw [if_neg (Ne.symm h)]
 rw [e]
def NoBk (v:Value) (B:Nat):Prop:=∃la ow a1 n1 c1 a2 n2 c2,v= .agg #[la,ow,.slice a1 n1 c1,.slice a2 n2 c2]∧(0<n1→∀b o,a1=some ⟨b,o,none⟩→b≠B)∧(0<n2→∀b o,a2=some ⟨b,o,none⟩→b≠B)
theorem bk_kp {b:Bk} {v:Value} {B:Nat} {w W:World} (hv:BkV w v b) (k:KP (fun j=>j=B) w W) (hn:NoBk v B):BkV W v b:=by
 obtain⟨la,ow,a1,n1,c1,a2,n2,c2,rfl,h1,h2⟩:=hn;obtain⟨vp,ve,e,⟨p1,q1,e1,g1,g2,g3⟩,⟨p2,q2,e2,k1,k2,k3⟩⟩:=hv;simp only [Value.agg.injEq,Array.mk.injEq,List.cons.injEq,and_true] at e;obtain⟨rfl,rfl,rfl,rfl⟩:=e;simp only [Value.slice.injEq] at e1 e2;obtain⟨rfl,rfl,rfl⟩:=e1;obtain⟨rfl,rfl,rfl⟩:=e2;refine⟨_,_,rfl,⟨_,_,rfl,g1,g2,fun i hi=> ?_⟩,⟨_,_,rfl,k1,k2,fun i hi=> ?_⟩⟩
 ·obtain⟨b',o,e,m0,m1,m2,m3⟩:=g3 i hi;have hb:=h1 (by simp at hi;omega) b' o e;exact⟨b',o,e,k.keep hb m0,k.keep hb m1,k.keep hb m2,k.keep hb m3⟩
 ·obtain⟨b',o,e,m0,m1,m2,m3,m4,m5,m6,m7⟩:=k3 i hi;have hb:=h2 (by simp at hi;omega) b' o e;exact⟨b',o,e,k.keep hb m0,k.keep hb m1,k.keep hb m2,k.keep hb m3,k.keep hb m4,k.keep hb m5,k.keep hb m6,k.keep hb m7⟩
theorem noBk_of {b:Bk} {v:Value} {B:Nat} {w:World} (hv:BkV w v b) (hB:w.heap.size≤B):NoBk v B:=by
 obtain⟨vp,ve,e,⟨p1,q1,rfl,g1,g2,g3⟩,⟨p2,q2,rfl,k1,k2,k3⟩⟩:=hv;refine⟨_,_,_,_,_,_,_,_,e,fun h b' o e1=> ?_,fun h b' o e1=> ?_⟩
 ·obtain ⟨b2, o2, e2, m, -⟩ := g3 0 (by simpa using h); rw [e1] at e2; cases e2
  have hlt:b'<w.heap.size:=lt_of_cell m;omega
 ·obtain ⟨b2, o2, e2, m, -⟩ := k3 0 (by simpa using h); rw [e1] at e2; cases e2
  have hlt:b'<w.heap.size:=lt_of_cell m;omega
structure EntH (b:Bk) (i:Nat) (e:Ent):Prop where
 par:0≤e.parcel∧e.parcel<numsB b
 kind:e.kind=0∨e.kind=1∨e.kind=2∨e.kind=3
 other:e.kind=2→(0≤e.other∧e.other<numsB b)∧e.other≠e.parcel
 part:e.kind=1→1≤e.part∧e.part≤1000
 split:e.kind=1→numsTo b i<numsB b
theorem numsH_mono (b:Bk):∀ {i j:Nat},i≤j→j≤b.ents.length→numsTo b i≤numsTo b j:=by
  intro i j hij hj
  induction j with
  | zero => have : i = 0 := by omega
            subst this;exact Nat.le_refl _
  | succ j ih =>
    by_cases e:i=j+1
    · subst e;exact Nat.le_refl _
    · have := ih (by omega) (by omega); by_cases hk : (b.ents[j]'(by omega)).kind = 1
      · rw [numsTo_yes (by omega) hk];omega
      · rw [numsTo_no (by omega) hk];omega
theorem entH_of {b:Bk} (hb:BkS b) {i:Nat} (hi:i<b.ents.length):EntH b i b.ents[i]:=by
 have h:=hb.ent _ (List.getElem_mem hi);generalize he:b.ents[i]=e at*;simp only [entB,Bool.and_eq_true,numberB,inR_iff] at h;obtain⟨⟨h1,-⟩,h2⟩:=h;unfold kindB at h2;refine⟨by omega,?_,fun hk=> ?_,fun hk=> ?_,fun hk=> ?_⟩
 ·split at h2
  ·omega
  ·split at h2
   ·omega
   ·split at h2
    ·omega
    ·split at h2
     ·omega
     ·cases h2
 ·rw [if_neg (by omega),if_neg (by omega),if_pos hk] at h2;simp only [Bool.and_eq_true,numberB,inR_iff,decide_eq_true_eq] at h2;omega
 ·rw [if_neg (by omega),if_pos hk] at h2;simp only [Bool.and_eq_true,inR_iff] at h2;omega
 ·have h3:=numsTo_yes hi (by rw [he];exact hk);have h4:=numsH_mono b (i:=i+1) (j:=b.ents.length) hi (Nat.le_refl _);unfold numsB;omega
end Go.Hs
namespace Go.Proofs.YtegkdnfeceomdaaGreat
open Go.RowKit Go.Hs
attribute [local irreducible] World.setCell World.alloc
theorem Happen_h (b : Bk) (v : Value) (B i d : Nat) (f : Fds) (w : World) (hv : BkV w v b) (hb : BkS b) (hi : i < b.ents.length) (hF : FdL B (numsB b) f w) (hok : FdsOK f) (hnob : NoBk v B) :
    Calls Tryz.prog 152 #[v,.slice (some ⟨B,0,none⟩) (numsB b) (numsB b),.int .i64 i,.int .i64 d] w (HapQ b B (numsB b) i d f w):=by
  have hS:=entH_of hb hi;have HNK:=hHd (fun W (hx:KP (fun j=>j=B) w W)=>Numbers_h b v i W (bk_kp hv hx hnob) (Nat.le_of_lt hi));obtain⟨a1,c1,a2,c2,rfl,hp,he,hp1,he1,hp2,he2⟩:=hv.open;obtain⟨b2,o2,rfl,hce⟩:=he i (by simpa using hi);have e1:(b.ents.map Ent.c)[i]'(by simpa using hi)=(b.ents[i]).c:=by simp
  rw [e1] at hce;have HH:Hid (happenS b i d f=(fun e:Ent=>let p:=e.parcel.toNat;let x:=f p;if x.up then (if e.kind=0 then (if x.owner=e.frm then some (upd f p { x with owner:=e.to }) else none) else if e.kind=1 then (if e.part<x.value then some (upd (upd f p { x with value:=x.value - e.part }) (numsTo b i) ⟨true,false,x.owner,e.part,x.sown⟩) else none) else if e.kind=2 then (if (f e.other.toNat).up&&decide (x.owner≠(f e.other.toNat).owner) then some (upd (upd f p { x with owner:=(f e.other.toNat).owner }) e.other.toNat { f e.other.toNat with owner:=x.owner }) else none) else if e.kind=3 then (if x.sown≤d then some (upd f p { x with gone:=true }) else none) else none) else none) b.ents[i]):=hHd (by unfold happenS;simp [hi]);generalize b.ents[i]=e at*;obtain⟨kd,pa,ot,fr,tt,pt,dl,dh⟩:=e;simp only [Ent.c] at*;obtain⟨p,rfl⟩:∃p:Nat,pa=(p:Int):=⟨pa.toNat,by have:=hS.par.1;simp only at this;omega⟩;simp only [Int.toNat_natCast] at HH;have hpN:p<numsB b:=by have:=hS.par.2;simp only at this;omega
  have HN2:numsB b≤b.pars.length+b.ents.length:=numsTo_le b _;have HNI:numsTo b i≤b.pars.length+b.ents.length:=numsTo_le b _;have hk:=hS.kind;have hoth:=hS.other;have hprt:=hS.part;have hspl:=hS.split;simp only at hk hoth hprt hspl;have HF:=hHd hF;have HOK:=hHd (hok p);have HB:B<w.heap.size:=hF.lt;clear hv hp he e1 hS hF;unfold bkV at*;have hi0:(0:Int)≤(i:Int):=by omega
  have hi1:(i:Int)<(b.ents.length:Int):=by omega
  have hp0:(0:Int)≤(p:Int):=by omega
  have hp1':(p:Int)<(numsB b:Int):=by omega
  skip
  generalize hnn:numsB b=N at*;clear hnn;go_enter Tryz.func152,Tryz.ntmps152
  go_upto_region 1 with fail
  obtain⟨W1,hW1⟩:∃W,W=(w.alloc (.cells #[.int .i64 b.last,.int .i64 b.owners,.slice a1 b.pars.length c1,.slice (some ⟨b2,o2,none⟩) b.ents.length c2] 35)):=⟨_,rfl⟩;have X1:Ext w W1:=by subst hW1;exact(Ext.refl w).alloc _
  have HQ:Hid (∀W,Ext W1 W→W.cell? ⟨w.heap.size,0,none⟩=some (.int .i64 b.last)∧W.cell? ⟨w.heap.size,1,none⟩=some (.int .i64 b.owners)∧W.cell? ⟨w.heap.size,2,none⟩=some (.slice a1 b.pars.length c1)∧W.cell? ⟨w.heap.size,3,none⟩=some (.slice (some ⟨b2,o2,none⟩) b.ents.length c2)):=hHd (fun W hx=>by subst hW1;exact⟨hx.keep (by simp [go_sem]),hx.keep (by simp [go_sem]),hx.keep (by simp [go_sem]),hx.keep (by simp [go_sem])⟩);have hz1:W1.heap.size=w.heap.size+1:=by subst hW1;simp
  rw [←hW1];clear hW1;have HZ1:=hHd hz1;clear hz1;obtain⟨-,-,-,q3⟩:=HQ.out W1 (Ext.refl _);obtain⟨m0,m1,m2,m3,m4,m5,m6,m7⟩:=Cell8.ext X1 _ _ _ hce;simp only at m0 m1 m2 m3 m4 m5 m6 m7;go_upto_region 2 with fail
  obtain⟨W2,hW2⟩:∃W,W=(W1.alloc (.cells #[.int .i64 kd,.int .i64 p,.int .i64 ot,.int .i64 fr,.int .i64 tt,.int .i64 pt,.int .i64 dl,.int .i64 dh] 217)):=⟨_,rfl⟩;have X2:Ext W1 W2:=by subst hW2;exact(Ext.refl W1).alloc _
  have HR:Hid (∀W,Ext W2 W→W.cell? ⟨W1.heap.size,0,none⟩=some (.int .i64 kd)∧W.cell? ⟨W1.heap.size,1,none⟩=some (.int .i64 p)∧W.cell? ⟨W1.heap.size,2,none⟩=some (.int .i64 ot)∧W.cell? ⟨W1.heap.size,3,none⟩=some (.int .i64 fr)∧W.cell? ⟨W1.heap.size,4,none⟩=some (.int .i64 tt)∧W.cell? ⟨W1.heap.size,5,none⟩=some (.int .i64 pt)∧W.cell? ⟨W1.heap.size,6,none⟩=some (.int .i64 dl)∧W.cell? ⟨W1.heap.size,7,none⟩=some (.int .i64 dh)):=hHd (fun W hx=>by subst hW2;exact⟨hx.keep (by simp [go_sem]),hx.keep (by simp [go_sem]),hx.keep (by simp [go_sem]),hx.keep (by simp [go_sem]),hx.keep (by simp [go_sem]),hx.keep (by simp [go_sem]),hx.keep (by simp [go_sem]),hx.keep (by simp [go_sem])⟩);have hz2:W2.heap.size=W1.heap.size+1:=by subst hW2;simp
  rw [←hW2];clear hW2 m0 m1 m2 m3 m4 m5 m6 m7 hce q3;have HZ2:=hHd hz2;clear hz2;obtain⟨-,r1,-,-,-,-,-,-⟩:=HR.out W2 (Ext.refl _);obtain⟨g0,g1,g2,g3,g4⟩:=(HF.out.ext (X1.trans X2)).fd p hpN;obtain⟨x,hfp⟩:∃x,f p=x:=⟨_,rfl⟩;rw [hfp] at g0 g1 g2 g3 g4 HOK;obtain⟨th,gn,ow,va,so⟩:=x;simp only at g0 g1 g2 g3 g4 HOK;have HFPX:=hHd hfp;clear hfp;go_upto_region 3 with fail
  obtain⟨W3,hW3⟩:∃W,W=(W2.alloc (.cells #[.bool th,.bool gn,.int .i64 ow,.int .i64 va,.int .i64 so] 186)):=⟨_,rfl⟩;have X3:Ext W2 W3:=by subst hW3;exact(Ext.refl W2).alloc _
  have HX:Hid (∀W,Ext W3 W→W.cell? ⟨W2.heap.size,0,none⟩=some (.bool th)∧W.cell? ⟨W2.heap.size,1,none⟩=some (.bool gn)∧W.cell? ⟨W2.heap.size,2,none⟩=some (.int .i64 ow)∧W.cell? ⟨W2.heap.size,3,none⟩=some (.int .i64 va)∧W.cell? ⟨W2.heap.size,4,none⟩=some (.int .i64 so)):=hHd (fun W hx=>by subst hW3;exact⟨hx.keep (by simp [go_sem]),hx.keep (by simp [go_sem]),hx.keep (by simp [go_sem]),hx.keep (by simp [go_sem]),hx.keep (by simp [go_sem])⟩);have hz3:W3.heap.size=W2.heap.size+1:=by subst hW3;simp
  have hfx:∀o,W3.frozen? ⟨W2.heap.size,o,none⟩=false:=fun o=>by subst hW3;simp [go_sem]
  rw [←hW3];clear hW3 g0 g1 g2 g3 g4 r1;have HZ3:=hHd hz3;have HFX:=hHd hfx;clear hz3 hfx;have XX:Ext w W3:=(X1.trans X2).trans X3;have XQ:Ext W1 W3:=X2.trans X3;obtain⟨q0,q1,q2,q3⟩:=HQ.out W3 XQ;obtain⟨r0,r1,r2,r3,r4,r5,r6,r7⟩:=HR.out W3 X3;obtain⟨x0,x1,x2,x3,x4⟩:=HX.out W3 (Ext.refl _);have HF3:=hHd (HF.out.ext XX);have ff:=HF3.out.fr;have hfd:=HF3.out.fd p hpN;rw [HFPX.out] at hfd;obtain⟨g0,g1,g2,g3,g4⟩:=hfd;simp only at g0 g1 g2 g3 g4;cases th with
  | false =>
    have HS:Hid (happenS b i d f=none):=hHd (by rw [HH.out];simp [Hs.Fd.up,HFPX.out]);clear HH;(go_wp2_with fail);go_ret;exact hapQ_no HS.out XX.kp
  | true =>
    cases gn with
    | true =>
      have HS:Hid (happenS b i d f=none):=hHd (by rw [HH.out];simp [Hs.Fd.up,HFPX.out]);clear HH;(go_wp2_with fail);go_ret;exact hapQ_no HS.out XX.kp
    | false =>
      rcases hk with rfl|rfl|rfl|rfl
      · skip
        by_cases hq:ow=fr
        · have hd : (ow != fr) = false := by simp [hq]
          have HS:Hid (happenS b i d f=some (upd f p { f p with owner:=tt })):=hHd (by rw [HH.out];simp [Hs.Fd.up,HFPX.out,hq]);have HW:=hHd (HF3.out.owner hpN tt);clear HH hq;(go_wp2_with fail);go_ret;exact hapQ_yes HS.out (XX.kp.setCell (p:=fun j=>j=B) rfl _) HW.out
        · have hd : (ow != fr) = true := by simp [hq]
          have HS:Hid (happenS b i d f=none):=hHd (by rw [HH.out];simp [Hs.Fd.up,HFPX.out,hq]);clear HH;(go_wp2_with fail);go_ret;exact hapQ_no HS.out XX.kp
      · skip
        have hpb:=hprt rfl;have hsb:=hspl rfl;by_cases hq:pt<va
        · have hd : decide (va ≤ pt) = false := decide_eq_false (by omega); have HS : Hid (happenS b i d f = some (upd (upd f p { f p with value := va - pt }) (numsTo b i) ⟨true, false, ow, pt, so⟩)) := hHd (by rw [HH.out]; simp [Hs.Fd.up, HFPX.out, hq]); have hvb := HOK.out; have hw : IntKind.i64.wrap (va - pt) = va - pt := IntWalk.i64_in _ (by omega); have HW := hHd (HF3.out.value hpN (va - pt)); clear HH hq hvb HOK; go_upto_region 14 with fail
          have K4:KP (fun j=>j=B) w (W3.setCell ⟨B,p*5+3,none⟩ (.int .i64 (va - pt))):=XX.kp.setCell (p:=fun j=>j=B) rfl _;have HM:Hid (∀b' o v',b'≠B→W3.cell? ⟨b',o,none⟩=some v'→(W3.setCell ⟨B,p*5+3,none⟩ (.int .i64 (va - pt))).cell? ⟨b',o,none⟩=some v'):=hHd (fun b' o v' hne hc=>cell_ne (.inl hne) hc);have HSZ:Hid ((W3.setCell ⟨B,p*5+3,none⟩ (.int .i64 (va - pt))).heap.size=W3.heap.size):=hHd (size_set' _ _ _);have HFF:Hid (∀o,(W3.setCell ⟨B,p*5+3,none⟩ (.int .i64 (va - pt))).frozen? ⟨W2.heap.size,o,none⟩=false):=hHd (fun o=>by rw [World.frozen?_setCell];exact HFX.out o);generalize W3.setCell ⟨B,p*5+3,none⟩ (.int .i64 (va - pt))=W4 at*;have hb2:W2.heap.size≠B:=by have:=X1.size;have:=X2.size;omega
          have hb1:W1.heap.size≠B:=by have:=X1.size;omega
          have hb0:w.heap.size≠B:=by omega
          replace q0:=HM.out _ _ _ hb0 q0;replace q1:=HM.out _ _ _ hb0 q1;replace q2:=HM.out _ _ _ hb0 q2;replace q3:=HM.out _ _ _ hb0 q3;replace r1:=HM.out _ _ _ hb1 r1;replace r5:=HM.out _ _ _ hb1 r5;replace x0:=HM.out _ _ _ hb2 x0;replace x1:=HM.out _ _ _ hb2 x1;replace x2:=HM.out _ _ _ hb2 x2;replace x3:=HM.out _ _ _ hb2 x3;replace x4:=HM.out _ _ _ hb2 x4;have fx:=HFF.out;clear g0 g1 g2 g3 g4 ff r0 r2 r3 r4 r6 r7;go_upto_region 15 with fail
          obtain⟨W5,hW5⟩:∃W,W=W4.setCell ⟨W2.heap.size,3,none⟩ (.int .i64 pt):=⟨_,rfl⟩;have K45:KP (fun j=>j=W2.heap.size) W4 W5:=by subst hW5;exact(KP.refl W4).setCell (p:=fun j=>j=W2.heap.size) rfl _
          have hz54:W5.heap.size=W4.heap.size:=by subst hW5;exact size_set' _ _ _
          have hge:w.heap.size<W2.heap.size:=by have:=X1.size;have:=X2.size;have:=HZ1.out;omega
          have K5:KP (fun j=>j=B) w W5:=KP.joinH K4 K45 (fun j hj=> .inr (by omega))
          have HG:Hid ((W5.cell? ⟨w.heap.size,0,none⟩=some (.int .i64 b.last)∧W5.cell? ⟨w.heap.size,1,none⟩=some (.int .i64 b.owners)∧W5.cell? ⟨w.heap.size,2,none⟩=some (.slice a1 b.pars.length c1)∧W5.cell? ⟨w.heap.size,3,none⟩=some (.slice (some ⟨b2,o2,none⟩) b.ents.length c2))∧(W5.cell? ⟨W2.heap.size,0,none⟩=some (.bool true)∧W5.cell? ⟨W2.heap.size,1,none⟩=some (.bool false)∧W5.cell? ⟨W2.heap.size,2,none⟩=some (.int .i64 ow)∧W5.cell? ⟨W2.heap.size,3,none⟩=some (.int .i64 pt)∧W5.cell? ⟨W2.heap.size,4,none⟩=some (.int .i64 so))):=hHd (by
            have n0:w.heap.size≠W2.heap.size:=by omega
            subst hW5;exact⟨⟨cell_ne (.inl n0) q0,cell_ne (.inl n0) q1,cell_ne (.inl n0) q2,cell_ne (.inl n0) q3⟩,cell_ne (.inr (by decide)) x0,cell_ne (.inr (by decide)) x1,cell_ne (.inr (by decide)) x2,World.cell?_setCell_same _ _ _ x3,cell_ne (.inr (by decide)) x4⟩)
          have HF5:=hHd (HW.out.kp K45 (by omega));rw [←hW5];clear hW5 q0 q1 q2 q3 x0 x1 x2 x3 x4 r1 r5 fx HM HFF HW K45;obtain⟨n,hn⟩:∃n,n=numsTo b i:=⟨_,rfl⟩;rw [←hn] at hsb HNI;have HNN:=hHd hn;clear hn
          have HNB:Hid (∀W,Ext W5 W→Calls Tryz.prog 160 #[.agg #[.int .i64 b.last,.int .i64 b.owners,.slice a1 b.pars.length c1,.slice (some ⟨b2,o2,none⟩) b.ents.length c2],.int .i64 i] W fun e w'=>e= .returned (.int .i64 n)∧Ext W w'):=hHd (fun W hx=>by
            have h:=HNK.out W (K5.ext hx);rw [←HNN.out] at h;exact h)
          have HSS:Hid (∀w',Ext W5 w'→((w'.cell? ⟨w.heap.size,0,none⟩=some (.int .i64 b.last)∧w'.cell? ⟨w.heap.size,1,none⟩=some (.int .i64 b.owners)∧w'.cell? ⟨w.heap.size,2,none⟩=some (.slice a1 b.pars.length c1)∧w'.cell? ⟨w.heap.size,3,none⟩=some (.slice (some ⟨b2,o2,none⟩) b.ents.length c2))∧(w'.cell? ⟨W2.heap.size,0,none⟩=some (.bool true)∧w'.cell? ⟨W2.heap.size,1,none⟩=some (.bool false)∧w'.cell? ⟨W2.heap.size,2,none⟩=some (.int .i64 ow)∧w'.cell? ⟨W2.heap.size,3,none⟩=some (.int .i64 pt)∧w'.cell? ⟨W2.heap.size,4,none⟩=some (.int .i64 so)))∧((w'.cell? ⟨B,n*5,none⟩=some (curV w' ⟨B,n*5,none⟩)∧w'.cell? ⟨B,n*5+1,none⟩=some (curV w' ⟨B,n*5+1,none⟩)∧w'.cell? ⟨B,n*5+2,none⟩=some (curV w' ⟨B,n*5+2,none⟩)∧w'.cell? ⟨B,n*5+3,none⟩=some (curV w' ⟨B,n*5+3,none⟩)∧w'.cell? ⟨B,n*5+4,none⟩=some (curV w' ⟨B,n*5+4,none⟩))∧∀o,w'.frozen? ⟨B,o,none⟩=false)∧KP (fun j=>j=B) W5 w'):=hHd (fun w' h=>by
            obtain⟨⟨q0,q1,q2,q3⟩,x0,x1,x2,x3,x4⟩:=HG.out;obtain⟨f0,f1,f2,f3,f4⟩:=(HF5.out.ext h).fd n hsb;exact⟨⟨⟨h.keep q0,h.keep q1,h.keep q2,h.keep q3⟩,h.keep x0,h.keep x1,h.keep x2,h.keep x3,h.keep x4⟩,⟨⟨cur_self f0,cur_self f1,cur_self f2,cur_self f3,cur_self f4⟩,(HF5.out.ext h).fr⟩,h.kp⟩)
          have HST:Hid (∀w' a0 a1' a2' a3 a4,Ext W5 w'→(((((((w'.setCell ⟨B,n*5,none⟩ a0).setCell ⟨B,n*5+1,none⟩ a1').setCell ⟨B,n*5+2,none⟩ a2').setCell ⟨B,n*5+3,none⟩ a3).setCell ⟨B,n*5+4,none⟩ a4).cell? ⟨w.heap.size,0,none⟩=some (.int .i64 b.last)∧(((((w'.setCell ⟨B,n*5,none⟩ a0).setCell ⟨B,n*5+1,none⟩ a1').setCell ⟨B,n*5+2,none⟩ a2').setCell ⟨B,n*5+3,none⟩ a3).setCell ⟨B,n*5+4,none⟩ a4).cell? ⟨w.heap.size,1,none⟩=some (.int .i64 b.owners)∧(((((w'.setCell ⟨B,n*5,none⟩ a0).setCell ⟨B,n*5+1,none⟩ a1').setCell ⟨B,n*5+2,none⟩ a2').setCell ⟨B,n*5+3,none⟩ a3).setCell ⟨B,n*5+4,none⟩ a4).cell? ⟨w.heap.size,2,none⟩=some (.slice a1 b.pars.length c1)∧(((((w'.setCell ⟨B,n*5,none⟩ a0).setCell ⟨B,n*5+1,none⟩ a1').setCell ⟨B,n*5+2,none⟩ a2').setCell ⟨B,n*5+3,none⟩ a3).setCell ⟨B,n*5+4,none⟩ a4).cell? ⟨w.heap.size,3,none⟩=some (.slice (some ⟨b2,o2,none⟩) b.ents.length c2))∧((((((w'.setCell ⟨B,n*5,none⟩ a0).setCell ⟨B,n*5+1,none⟩ a1').setCell ⟨B,n*5+2,none⟩ a2').setCell ⟨B,n*5+3,none⟩ a3).setCell ⟨B,n*5+4,none⟩ a4).cell? ⟨W2.heap.size,0,none⟩=some (.bool true)∧(((((w'.setCell ⟨B,n*5,none⟩ a0).setCell ⟨B,n*5+1,none⟩ a1').setCell ⟨B,n*5+2,none⟩ a2').setCell ⟨B,n*5+3,none⟩ a3).setCell ⟨B,n*5+4,none⟩ a4).cell? ⟨W2.heap.size,1,none⟩=some (.bool false)∧(((((w'.setCell ⟨B,n*5,none⟩ a0).setCell ⟨B,n*5+1,none⟩ a1').setCell ⟨B,n*5+2,none⟩ a2').setCell ⟨B,n*5+3,none⟩ a3).setCell ⟨B,n*5+4,none⟩ a4).cell? ⟨W2.heap.size,2,none⟩=some (.int .i64 ow)∧(((((w'.setCell ⟨B,n*5,none⟩ a0).setCell ⟨B,n*5+1,none⟩ a1').setCell ⟨B,n*5+2,none⟩ a2').setCell ⟨B,n*5+3,none⟩ a3).setCell ⟨B,n*5+4,none⟩ a4).cell? ⟨W2.heap.size,3,none⟩=some (.int .i64 pt)∧(((((w'.setCell ⟨B,n*5,none⟩ a0).setCell ⟨B,n*5+1,none⟩ a1').setCell ⟨B,n*5+2,none⟩ a2').setCell ⟨B,n*5+3,none⟩ a3).setCell ⟨B,n*5+4,none⟩ a4).cell? ⟨W2.heap.size,4,none⟩=some (.int .i64 so)))∧(((((((w'.setCell ⟨B,n*5,none⟩ a0).setCell ⟨B,n*5+1,none⟩ a1').setCell ⟨B,n*5+2,none⟩ a2').setCell ⟨B,n*5+3,none⟩ a3).setCell ⟨B,n*5+4,none⟩ a4).cell? ⟨B,n*5,none⟩=some (curV (((((w'.setCell ⟨B,n*5,none⟩ a0).setCell ⟨B,n*5+1,none⟩ a1').setCell ⟨B,n*5+2,none⟩ a2').setCell ⟨B,n*5+3,none⟩ a3).setCell ⟨B,n*5+4,none⟩ a4) ⟨B,n*5,none⟩)∧(((((w'.setCell ⟨B,n*5,none⟩ a0).setCell ⟨B,n*5+1,none⟩ a1').setCell ⟨B,n*5+2,none⟩ a2').setCell ⟨B,n*5+3,none⟩ a3).setCell ⟨B,n*5+4,none⟩ a4).cell? ⟨B,n*5+1,none⟩=some (curV (((((w'.setCell ⟨B,n*5,none⟩ a0).setCell ⟨B,n*5+1,none⟩ a1').setCell ⟨B,n*5+2,none⟩ a2').setCell ⟨B,n*5+3,none⟩ a3).setCell ⟨B,n*5+4,none⟩ a4) ⟨B,n*5+1,none⟩)∧(((((w'.setCell ⟨B,n*5,none⟩ a0).setCell ⟨B,n*5+1,none⟩ a1').setCell ⟨B,n*5+2,none⟩ a2').setCell ⟨B,n*5+3,none⟩ a3).setCell ⟨B,n*5+4,none⟩ a4).cell? ⟨B,n*5+2,none⟩=some (curV (((((w'.setCell ⟨B,n*5,none⟩ a0).setCell ⟨B,n*5+1,none⟩ a1').setCell ⟨B,n*5+2,none⟩ a2').setCell ⟨B,n*5+3,none⟩ a3).setCell ⟨B,n*5+4,none⟩ a4) ⟨B,n*5+2,none⟩)∧(((((w'.setCell ⟨B,n*5,none⟩ a0).setCell ⟨B,n*5+1,none⟩ a1').setCell ⟨B,n*5+2,none⟩ a2').setCell ⟨B,n*5+3,none⟩ a3).setCell ⟨B,n*5+4,none⟩ a4).cell? ⟨B,n*5+3,none⟩=some (curV (((((w'.setCell ⟨B,n*5,none⟩ a0).setCell ⟨B,n*5+1,none⟩ a1').setCell ⟨B,n*5+2,none⟩ a2').setCell ⟨B,n*5+3,none⟩ a3).setCell ⟨B,n*5+4,none⟩ a4) ⟨B,n*5+3,none⟩)∧(((((w'.setCell ⟨B,n*5,none⟩ a0).setCell ⟨B,n*5+1,none⟩ a1').setCell ⟨B,n*5+2,none⟩ a2').setCell ⟨B,n*5+3,none⟩ a3).setCell ⟨B,n*5+4,none⟩ a4).cell? ⟨B,n*5+4,none⟩=some (curV (((((w'.setCell ⟨B,n*5,none⟩ a0).setCell ⟨B,n*5+1,none⟩ a1').setCell ⟨B,n*5+2,none⟩ a2').setCell ⟨B,n*5+3,none⟩ a3).setCell ⟨B,n*5+4,none⟩ a4) ⟨B,n*5+4,none⟩))∧∀o,(((((w'.setCell ⟨B,n*5,none⟩ a0).setCell ⟨B,n*5+1,none⟩ a1').setCell ⟨B,n*5+2,none⟩ a2').setCell ⟨B,n*5+3,none⟩ a3).setCell ⟨B,n*5+4,none⟩ a4).frozen? ⟨B,o,none⟩=false)∧KP (fun j=>j=B) W5 (((((w'.setCell ⟨B,n*5,none⟩ a0).setCell ⟨B,n*5+1,none⟩ a1').setCell ⟨B,n*5+2,none⟩ a2').setCell ⟨B,n*5+3,none⟩ a3).setCell ⟨B,n*5+4,none⟩ a4)):=hHd (fun w' a0 a1' a2' a3 a4 h=>by
            obtain⟨⟨q0,q1,q2,q3⟩,x0,x1,x2,x3,x4⟩:=HG.out;obtain⟨f0,f1,f2,f3,f4⟩:=(HF5.out.ext h).fd n hsb;have nb:w.heap.size≠B:=by omega
            have nx:W2.heap.size≠B:=by omega
            show (((setL w' B [a0,a1',a2',a3,a4] (n*5)).cell? ⟨w.heap.size,0,none⟩=some (.int .i64 b.last)∧(setL w' B [a0,a1',a2',a3,a4] (n*5)).cell? ⟨w.heap.size,1,none⟩=some (.int .i64 b.owners)∧(setL w' B [a0,a1',a2',a3,a4] (n*5)).cell? ⟨w.heap.size,2,none⟩=some (.slice a1 b.pars.length c1)∧(setL w' B [a0,a1',a2',a3,a4] (n*5)).cell? ⟨w.heap.size,3,none⟩=some (.slice (some ⟨b2,o2,none⟩) b.ents.length c2))∧((setL w' B [a0,a1',a2',a3,a4] (n*5)).cell? ⟨W2.heap.size,0,none⟩=some (.bool true)∧(setL w' B [a0,a1',a2',a3,a4] (n*5)).cell? ⟨W2.heap.size,1,none⟩=some (.bool false)∧(setL w' B [a0,a1',a2',a3,a4] (n*5)).cell? ⟨W2.heap.size,2,none⟩=some (.int .i64 ow)∧(setL w' B [a0,a1',a2',a3,a4] (n*5)).cell? ⟨W2.heap.size,3,none⟩=some (.int .i64 pt)∧(setL w' B [a0,a1',a2',a3,a4] (n*5)).cell? ⟨W2.heap.size,4,none⟩=some (.int .i64 so)))∧(((setL w' B [a0,a1',a2',a3,a4] (n*5)).cell? ⟨B,n*5,none⟩=some (curV (setL w' B [a0,a1',a2',a3,a4] (n*5)) ⟨B,n*5,none⟩)∧(setL w' B [a0,a1',a2',a3,a4] (n*5)).cell? ⟨B,n*5+1,none⟩=some (curV (setL w' B [a0,a1',a2',a3,a4] (n*5)) ⟨B,n*5+1,none⟩)∧(setL w' B [a0,a1',a2',a3,a4] (n*5)).cell? ⟨B,n*5+2,none⟩=some (curV (setL w' B [a0,a1',a2',a3,a4] (n*5)) ⟨B,n*5+2,none⟩)∧(setL w' B [a0,a1',a2',a3,a4] (n*5)).cell? ⟨B,n*5+3,none⟩=some (curV (setL w' B [a0,a1',a2',a3,a4] (n*5)) ⟨B,n*5+3,none⟩)∧(setL w' B [a0,a1',a2',a3,a4] (n*5)).cell? ⟨B,n*5+4,none⟩=some (curV (setL w' B [a0,a1',a2',a3,a4] (n*5)) ⟨B,n*5+4,none⟩))∧∀o,(setL w' B [a0,a1',a2',a3,a4] (n*5)).frozen? ⟨B,o,none⟩=false)∧KP (fun j=>j=B) W5 (setL w' B [a0,a1',a2',a3,a4] (n*5))
            exact⟨⟨⟨setL_ne nb _ _ _ (h.keep q0),setL_ne nb _ _ _ (h.keep q1),setL_ne nb _ _ _ (h.keep q2),setL_ne nb _ _ _ (h.keep q3)⟩,setL_ne nx _ _ _ (h.keep x0),setL_ne nx _ _ _ (h.keep x1),setL_ne nx _ _ _ (h.keep x2),setL_ne nx _ _ _ (h.keep x3),setL_ne nx _ _ _ (h.keep x4)⟩,⟨⟨setL_cur f0,setL_cur f1,setL_cur f2,setL_cur f3,setL_cur f4⟩,fun o=>(setL_fr _ _ _).trans ((HF5.out.ext h).fr o)⟩,((((h.kp.setCell (p:=fun j=>j=B) rfl _).setCell (p:=fun j=>j=B) rfl _).setCell (p:=fun j=>j=B) rfl _).setCell (p:=fun j=>j=B) rfl _).setCell (p:=fun j=>j=B) rfl _⟩)
          have hn0:(0:Int)≤(n:Int):=by omega
          have hn1:(n:Int)<(N:Int):=by omega
          go_region_held3 (fun w'=>((w'.cell? ⟨w.heap.size,0,none⟩=some (.int .i64 b.last)∧w'.cell? ⟨w.heap.size,1,none⟩=some (.int .i64 b.owners)∧w'.cell? ⟨w.heap.size,2,none⟩=some (.slice a1 b.pars.length c1)∧w'.cell? ⟨w.heap.size,3,none⟩=some (.slice (some ⟨b2,o2,none⟩) b.ents.length c2))∧(w'.cell? ⟨W2.heap.size,0,none⟩=some (.bool true)∧w'.cell? ⟨W2.heap.size,1,none⟩=some (.bool false)∧w'.cell? ⟨W2.heap.size,2,none⟩=some (.int .i64 ow)∧w'.cell? ⟨W2.heap.size,3,none⟩=some (.int .i64 pt)∧w'.cell? ⟨W2.heap.size,4,none⟩=some (.int .i64 so)))∧((w'.cell? ⟨B,n*5,none⟩=some (curV w' ⟨B,n*5,none⟩)∧w'.cell? ⟨B,n*5+1,none⟩=some (curV w' ⟨B,n*5+1,none⟩)∧w'.cell? ⟨B,n*5+2,none⟩=some (curV w' ⟨B,n*5+2,none⟩)∧w'.cell? ⟨B,n*5+3,none⟩=some (curV w' ⟨B,n*5+3,none⟩)∧w'.cell? ⟨B,n*5+4,none⟩=some (curV w' ⟨B,n*5+4,none⟩))∧∀o,w'.frozen? ⟨B,o,none⟩=false)∧KP (fun j=>j=B) W5 w')
            (first|(refine HSS.out _ ?_;((repeat (first|exact Ext.refl _|with_reducible (first|assumption|refine Ext.drew ?_|refine Ext.alloc ?_ _|refine Ext.drewN ?_ _|refine Ext.setCell ?_ (by omega) _|refine Ext.trans ?_ (by assumption))));done))|(refine HST.out _ _ _ _ _ _ ?_;exact EXD))
            ((go_at_call 160;(with_reducible refine(HNB.out _ EX).mono ?_);rintro e w6 ⟨rfl,hx6⟩))
          all_goals
            have X56:Ext W5 w6:=EX;have HW6:=hHd ((HF5.out.ext X56).set hsb ⟨true,false,ow,pt,so⟩);have K6:KP (fun j=>j=B) w w6:=K5.ext X56;have HS2:Hid (happenS b i d f=some (upd (upd f p { f p with value:=va - pt }) n ⟨true,false,ow,pt,so⟩)):=hHd (by rw [HNN.out];exact HS.out);clear HSS HST HS;(go_wp2_with fail);go_ret;exact hapQ_yes HS2.out (((((K6.setCell (p:=fun j=>j=B) rfl _).setCell (p:=fun j=>j=B) rfl _).setCell (p:=fun j=>j=B) rfl _).setCell (p:=fun j=>j=B) rfl _).setCell (p:=fun j=>j=B) rfl _) HW6.out
        · have hd:decide (va≤pt)=true:=decide_eq_true (by omega);have HS:Hid (happenS b i d f=none):=hHd (by rw [HH.out];simp [Hs.Fd.up,HFPX.out,hq]);clear HH;(go_wp2_with fail);go_ret;exact hapQ_no HS.out XX.kp
      · skip
        obtain⟨ho1,hne⟩:=hoth rfl;obtain⟨o,rfl⟩:∃o:Nat,ot=(o:Int):=⟨ot.toNat,by omega⟩;have hoN:o<N:=by omega
        have hop:p≠o:=by omega
        simp only [Int.toNat_natCast] at HH;have ho0:(0:Int)≤(o:Int):=by omega
        have ho1':(o:Int)<(N:Int):=by omega
        have hfo:=HF3.out.fd o hoN;obtain⟨y,hfy⟩:∃y,f o=y:=⟨_,rfl⟩;rw [hfy] at hfo;obtain⟨yt,yg,yo,yv,ys⟩:=y;have HFY:=hHd hfy;obtain⟨g0,g1,g2,g3,g4⟩:=hfo;simp only at g0 g1 g2 g3 g4;clear hfy;go_upto_region 18 with fail
        obtain⟨W4,hW4⟩:∃W,W=(W3.alloc (.cells #[.bool yt,.bool yg,.int .i64 yo,.int .i64 yv,.int .i64 ys] 186)):=⟨_,rfl⟩;have X4:Ext W3 W4:=by subst hW4;exact(Ext.refl W3).alloc _
        have HY:Hid (W4.cell? ⟨W3.heap.size,0,none⟩=some (.bool yt)∧W4.cell? ⟨W3.heap.size,1,none⟩=some (.bool yg)∧W4.cell? ⟨W3.heap.size,2,none⟩=some (.int .i64 yo)):=hHd (by subst hW4;exact⟨by simp [go_sem],by simp [go_sem],by simp [go_sem]⟩);rw [←hW4];clear hW4 g0 g1 g2 g3 g4 ff;obtain⟨y0,y1,y2⟩:=HY.out;replace r1:=X4.keep r1;replace r2:=X4.keep r2;replace x2:=X4.keep x2;replace XX:=XX.trans X4;have HF4:=hHd (HF3.out.ext X4);have ff:=HF4.out.fr;obtain⟨g0,g1,g2,g3,g4⟩:=HF4.out.fd p hpN;rw [HFPX.out] at g2;simp only at g2;obtain⟨h0,h1,h2,h3,h4⟩:=HF4.out.fd o hoN;rw [HFY.out] at h2;simp only at h2;clear g0 g1 g3 g4 h0 h1 h3 h4;cases yt with
        | false =>
          have HS:Hid (happenS b i d f=none):=hHd (by rw [HH.out];simp [Hs.Fd.up,HFPX.out,HFY.out]);clear HH;(go_wp2_with fail);go_ret;exact hapQ_no HS.out XX.kp
        | true =>
          cases yg with
          | true =>
            have HS:Hid (happenS b i d f=none):=hHd (by rw [HH.out];simp [Hs.Fd.up,HFPX.out,HFY.out]);clear HH;(go_wp2_with fail);go_ret;exact hapQ_no HS.out XX.kp
          | false =>
            by_cases hq:yo=ow
            · have hd : (yo == ow) = true := by simp [hq]
              have HS:Hid (happenS b i d f=none):=hHd (by rw [HH.out];simp [Hs.Fd.up,HFPX.out,HFY.out,hq]);clear HH;(go_wp2_with fail);go_ret;exact hapQ_no HS.out XX.kp
            · have hd : (yo == ow) = false := by simp [hq]
              have HS:Hid (happenS b i d f=some (upd (upd f p { f p with owner:=yo }) o { f o with owner:=ow })):=hHd (by rw [HH.out];simp [Hs.Fd.up,HFPX.out,HFY.out,Ne.symm hq]);have HW:=hHd ((HF4.out.owner hpN yo).owner hoN ow);rw [swap_fds hop] at HW;have HKK:Hid (KP (fun j=>j=B) w W4):=hHd XX.kp;clear HH hq;have hb2:W2.heap.size≠B:=by have:=X1.size;have:=X2.size;omega
              have hb1:W1.heap.size≠B:=by have:=X1.size;omega
              have hb3:W3.heap.size≠B:=by have:=X1.size;have:=X2.size;have:=X3.size;omega
              have r1':=fun k v=>cell_ne (v:=v) (b':=B) (i':=k) (.inl hb1) r1
              have r2':=fun k v=>cell_ne (v:=v) (b':=B) (i':=k) (.inl hb1) r2
              have x2':=fun k v=>cell_ne (v:=v) (b':=B) (i':=k) (.inl hb2) x2
              have y2':=fun k v=>cell_ne (v:=v) (b':=B) (i':=k) (.inl hb3) y2
              have h2':=fun v=>cell_ne (v:=v) (b':=B) (i':=p*5+2) (.inr (show o*5+2≠p*5+2 by omega)) h2
              have g2':=fun v=>cell_ne (v:=v) (b':=B) (i':=o*5+2) (.inr (show p*5+2≠o*5+2 by omega)) g2
              (go_wp2_with fail);go_region;(go_wp2_with fail);go_ret;exact hapQ_yes HS.out (KP.drew ((HKK.out.setCell (p:=fun j=>j=B) rfl _).setCell (p:=fun j=>j=B) rfl _)) (HW.out.ext (Ext.refl _).drew)
      · skip
        by_cases hq:so≤d
        · have hd:decide ((d:Int)<so)=false:=decide_eq_false (by omega);have HS:Hid (happenS b i d f=some (upd f p { f p with gone:=true })):=hHd (by rw [HH.out];simp [Hs.Fd.up,HFPX.out,hq]);have HW:=hHd (HF3.out.gone hpN true);clear HH hq;(go_wp2_with fail);go_ret;exact hapQ_yes HS.out (XX.kp.setCell (p:=fun j=>j=B) rfl _) HW.out
        · have hd:decide ((d:Int)<so)=true:=decide_eq_true (by omega);have HS:Hid (happenS b i d f=none):=hHd (by rw [HH.out];simp [Hs.Fd.up,HFPX.out,hq]);clear HH;(go_wp2_with fail);go_ret;exact hapQ_no HS.out XX.kp
end Go.Proofs.YtegkdnfeceomdaaGreat
namespace Go.Hs
open Go.RowKit
def bitN (m p:Nat):Bool:=m / 2 ^ p % 2==1
def fdl (x:Fd):List Value:= [.bool x.there,.bool x.gone,.int .i64 x.owner,.int .i64 x.value,.int .i64 x.sown]
def fdls (f:Fds) (n:Nat):List Value:=(List.range n).flatMap (fun i=>fdl (f i))
theorem fdls_len (f:Fds):∀n,(fdls f n).length=n*5
  |0=>rfl
  | n + 1 => by
    unfold fdls;rw [List.range_succ,List.flatMap_append,List.length_append];have:=fdls_len f n;unfold fdls at this;rw [this];simp [fdl];omega
theorem fdls_get (f:Fds):∀(n i k:Nat),i<n→k<5→(fdls f n)[i*5+k]?=(fdl (f i))[k]?
  |0,i,k,h,_=>absurd h (Nat.not_lt_zero _)
  | n + 1, i, k, h, hk => by
    have hl:=fdls_len f n;unfold fdls at hl⊢;rw [List.range_succ,List.flatMap_append];by_cases e:i=n
    · subst e;rw [List.getElem?_append_right (by omega),hl,Nat.add_sub_cancel_left];simp
    · rw [List.getElem?_append_left (by omega)];exact fdls_get f n i k (by omega) hk
def FdR (g N:Nat) (f:Fds) (w:World):Prop:=∀i,i<N→FdAt w g (i*5) (f i)
theorem FdR.kp {g N:Nat} {f:Fds} {w W:World} {p:Nat→Prop} (h:FdR g N f w) (k:KP p w W) (hg:¬p g):FdR g N f W:=fun i hi=>(h i hi).keep (fun _ _ e=>k.keep hg e)
theorem FdR.ext {g N:Nat} {f:Fds} {w W:World} (h:FdR g N f w) (k:Ext w W):FdR g N f W:=fun i hi=>(h i hi).keep (fun _ _ e=>k.keep e)
theorem fdR_of {g N:Nat} {f:Fds} {w:World} (h:∀(j:Nat) (u:Value),(fdls f N)[j]?=some u→w.cell? ⟨g,j,none⟩=some u):FdR g N f w:=fun i hi=>
 ⟨by have:=h (i*5+0) _ (fdls_get f N i 0 hi (by omega));simpa using this,h _ _ (fdls_get f N i 1 hi (by omega)),h _ _ (fdls_get f N i 2 hi (by omega)),h _ _ (fdls_get f N i 3 hi (by omega)),h _ _ (fdls_get f N i 4 hi (by omega))⟩
theorem FdL.all {B N:Nat} {f:Fds} {w:World} (h:FdL B N f w):∀(j:Nat) (u:Value),(fdls f N)[j]?=some u→w.cell? ⟨B,j,none⟩=some u:=fun j u e=>by
 have hj:j<N*5:=by
  rcases Nat.lt_or_ge j (N*5) with h|h
  ·exact h
  ·rw [List.getElem?_eq_none (by rw [fdls_len];exact h)] at e;cases e
 obtain⟨i,k,hk5,rfl⟩:∃i k,k<5∧j=i*5+k:=⟨j / 5,j % 5,by omega,by omega⟩;obtain⟨h0,h1,h2,h3,h4⟩:=h.fd i (by omega);rw [fdls_get f N i k (by omega) hk5] at e;have hk:k=0∨k=1∨k=2∨k=3∨k=4:=by omega
 rcases hk with rfl|rfl|rfl|rfl|rfl<;>simp only [fdl,List.getElem?_cons_zero,List.getElem?_cons_succ,Option.some.injEq] at e<;>subst e
 ·exact h0
 ·exact h1
 ·exact h2
 ·exact h3
 ·exact h4
structure ThenP (w0:World) (B N:Nat) (st:Nat→Option Fds) (day:Int) (d:Nat) (v:Value) (w:World):Prop where
 yes:0≤day∧day<d→∃g q f,v= .slice (some ⟨g,0,none⟩) N q∧N≤q∧g≠B∧g<w.heap.size∧w0.heap.size≤g∧st (day.toNat+1)=some f∧FdR g N f w
 no:¬(0≤day∧day<d)→v= .slice none 0 0
theorem ThenP.kp {w0:World} {B N:Nat} {st:Nat→Option Fds} {day:Int} {d:Nat} {v:Value} {w W:World} (h:ThenP w0 B N st day d v w) (k:KP (fun j=>j=B) w W):ThenP w0 B N st day d v W:=
 ⟨fun hd=>let ⟨g,q,f,e,h1,h2,h3,h4,h5,h6⟩:=h.yes hd;⟨g,q,f,e,h1,h2,Nat.lt_of_lt_of_le h3 k.size,h4,h5,h6.kp k h2⟩,h.no⟩
theorem ThenP.skip {w0:World} {B N:Nat} {st:Nat→Option Fds} {day:Int} {d:Nat} {v:Value} {w:World} (h:ThenP w0 B N st day d v w) (hd:(d:Int)≠day):ThenP w0 B N st day (d+1) v w:=
 ⟨fun h2=>h.yes (by omega),fun h2=>h.no (by omega)⟩
def AtQ (b:Bk) (days sown:List Int) (day:Int) (out:Nat→Bool) (w:World) (e:Ending) (w':World):Prop:=
 (stateS b days sown out (b.last.toNat+1)=none→e= .returned (.tuple #[.slice none 0 0,.bool false]))∧
 (∀ f, stateS b days sown out (b.last.toNat + 1) = some f → ∃ v, e = .returned (.tuple #[v, .bool true]) ∧
  (0≤day∧day≤b.last→∃g q f,v= .slice (some ⟨g,0,none⟩) (numsB b) q∧numsB b≤q∧w.heap.size≤g∧stateS b days sown out (day.toNat+1)=some f∧FdR g (numsB b) f w')∧(¬(0≤day∧day≤b.last)→v= .slice none 0 0))∧Ext w w'
theorem stateS_cut {b:Bk} {days sown:List Int} {out:Nat→Bool} {d:Nat} (h:stateS b days sown out (d+1)=none) (hd:d+1≤b.last.toNat+1):stateS b days sown out (b.last.toNat+1)=none:=by
 have:=stateS_none h (b.last.toNat+1 - (d+1));rw [show d+1+(b.last.toNat+1 - (d+1))=b.last.toNat+1 by omega] at this;exact this
end Go.Hs
namespace Go.Proofs.YtegkdnfeceomdaaGreat
open Go.RowKit Go.Hs
attribute [local irreducible] World.setCell World.alloc
theorem At_h (b : Bk) (v : Value) (days sown : List Int) (vd vs : Value) (day : Int) (on : Nat) (w : World) (hv : BkV w v b) (hb : BkS b) (hd : IntsV w vd days) (hs : IntsV w vs sown) (hl1 : days.length = b.ents.length) (hl2 : sown.length = b.pars.length) (hon : on < 64) :
    Calls Tryz.prog 107 #[v,.agg #[vd,vs],.int .i64 day,.int .i64 on] w (AtQ b days sown day (bitN on) w):=by
  obtain⟨i5,hi5,hz50,hz51,hz52⟩:=info_parts info_fieldH;have HBE:=hHd (fun W (hx:Ext w W)=>Begin_h b v days sown vd vs W (hv.ext hx) (hd.ext hx) (hs.ext hx) hl2);have HHA:=hHd (fun(B i d:Nat) (f:Fds) W (hx:Ext w W) (hB:w.heap.size≤B) hi hF hok=>Happen_h b v B i d f W (hv.ext hx) hb hi hF hok (noBk_of hv hB));obtain⟨ob,hob⟩:∃ob:Nat→Bool,ob=bitN on:=⟨_,rfl⟩;have HOB:Hid (∀i,ob i=(on / 2 ^ i % 2==1)):=hHd (fun i=>by rw [hob];rfl);rw [←hob];clear hob;have HSO:=hHd (fun d f h=>stateS_ok hb (days:=days) (sown:=sown) (out:=ob) d (f:=f) h);have HDO:=hHd (fun d n f g h1 h2 h3=>dayS_ok hb (days:=days) (out:=ob) (d:=d) n (f:=f) (g:=g) h1 h2 h3);have hlast:=hb.last;have hnp:=hb.pars;have hne:=hb.ents;have HN2:numsB b≤b.pars.length+b.ents.length:=numsTo_le b _;have HST:Hid (∀d f,stateS b days sown ob d=some f→stateS b days sown ob (d+1)=dayS b days ob d b.ents.length f):=hHd (fun d f h=>by simp only [stateS,h];rfl);have HDN:Hid (∀d n f,dayS b days ob d (n+1) f=stepS b days ob d (dayS b days ob d n f) n):=hHd (fun d n f=>dayS_next b days ob d n f);have HDZ:Hid (∀d f,dayS b days ob d 0 f=some f):=hHd (fun d f=>by simp [dayS]);have HSP:Hid (∀d f i,stepS b days ob d (some f) i=if days.getD i 0=(d:Int)∧ob i=false then happenS b i d f else some f):=hHd (fun d f i=>rfl);have HCUT:Hid (∀d f n,d≤b.last.toNat→stateS b days sown ob d=some f→n≤b.ents.length→dayS b days ob d n f=none→stateS b days sown ob (b.last.toNat+1)=none):=hHd (fun d f n h1 h2 h3 h4=>stateS_cut (by rw [HST.out d f h2];have:=dayS_none h4 (b.ents.length - n);rwa [show n+(b.ents.length - n)=b.ents.length by omega] at this) (by omega));have HBG:Hid (stateS b days sown ob 0=some (beginS b sown)):=rfl;obtain⟨a1,c1,a2,c2,rfl,hp,he,hp1,he1,hp2,he2⟩:=hv.open;obtain⟨ad,cd,rfl,-,-,-⟩:=id hd
  obtain⟨as',cs,rfl,-,-,-⟩:=id hs
  have HDR:Hid (∀W,Ext w W→∀i,i<b.ents.length→∃b' off,ad=some ⟨b',off,none⟩∧W.cell? ⟨b',off+i,none⟩=some (.int .i64 (days.getD i 0))):=hHd (fun W hx i hi=>by
    obtain⟨p,c',e,-,hc⟩:=IntsV.cellsI (hd.ext hx);cases e
    exact hc i (by omega))
  have HLD:=hHd hl1;have HLS:=hHd hl2;clear hv hp he hd hs hl1 hl2 hb;unfold bkV at*;go_enter Tryz.func107,Tryz.ntmps107
  (go_wp2_with fail);obtain⟨W,hW,X,HS,HSf,HSz⟩:=bx4_2 w 35 (.int .i64 b.last) (.int .i64 b.owners) (.slice a1 b.pars.length c1) (.slice a2 b.ents.length c2) 43 (.slice ad days.length cd) (.slice as' sown.length cs);rw [hW];clear hW;(with_reducible refine(HBE.out _ X).mono ?_);rintro e w1 ⟨B,rfl,hF0,hwB,hx1⟩;clear HBE;have hwB0:w.heap.size≤B:=Nat.le_trans X.size hwB;have HF0:=hHd hF0;clear hF0;generalize hNN:numsB b=N at*;have HNB:=hHd hNN;clear hNN;(go_wp2_with fail);go_loopw [11,12,13] (fun s11 s12 s13 wr=>∃(d:Nat) (tv:Value) (f:Fds),d≤b.last.toNat+1∧s12= .int .i64 d∧tv=s11∧Hid (stateS b days sown ob d=some f∧FdL B N f wr∧ThenP w B N (stateS b days sown ob) day d tv wr)∧Ext W wr) (fun _ s _ _=>b.last.toNat+1 - (intOf s).toNat)
  case atStart=>exact⟨0,_,_,Nat.zero_le _,rfl,rfl,hHd ⟨HBG.out,HF0.out,⟨fun h=>absurd h (by omega),fun _=>rfl⟩⟩,hx1⟩
  case round=>
    obtain⟨d,tv,f,hdl,rfl,rfl,HI,hx⟩:=hrel;obtain⟨wo,rfl⟩:∃x,x=wr:=⟨_,rfl⟩;obtain⟨⟨q0,q1,q2,q3,t0,t1⟩,-⟩:=HS.out wo hx;have XX:=X.trans hx;have hd0:(0:Int)≤(d:Int):=by omega
    by_cases hlt:d≤b.last.toNat
    · skip
      have hdl2:decide ((d:Int)≤b.last)=true:=decide_eq_true (by omega);(go_wp2_with fail);go_loopw [13] (fun s13 wr=>∃(i:Nat) (g:Fds),i≤b.ents.length∧s13= .int .i64 i∧Hid (dayS b days ob d i f=some g∧FdL B N g wr∧ThenP w B N (stateS b days sown ob) day d tv wr)∧Ext W wr) (fun s _=>b.ents.length - (intOf s).toNat)
      case atStart=>exact⟨0,f,Nat.zero_le _,rfl,hHd ⟨HDZ.out d f,HI.out.2.1,HI.out.2.2⟩,hx⟩
      case round=>
        clear hx XX q0 q1 q2 q3 t0 t1;obtain⟨i,g,hil,rfl,HJ,hx⟩:=hrel;obtain⟨wp,rfl⟩:∃x,x=wr:=⟨_,rfl⟩;obtain⟨⟨q0,q1,q2,q3,t0,t1⟩,-⟩:=HS.out wp hx;have XX:=X.trans hx;by_cases hlti:i<b.ents.length
        · skip
          obtain⟨b2,o2,rfl,m2⟩:=HDR.out wp XX i hlti;have hi0:(0:Int)≤(i:Int):=by omega
          have hi1:(i:Int)<(b.ents.length:Int):=by omega
          have hi2:(i:Int)<(days.length:Int):=by have:=HLD.out;omega
          have hi64:(i:Int)≤64:=by omega
          have HNX:Hid (dayS b days ob d (i+1) f=if days.getD i 0=(d:Int)∧ob i=false then happenS b i d g else some g):=hHd (by rw [HDN.out,HJ.out.1,HSP.out]);have HBIT:=hHd (HOB.out i);have HGO:Hid (FdsOK g):=hHd (HDO.out d i f g (Nat.le_of_lt hlti) (HSO.out d f HI.out.1) HJ.out.1);generalize days.getD i 0=dv at*;obtain⟨s,hs⟩:∃s,s=on / 2 ^ i:=⟨_,rfl⟩;have hsl:s<64:=by rw [hs];exact Nat.lt_of_le_of_lt (Nat.div_le_self _ _) hon
          have hs':(on:Int) / 2 ^ i=(s:Int):=by rw [hs];simp
          rw [←hs] at HBIT;have HSE:=hHd hs;clear hs;by_cases hday:dv=(d:Int)
          · have hq : (dv == (d : Int)) = true := by simp [hday]
            obtain⟨z,hz⟩:∃z,z=s % 2:=⟨_,rfl⟩;have hd1:(s:Int) % 2=(z:Int):=by omega
            have hd2:(s:Int).tmod 2=(z:Int):=by rw [Int.tmod_eq_emod_of_nonneg (by omega)];exact hd1
            have hdw:IntKind.i64.wrap (z:Int)=(z:Int):=IntWalk.i64_in _ (by omega);rw [←hz] at HBIT;have hz01:z=0∨z=1:=by omega
            have HDAY:=hHd hday;clear hz hday;rcases hz01 with rfl|rfl
            · have HNX2 : Hid (dayS b days ob d (i + 1) f = happenS b i d g) := hHd (by rw [HNX.out, if_pos ⟨HDAY.out, by rw [HBIT.out]; rfl⟩]); have HJT := hHd HJ.out.2.2; have HCH := hHd (HHA.out B i d g wp XX hwB0 hlti HJ.out.2.1 HGO.out); clear HNX HBIT HGO; (go_wp2_with fail); (with_reducible refine HCH.out.mono ?_); rintro e w5 ⟨hk5, hno, hyes⟩; have X5 : Ext W w5 := hk5.toExt hx (fun k hk => by have hk' : k = B := hk; omega); have XX5 := X.trans X5; cases hh : happenS b i d g with
              | none =>
                obtain rfl:=hno hh;have HR:Hid (stateS b days sown ob (b.last.toNat+1)=none):=hHd (HCUT.out d f (i+1) hlt HI.out.1 (by omega) (by rw [HNX2.out,hh]));clear hh hno hyes HNX2;obtain⟨⟨q0,q1,q2,q3,t0,t1⟩,-⟩:=HS.out w5 X5;(go_wp2_with fail);go_ret2;exact⟨fun _=>rfl,fun f' hf=>(by rw [HR.out] at hf;cases hf),XX5⟩
              | some g' =>
                obtain⟨rfl,hF5⟩:=hyes g' hh;have HJ2:Hid (dayS b days ob d (i+1) f=some g'∧FdL B N g' w5∧ThenP w B N (stateS b days sown ob) day d tv w5):=hHd ⟨by rw [HNX2.out,hh],hF5,HJT.out.kp hk5⟩;clear hh hno hyes HNX2 hF5;obtain⟨⟨q0,q1,q2,q3,t0,t1⟩,-⟩:=HS.out w5 X5;(go_wp2_with fail);go_roundw
                case rel=>exact⟨i+1,g',by omega,by go_num,HJ2,X5⟩
                case measure=>simp [intOf];omega
            · have HJ2 : Hid (dayS b days ob d (i + 1) f = some g ∧ FdL B N g wp ∧ ThenP w B N (stateS b days sown ob) day d tv wp) := hHd ⟨by rw [HNX.out, if_neg (fun h => by rw [HBIT.out] at h; exact absurd h.2 (by decide))], HJ.out.2⟩; clear HNX HBIT HGO; (go_wp2_with fail); go_roundw
              case rel=>exact⟨i+1,g,by omega,by go_num,HJ2,hx⟩
              case measure=>simp [intOf];omega
          · have hq : (dv == (d : Int)) = false := by simp [hday]
            have HJ2:Hid (dayS b days ob d (i+1) f=some g∧FdL B N g wp∧ThenP w B N (stateS b days sown ob) day d tv wp):=hHd ⟨by rw [HNX.out,if_neg (fun h=>hday h.1)],HJ.out.2⟩;clear HNX HBIT HGO hday;(go_wp2_with fail);go_roundw
            case rel=>exact⟨i+1,g,by omega,by go_num,HJ2,hx⟩
            case measure=>simp [intOf];omega
        · skip
          obtain rfl:i=b.ents.length:=by omega
          have HNEW:Hid (stateS b days sown ob (d+1)=some g):=hHd (by rw [HST.out d f HI.out.1];exact HJ.out.1);by_cases hdd:(d:Int)=day
          · have hq : ((d : Int) == day) = true := by simp [hdd]
            have HDD:=hHd hdd;have HJF:=hHd HJ.out.2.1;have hBl:B<wp.heap.size:=HJF.out.lt;clear hdd hlti;go_wp2_with (at_builtin;refine wpList_append_own_at _ rfl _ _ 182 rfl w.heap.size 186 i5 (.agg #[.bool false,.bool false,.int .i64 0,.int .i64 0,.int .i64 0]) 5 32 Tryz.underlying182 hi5 hz50 hz51 hz52 rfl (by decide) (.slice (some ⟨wp.heap.size,0,none⟩) 0 0) 0 [] rfl ?own ⟨B,0,none⟩ N N (fdls g N) rfl ?len ?cells ?one ?fit1 ?fit2 ?fit3 ?next)
            case own=>exact⟨rfl,.inr ⟨_,_,_,rfl,XX.size,heap_alloc_new _ _,Nat.le_refl _,by simp,rfl,rfl⟩⟩
            case len=>exact fdls_len g N
            case cells=>
              intro j u hj
              rw [add_none'];simpa using ((Ext.refl wp).alloc _).keep (HJF.out.all j u hj)
            case one=>
              intro u hu
              obtain⟨i,-,hu⟩:=List.mem_flatMap.1 hu;simp only [fdl,List.mem_cons,List.not_mem_nil,or_false] at hu;rcases hu with rfl|rfl|rfl|rfl|rfl<;>rfl
            case fit1=>simp only [maxLen];omega
            case fit2=>omega
            case fit3=>have:=XX.size;simp;omega
            case next=>
              intro v' w6 hown hgrow hnil hat
              have hx6:Ext wp w6:=grown_ext ((Ext.refl wp).alloc _) hgrow (fun g' hg=>by simp [Value.ownBlock] at hg;omega);rcases own_open hown with ⟨e0,-⟩|⟨g',cap,rfl,hB6,hlt6,hcap,hcells⟩
              · first|exact(hnil e0).elim|exact absurd (hnil.1 e0).1 (by simp)
              · have hgB : g' ≠ B := by
                  first|omega|(simp [Value.ownBlock] at hat;omega)
                have HT6:Hid (ThenP w B N (stateS b days sown ob) day (d+1) (.slice (some ⟨g',0,none⟩) N cap) w6):=hHd ⟨fun _=>⟨g',cap,g,rfl,by omega,hgB,hlt6,hB6,by rw [←HDD.out];exact HNEW.out,fdR_of (by simpa using hcells)⟩,fun h=>absurd (by have:=HDD.out;omega) h⟩;have HF6:=hHd (HJF.out.ext hx6);clear hnil hat hown hgrow hcells;(go_wp2_with fail);go_roundw
                case rel=>exact⟨d+1,_,g,by omega,by go_num,rfl,hHd ⟨HNEW.out,HF6.out,HT6.out⟩,hx.trans hx6⟩
                case measure=>simp [intOf];omega
          · have hq : ((d : Int) == day) = false := by simp [hdd]
            have HT6:=hHd (HJ.out.2.2.skip hdd);have HF6:=hHd HJ.out.2.1;clear hdd hlti;(go_wp2_with fail);go_roundw
            case rel=>exact⟨d+1,_,g,by omega,by go_num,rfl,hHd ⟨HNEW.out,HF6.out,HT6.out⟩,hx⟩
            case measure=>simp [intOf];omega
    · have hdl2 : decide ((d : Int) ≤ b.last) = false := decide_eq_false (by omega); obtain rfl : d = b.last.toNat + 1 := by omega
      have hll:((b.last.toNat:Nat):Int)=b.last:=by omega
      have HR:=hHd HI.out.1;have HT:=hHd HI.out.2.2;clear hlt;(go_wp2_with fail);go_ret2;refine⟨fun h=>(by rw [HR.out] at h;cases h),fun f' hf=>⟨_,rfl,fun h=> ?_,fun h=>HT.out.no (fun h2=>h (by omega))⟩,XX⟩
      obtain⟨g,q,f2,e,k1,k2,k3,k4,k5,k6⟩:=HT.out.yes (by omega);rw [HNB.out];exact⟨g,q,f2,e,k1,k4,k5,k6⟩
end Go.Proofs.YtegkdnfeceomdaaGreat
