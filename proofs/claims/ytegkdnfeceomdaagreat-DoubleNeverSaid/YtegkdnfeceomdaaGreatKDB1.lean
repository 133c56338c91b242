/- Bundled: what the texts OT HYT HYB HYC say one after another. -/
import Derived.Test.YtegkdnfeceomdaaGreatKDA17
import Derived.Test.YtegkdnfeceomdaaGreatKDC2
import Derived.Test.YtegkdnfeceomdaaGreatKDS1
import Derived.Test.YtegkdnfeceomdaaGreatKDC5
import Derived.Test.YtegkdnfeceomdaaGreatKDW1
import Derived.Test.YtegkdnfeceomdaaGreatKDA4
import Derived.Test.YtegkdnfeceomdaaGreatKDA6
import Derived.Test.YtegkdnfeceomdaaGreatKDA26
import Derived.Test.YtegkdnfeceomdaaGreatKDA23
set_option maxRecDepth 100000
set_option maxHeartbeats 16000000
set_option linter.unusedSimpArgs false
set_option linter.unusedVariables false
namespace Go.Hs
open Go.RowKit Go.Proofs.YtegkdnfeceomdaaGreat
theorem ints_kpX {U:Nat} {p:Nat→Prop} {a b:World} {x:Option Addr} {l q:Nat} {xs:List Int} (h:IntsV a (.slice x l q) xs) (k:KP p a b) (hp:∀j,p j→j<U) (hx:∀c o,x=some ⟨c,o,none⟩→U≤c):IntsV b (.slice x l q) xs:=by
 obtain⟨x',q',e,h1,h2,h3⟩:=h;refine⟨x',q',e,h1,h2,fun i hi=> ?_⟩
 obtain⟨c,o,rfl,hc,hc2⟩:=h3 i hi;simp only [Value.slice.injEq] at e;have hge:=hx c o e.1;exact⟨c,o,rfl,k.keep (fun g=>by have:=hp _ g;omega) hc,hc2⟩
theorem tru_kpX {U:Nat} {p:Nat→Prop} {a b:World} {v:Value} {t:DTr} (h:TruV a v t) (hB:TruB U v) (k:KP p a b) (hp:∀j,p j→j<U):TruV b v t:=by
 obtain⟨ad,nd,cd,as',ns,cs,at',nt,ct,lo,e,h1,h2,h3⟩:=hB;obtain⟨vd,vs,vst,e2,g1,g2,g3⟩:=h;rw [e] at e2;simp only [Value.agg.injEq,Array.mk.injEq,List.cons.injEq,and_true] at e2;obtain⟨rfl,rfl,rfl,e3⟩:=e2;exact⟨_,_,_,by rw [e,e3],ints_kpX g1 k hp h1,ints_kpX g2 k hp h2,ints_kpX g3 k hp h3⟩
def TruS (row:Option Nat) (w:World) (v:Value) (t:DTr):Prop:=∀w',KP (fun j=>row=some j) w w'→TruV w' v t
theorem TruS.here {row:Option Nat} {w:World} {v:Value} {t:DTr} (h:TruS row w v t):TruV w v t:=h w (KP.refl _)
theorem TruS.move {row row':Option Nat} {w w':World} {v:Value} {t:DTr} (h:TruS row w v t) (k:KP (fun j=>row=some j) w w') (hr:∀j,row'=some j→row=some j∨w.heap.size≤j):TruS row' w' v t:=
 fun _ k2=>h _ (KP.joinH k k2 hr)
theorem TruS.new {row:Option Nat} {U:Nat} {w:World} {v:Value} {t:DTr} (h:TruV w v t) (hB:TruB U v) (hr:∀j,row=some j→j<U):TruS row w v t:=fun _ k=>tru_kpX h hB k hr
structure OwnT (B e:Nat) (a:Option Addr) (n q:Nat) (us:List V4) (ts:List DTr) (w:World):Prop where
 own:w.ownsRow B e 4 (.slice a n q) n (us.flatMap V4.l)
 len:n=us.length
 len2:us.length=ts.length
 el:∀i (h1:i<us.length) (h2:i<ts.length),TruS (Value.slice a n q).ownBlock w us[i].val ts[i]
theorem OwnT.ext {B e:Nat} {a:Option Addr} {n q:Nat} {us:List V4} {ts:List DTr} {w w':World} (h:OwnT B e a n q us ts w) (x:Ext w w'):OwnT B e a n q us ts w':=
 ⟨own_extR h.own x,h.len,h.len2,fun i h1 h2=>(h.el i h1 h2).move (Ext.kp x) (fun _ hj=> .inl hj)⟩
theorem OwnT.nil (B e:Nat) (w:World):OwnT B e none 0 0 [] [] w:=⟨World.ownsRow_nil _ _ _ _,rfl,rfl,fun i h=>absurd h (Nat.not_lt_zero _)⟩
theorem OwnT.next {B e:Nat} {a a':Option Addr} {n q q' m:Nat} {us:List V4} {ts:List DTr} {w w1 w2:World} {u:V4} {t:DTr} {xs:List Value} (h:OwnT B e a n q us ts w) (hx:Ext w w1) (ht:TruV w1 u.val t) (hB:TruB w.heap.size u.val)
  (hg:KP (fun j=>(Value.slice a n q).ownBlock=some j) w1 w2) (ho:w2.ownsRow B e 4 (.slice a' m q') m xs) (hxs:xs=us.flatMap V4.l++u.l) (hm:m=n+1) (hat:(Value.slice a' m q').ownBlock=(Value.slice a n q).ownBlock∨∃g,(Value.slice a' m q').ownBlock=some g∧w1.heap.size≤g):OwnT B e a' m q' (us++ [u]) (ts++ [t]) w2:=by
 subst hxs hm
 have hr:∀j,(Value.slice a' (n+1) q').ownBlock=some j→(Value.slice a n q).ownBlock=some j∨w1.heap.size≤j:=fun j hj=>by
  rcases hat with h'|⟨g,h1,h2⟩
  ·left;rw [←h'];exact hj
  ·right;rw [h1] at hj;cases hj;exact h2
 have hn:TruS (Value.slice a n q).ownBlock w1 u.val t:=TruS.new ht hB (fun j hj=>(own_lt h.own hj).2);refine⟨by simpa using ho,by rw [h.len];simp,by simp [h.len2],fun i h1 h2=> ?_⟩
 rw [List.getElem_append,List.getElem_append];by_cases hi:i<us.length
 ·rw [dif_pos hi,dif_pos (by rw [←h.len2];exact hi)];exact((h.el i hi (by rw [←h.len2];exact hi)).move (Ext.kp hx) (fun _ hj=> .inl hj)).move hg hr
 ·rw [dif_neg hi,dif_neg (by rw [←h.len2];exact hi)];simp only [List.getElem_singleton];exact hn.move hg hr
def TrusV (w:World) (v:Value) (ts:List DTr):Prop:=∃(us:List V4) (a:Option Addr) (q:Nat),us.length=ts.length∧v= .slice a us.length q∧us.length≤q∧Cells4 w a us∧∀i (h1:i<us.length) (h2:i<ts.length),TruV w us[i].val ts[i]
theorem TrusV.ext {w w':World} {v:Value} {ts:List DTr} (h:TrusV w v ts) (x:Ext w w'):TrusV w' v ts:=by
 obtain⟨us,a,q,h1,h2,h3,h4,h5⟩:=h;exact⟨us,a,q,h1,h2,h3,h4.ext x,fun i g1 g2=>(h5 i g1 g2).ext x⟩
theorem OwnT.out {B e:Nat} {a:Option Addr} {n q:Nat} {us:List V4} {ts:List DTr} {w:World} (h:OwnT B e a n q us ts w):TrusV w (.slice a n q) ts:=by
 have hl:=h.len;have ho:=h.own;subst hl;refine⟨us,a,q,h.len2,rfl,?_,?_,fun i h1 h2=>(h.el i h1 h2).here⟩
 ·rcases own_open ho with ⟨e, h0⟩ | ⟨g, cap, e, -, -, hn, -⟩
  ·simp only [Value.slice.injEq] at e;omega
  ·simp only [Value.slice.injEq] at e;omega
 ·intro i hi
  obtain⟨g,rfl,-,-,hc⟩:=Hs.Own.at (C:=V4.l) (fun _=>rfl) (B:=B) (e:=e) (w:=w) (a:=a) (n:=us.length) (q:=q) (xs:=us) ho hi;exact⟨g,0,rfl,by have:=hc 0 _ rfl;simpa using this,by have:=hc 1 _ rfl;simpa using this,by have:=hc 2 _ rfl;simpa using this,by have:=hc 3 _ rfl;simpa using this⟩
end Go.Hs
namespace Go.Proofs.YtegkdnfeceomdaaGreat
open Go.RowKit Go.Hs
attribute [local irreducible] World.setCell World.alloc
end Go.Proofs.YtegkdnfeceomdaaGreat
namespace Go.Hs
open Go.RowKit Go.Proofs.YtegkdnfeceomdaaGreat
structure Bd4 where
 pl:Int
 ph:Int
 rl:Int
 rh:Int
def Bd4.c (x:Bd4):V4:=⟨.int .i64 x.pl,.int .i64 x.ph,.int .i64 x.rl,.int .i64 x.rh⟩
structure OutB (g n:Nat) (u:Nat→Bd4) (w:World):Prop where
 c:∀i,i<n→Cell4 w g (i*4) (u i).c
 fr:∀o,w.frozen? ⟨g,o,none⟩=false
 lt:g<w.heap.size
theorem OutB.ext {g n:Nat} {u:Nat→Bd4} {w W:World} (h:OutB g n u w) (hx:Ext w W):OutB g n u W:=⟨fun i hi=>(h.c i hi).ext hx,fun o=>(hx.frozen h.lt).trans (h.fr o),Nat.lt_of_lt_of_le h.lt hx.size⟩
theorem own_fr {w:World} {B e k n g cap:Nat} {us:List Value} (h:w.ownsRow B e k (.slice (some ⟨g,0,none⟩) n cap) n us):∀o,w.frozen? ⟨g,o,none⟩=false:=fun o=>by
 rcases h.2 with ⟨h0,-⟩|⟨g',cap',cur,he,-,hg,-⟩
 ·cases h0
 ·cases he
  simp only [World.frozen?,hg];simp
theorem OutB.of {w:World} {B e n q:Nat} {a:Option Addr} {x:Bd4} (h:w.ownsRow B e 4 (.slice a n q) n ((List.replicate n x.c).flatMap V4.l)) (hn:0<n):∃g,a=some ⟨g,0,none⟩∧B≤g∧OutB g n (fun _=>x) w:=by
 rcases own_open h with ⟨-,h0⟩|⟨g,cap,he,hB,hg,-,-⟩
 ·omega
 ·simp only [Value.slice.injEq] at he; obtain ⟨rfl, -, rfl⟩ := he; refine ⟨g, rfl, hB, fun i hi => ?_, own_fr h, hg⟩
  obtain⟨g',e',-,-,hc⟩:=Hs.Own.at (C:=V4.l) (fun _=>rfl) (B:=B) (e:=e) (w:=w) (a:=some ⟨g,0,none⟩) (n:=(List.replicate n x.c).length) (q:=q) (xs:=List.replicate n x.c) (by show w.ownsRow B e 4 _ (List.replicate n x.c).length _;rw [List.length_replicate];exact h) (by simpa using hi:i<(List.replicate n x.c).length);cases e'
  have hx:(List.replicate n x.c)[i]'(by simpa using hi)=x.c:=by simp
  rw [hx] at hc;exact⟨by have:=hc 0 _ rfl;simpa using this,by have:=hc 1 _ rfl;simpa using this,by have:=hc 2 _ rfl;simpa using this,by have:=hc 3 _ rfl;simpa using this⟩
theorem OutB.put {g n k:Nat} {u v:Nat→Bd4} {w:World} {y:Bd4} (h:OutB g n u w) (hk:k<n) (hv:∀i,v i=if i=k then y else u i):
  OutB g n v ((((w.setCell ⟨g,k*4,none⟩ (.int .i64 y.pl)).setCell ⟨g,k*4+1,none⟩ (.int .i64 y.ph)).setCell ⟨g,k*4+2,none⟩ (.int .i64 y.rl)).setCell ⟨g,k*4+3,none⟩ (.int .i64 y.rh)):=by
 refine⟨fun i hi=> ?_,fun o=>by simp only [World.frozen?_setCell];exact h.fr o,by rw [size_set',size_set',size_set',size_set'];exact h.lt⟩
 rw [hv i]
 have hA:=setL_at (R:=g) y.c.l (k*4) w (fun j hj=>by
  obtain⟨k0,k1,k2,k3⟩:=h.c k hk;have hj:j<4:=hj;rcases j with _|_|_|_|j
  ·exact⟨_,k0⟩
  ·exact⟨_,k1⟩
  ·exact⟨_,k2⟩
  ·exact⟨_,k3⟩
  ·omega)
 by_cases e:i=k
 ·subst e;rw [if_pos rfl];exact⟨hA 0 _ rfl,hA 1 _ rfl,hA 2 _ rfl,hA 3 _ rfl⟩
 ·rw [if_neg e]; obtain ⟨k0, k1, k2, k3⟩ := h.c i hi; have N : ∀ {a b : Nat} {x v : Value} {W : World}, a < 4 → b < 4 → W.cell? ⟨g, i * 4 + a, none⟩ = some x → (W.setCell ⟨g, k * 4 + b, none⟩ v).cell? ⟨g, i * 4 + a, none⟩ = some x := fun ha hb hc => cell_ne (.inr (by omega)) hc
  have M:∀ {a:Nat} {x v0 v1 v2 v3:Value},a<4→w.cell? ⟨g,i*4+a,none⟩=some x→((((w.setCell ⟨g,k*4,none⟩ v0).setCell ⟨g,k*4+1,none⟩ v1).setCell ⟨g,k*4+2,none⟩ v2).setCell ⟨g,k*4+3,none⟩ v3).cell? ⟨g,i*4+a,none⟩=some x:=
   fun ha hc=>N ha (by omega) (N ha (by omega) (N ha (by omega) (N (b:=0) ha (by omega) hc)))
  exact⟨M (a:=0) (by omega) k0,M (by omega) k1,M (by omega) k2,M (by omega) k3⟩
structure TotB (T:Nat) (p:Int×Int) (w:World):Prop where
 c0:w.cell? ⟨T,0,none⟩=some (.int .i64 p.1)
 c1:w.cell? ⟨T,1,none⟩=some (.int .i64 p.2)
 fr:∀o,w.frozen? ⟨T,o,none⟩=false
 lt:T<w.heap.size
theorem TotB.kp {T:Nat} {p:Int×Int} {q:Nat→Prop} {w W:World} (h:TotB T p w) (k:KP q w W) (hq:¬q T):TotB T p W:=⟨k.keep hq h.c0,k.keep hq h.c1,fun o=>(k.frozen h.lt hq).trans (h.fr o),Nat.lt_of_lt_of_le h.lt k.size⟩
theorem OutB.kp {g n:Nat} {u:Nat→Bd4} {q:Nat→Prop} {w W:World} (h:OutB g n u w) (k:KP q w W) (hq:¬q g):OutB g n u W:=⟨fun i hi=>let ⟨k0,k1,k2,k3⟩:=h.c i hi;⟨k.keep hq k0,k.keep hq k1,k.keep hq k2,k.keep hq k3⟩,fun o=>(k.frozen h.lt hq).trans (h.fr o),Nat.lt_of_lt_of_le h.lt k.size⟩
theorem TotB.put {T:Nat} {p:Int×Int} {w:World} (h:TotB T p w) (lo hi:Int):TotB T (lo,hi) ((w.setCell ⟨T,0,none⟩ (.int .i64 lo)).setCell ⟨T,1,none⟩ (.int .i64 hi)):=
 ⟨cell_ne (.inr (by omega)) (World.cell?_setCell_same _ _ _ h.c0),World.cell?_setCell_same _ _ _ (cell_ne (.inr (by omega)) h.c1),fun o=>by simp only [World.frozen?_setCell];exact h.fr o,by rw [size_set',size_set'];exact h.lt⟩
def bdsK (F G:Nat→Nat→Int) (k i:Nat):Bd4:=⟨(wideF ((List.range k).map (fun j:Nat=>F j i))).1,(wideF ((List.range k).map (fun j:Nat=>F j i))).2,(wideF ((List.range k).map (fun j:Nat=>G j i))).1,(wideF ((List.range k).map (fun j:Nat=>G j i))).2⟩
def bdsJ (F G:Nat→Nat→Int) (k j i:Nat):Bd4:=if i<j then bdsK F G (k+1) i else bdsK F G k i
theorem OutB.done {F G:Nat→Nat→Int} {g n k:Nat} {w:World} (h:OutB g n (bdsJ F G k n) w):OutB g n (bdsK F G (k+1)) w:=⟨fun i hi=>by have:=h.c i hi;unfold bdsJ at this;rwa [if_pos hi] at this,h.fr,h.lt⟩
end Go.Hs
namespace Go.Proofs.YtegkdnfeceomdaaGreat
open Go.RowKit Go.Hs
attribute [local irreducible] World.setCell World.alloc
end Go.Proofs.YtegkdnfeceomdaaGreat
namespace Go.Hs
open Go.RowKit Go.Proofs.YtegkdnfeceomdaaGreat
def bd4 (c:DCas) (i:Nat):Bd4:=⟨(bdsD c (fun d=>payD d i)).1,(bdsD c (fun d=>payD d i)).2,(bdsD c (fun d=>refundD d i)).1,(bdsD c (fun d=>refundD d i)).2⟩
end Go.Hs
namespace Go.Proofs.YtegkdnfeceomdaaGreat
open Go.RowKit Go.Hs
end Go.Proofs.YtegkdnfeceomdaaGreat
