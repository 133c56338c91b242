/- Bundled: what the texts GM GL GC say one after another. -/
import Derived.Test.YtegkdnfeceomdaaGreatKDX2
set_option maxRecDepth 100000
set_option maxHeartbeats 16000000
set_option linter.unusedSimpArgs false
set_option linter.unusedVariables false
namespace Go.Hs
open Go.RowKit
theorem KP.belq {p:Nat→Prop} {n:Nat} {w a b:World} (h:KP p w a) (k:BelQ (fun _=>False) (fun _=>True) n a b) (hn:w.heap.size≤n):KP p w b:=
 ⟨k.os.trans h.os,k.tape.trans h.tape,k.output.trans h.output,Nat.le_trans h.size k.size,fun i hi hr=>(k.block i (by omega) id).trans (h.block i hi hr)⟩
theorem KP.putObj {p:Nat→Prop} {w a:World} (h:KP p w a) {M:Nat} (hM:p M) (o:Obj):KP p w (a.putObj M o):=
 ⟨h.os,h.tape,h.output,by simpa using h.size,fun i hi hr=>(World.putObj_heap_other (fun e=>hr (by rw [e];exact hM))).trans (h.block i hi hr)⟩
theorem setCells_block {R:Nat} :∀(vs:List Value) (o:Nat) (w:World) (k:Nat),k≠R→(w.setCells R o vs).heap[k]?=w.heap[k]?
  | [],_,_,_,_=>rfl
  | v :: vs, o, w, k, hk => by
    rw [World.setCells,setCells_block vs (o+1) _ k hk];exact Below.heap_setCell _ _ _ _ hk
theorem RowF.belq {R n:Nat} {f:Fds} {w W:World} (h:RowF R f w) (k:BelQ (fun _=>False) (fun _=>True) n w W) (hR:R<n):RowF R f W:=
 ⟨fun j v e=>k.cell id (by omega) (h.c j v e),fun o=>(k.frozen id (by omega)).trans (h.fr o)⟩
theorem RowF.block {R:Nat} {f:Fds} {w W:World} (h:RowF R f w) (e:W.heap[R]?=w.heap[R]?):RowF R f W:=
 ⟨fun j v hv=>(World.cell?_of_block (w:=w) e).trans (h.c j v hv),fun o=>(World.frozen?_of_block (w:=w) e).trans (h.fr o)⟩
def lastF (ts:List (PTr×Fds)) (k:Nat):Fds:=if k=0 then fun _=>Fd.zero else (ts.getD (k - 1) (⟨[],[]⟩,fun _=>Fd.zero)).2
def seenF (ts:List (PTr×Fds)) (p k:Nat) (x:Fd):Prop:=∃i,i<k∧∃h:i<ts.length,(ts[i]).2 p=x∧sameFds (ts[i]).2 (lastF ts i)=false
theorem seenF_next {ts:List (PTr×Fds)} {p k:Nat} (h:k<ts.length) (hs:sameFds (ts[k]).2 (lastF ts k)=false) (x:Fd):(seenF ts p k x∨x=(ts[k]).2 p)↔seenF ts p (k+1) x:=by
 constructor
 ·rintro (⟨i, hi, h2⟩ | rfl)
  ·exact⟨i,by omega,h2⟩
  ·exact⟨k,by omega,h,rfl,hs⟩
 ·rintro ⟨i, hi, h2, h3, h4⟩; by_cases e : i = k
  ·subst e;exact .inr h3.symm
  ·exact .inl ⟨i,by omega,h2,h3,h4⟩
theorem seenF_same {ts:List (PTr×Fds)} {p k:Nat} (h:k<ts.length) (hs:sameFds (ts[k]).2 (lastF ts k)=true) (x:Fd):seenF ts p k x↔seenF ts p (k+1) x:=by
 constructor
 ·rintro ⟨i,hi,h2⟩;exact⟨i,by omega,h2⟩
 ·rintro ⟨i, hi, h2, h3, h4⟩; by_cases e : i = k
  ·subst e;rw [hs] at h4;cases h4
  ·exact⟨i,by omega,h2,h3,h4⟩
theorem lastF_next {ts:List (PTr×Fds)} {k:Nat} (h:k<ts.length):lastF ts (k+1)=(ts[k]).2:=by
 simp [lastF,h]
theorem sameFds_at {f g:Fds} (h:sameFds f g=true) {p:Nat} (hp:p<10):f p=g p:=by
 have:=List.all_eq_true.1 h p (List.mem_range.2 hp);simpa using this
end Go.Hs
namespace Go.Proofs.YtegkdnfeceomdaaGreat
open Go.RowKit Go.Hs
attribute [local irreducible] World.setCell World.alloc
attribute [local go_sem] Oper.semAt_some
attribute [local simp] wide_fn wide_fn' wide_depth wide_round
attribute [local go_sem] wide_fn wide_fn' wide_depth wide_round
structure KnJ (ts:List (PTr×Fds)) (p M L k:Nat) (V w:World):Prop where
 kp:KP (fun j=>j=M∨j=L) V w
 row:RowF L (lastF ts k) w
 set:SetAt fdVal M (seenF ts p k) w
theorem KnJ.belq {ts:List (PTr×Fds)} {p M L k n:Nat} {V a b:World} (h:KnJ ts p M L k V a) (x:BelQ (fun _=>False) (fun _=>True) n a b) (hn:V.heap.size≤n) (hM:M<n) (hL:L<n):KnJ ts p M L k V b:=
 ⟨h.kp.belq x hn,h.row.belq x hL,h.set.of (x.block M hM id)⟩
theorem KnJ.put {ts:List (PTr×Fds)} {p M L k:Nat} {V a:World} (h1:KP (fun j=>j=M∨j=L) V a) (h2:RowF L (lastF ts k) a) (h3:SetAt fdVal M (seenF ts p (k+1)) a) (hk:k<ts.length) (hM:M≠L):KnJ ts p M L (k+1) V (a.setCells L 0 (fdsL (ts[k]).2)):=
 ⟨KP.setCells (.inr rfl) _ _ h1,by rw [lastF_next hk];exact h2.put,h3.of (setCells_block _ _ _ _ hM)⟩
theorem set_mid {w2 W:World} {m:Nat} (h:Ext (w2.alloc (.map #[] 0)) W) (hm:m=w2.heap.size):SetAt fdVal m (fun _=>False) W:=by
 subst hm;have k:=SetAt.empty (enc:=fdVal) w2;exact k.of (h.heap k.lt)
theorem rowf_mid {w5:World} {L:Nat} (hL:L=w5.heap.size):RowF L (fun _=>Hs.Fd.zero) (w5.alloc (.cells #[.bool false,.bool false,.int .i64 0,.int .i64 0,.int .i64 0,.bool false,.bool false,.int .i64 0,.int .i64 0,.int .i64 0,.bool false,.bool false,.int .i64 0,.int .i64 0,.int .i64 0,.bool false,.bool false,.int .i64 0,.int .i64 0,.int .i64 0,.bool false,.bool false,.int .i64 0,.int .i64 0,.int .i64 0,.bool false,.bool false,.int .i64 0,.int .i64 0,.int .i64 0,.bool false,.bool false,.int .i64 0,.int .i64 0,.int .i64 0,.bool false,.bool false,.int .i64 0,.int .i64 0,.int .i64 0,.bool false,.bool false,.int .i64 0,.int .i64 0,.int .i64 0,.bool false,.bool false,.int .i64 0,.int .i64 0,.int .i64 0] 198)):=by subst hL;exact rowf_new w5
theorem nil_intsP (w:World):IntsV w (.slice none 0 0) []:=⟨none,0,rfl,Nat.le_refl _,by simp,fun i hi=>absurd hi (Nat.not_lt_zero _)⟩
theorem kn_new (la ow:Int) (a1:Option Addr) (n1 c1:Nat) (a2:Option Addr) (n2 c2:Nat) (p:Int) (w:World):∃(W:World) (zA zB:Value),zA= .agg #[.bool false,.bool false,.int .i64 0,.int .i64 0,.int .i64 0,.bool false,.bool false,.int .i64 0,.int .i64 0,.int .i64 0,.bool false,.bool false,.int .i64 0,.int .i64 0,.int .i64 0,.bool false,.bool false,.int .i64 0,.int .i64 0,.int .i64 0,.bool false,.bool false,.int .i64 0,.int .i64 0,.int .i64 0,.bool false,.bool false,.int .i64 0,.int .i64 0,.int .i64 0,.bool false,.bool false,.int .i64 0,.int .i64 0,.int .i64 0,.bool false,.bool false,.int .i64 0,.int .i64 0,.int .i64 0,.bool false,.bool false,.int .i64 0,.int .i64 0,.int .i64 0,.bool false,.bool false,.int .i64 0,.int .i64 0,.int .i64 0]∧zB= .agg #[.int .i64 la,.int .i64 ow,.slice a1 n1 c1,.slice a2 n2 c2,.bool false,.bool false,.int .i64 0,.int .i64 0,.int .i64 0,.bool false,.bool false,.int .i64 0,.int .i64 0,.int .i64 0,.bool false,.bool false,.int .i64 0,.int .i64 0,.int .i64 0,.bool false,.bool false,.int .i64 0,.int .i64 0,.int .i64 0,.bool false,.bool false,.int .i64 0,.int .i64 0,.int .i64 0,.bool false,.bool false,.int .i64 0,.int .i64 0,.int .i64 0,.bool false,.bool false,.int .i64 0,.int .i64 0,.int .i64 0,.bool false,.bool false,.int .i64 0,.int .i64 0,.int .i64 0,.bool false,.bool false,.int .i64 0,.int .i64 0,.int .i64 0,.bool false,.bool false,.int .i64 0,.int .i64 0,.int .i64 0,.map (some (w.heap.size+1+1))]∧((((((w.alloc (.cells #[.int .i64 la,.int .i64 ow,.slice a1 n1 c1,.slice a2 n2 c2] 52)).alloc (.cells #[.int .i64 p] 3)).alloc (.map #[] 0)).alloc (.cells #[.int .i64 la,.int .i64 ow,.slice a1 n1 c1,.slice a2 n2 c2,.bool false,.bool false,.int .i64 0,.int .i64 0,.int .i64 0,.bool false,.bool false,.int .i64 0,.int .i64 0,.int .i64 0,.bool false,.bool false,.int .i64 0,.int .i64 0,.int .i64 0,.bool false,.bool false,.int .i64 0,.int .i64 0,.int .i64 0,.bool false,.bool false,.int .i64 0,.int .i64 0,.int .i64 0,.bool false,.bool false,.int .i64 0,.int .i64 0,.int .i64 0,.bool false,.bool false,.int .i64 0,.int .i64 0,.int .i64 0,.bool false,.bool false,.int .i64 0,.int .i64 0,.int .i64 0,.bool false,.bool false,.int .i64 0,.int .i64 0,.int .i64 0,.bool false,.bool false,.int .i64 0,.int .i64 0,.int .i64 0,.map (some (w.heap.size+1+1))] 201)).alloc (.cells #[.pointer (some ⟨w.heap.size+1+1+1,0,none⟩)] 202)).alloc (.cells #[.bool false,.bool false,.int .i64 0,.int .i64 0,.int .i64 0,.bool false,.bool false,.int .i64 0,.int .i64 0,.int .i64 0,.bool false,.bool false,.int .i64 0,.int .i64 0,.int .i64 0,.bool false,.bool false,.int .i64 0,.int .i64 0,.int .i64 0,.bool false,.bool false,.int .i64 0,.int .i64 0,.int .i64 0,.bool false,.bool false,.int .i64 0,.int .i64 0,.int .i64 0,.bool false,.bool false,.int .i64 0,.int .i64 0,.int .i64 0,.bool false,.bool false,.int .i64 0,.int .i64 0,.int .i64 0,.bool false,.bool false,.int .i64 0,.int .i64 0,.int .i64 0,.bool false,.bool false,.int .i64 0,.int .i64 0,.int .i64 0] 198))=W∧Ext w W∧W.heap.size=w.heap.size+6∧
  (W.cell? ⟨w.heap.size,0,none⟩=some (.int .i64 la)∧W.cell? ⟨w.heap.size,1,none⟩=some (.int .i64 ow)∧W.cell? ⟨w.heap.size,2,none⟩=some (.slice a1 n1 c1)∧W.cell? ⟨w.heap.size,3,none⟩=some (.slice a2 n2 c2))∧
  W.cell? ⟨w.heap.size+1,0,none⟩=some (.int .i64 p)∧SetAt fdVal (w.heap.size+1+1) (fun _=>False) W∧W.cell? ⟨w.heap.size+1+1+1,54,none⟩=some (.map (some (w.heap.size+1+1)))∧W.cell? ⟨w.heap.size+1+1+1+1,0,none⟩=some (.pointer (some ⟨w.heap.size+1+1+1,0,none⟩))∧RowF (w.heap.size+1+1+1+1+1) (fun _=>Hs.Fd.zero) W:=by
 refine⟨_,_,_,rfl,rfl,rfl,EX,by simp,⟨by simp [go_sem],by simp [go_sem],by simp [go_sem],by simp [go_sem]⟩,by simp [go_sem],?_,by simp [go_sem],by simp [go_sem],?_⟩
 ·exact set_mid (w2:=(w.alloc (.cells #[.int .i64 la,.int .i64 ow,.slice a1 n1 c1,.slice a2 n2 c2] 52)).alloc (.cells #[.int .i64 p] 3)) EX (by simp)
 ·exact rowf_mid (by simp)
def KnQ (b:Bk) (p day:Nat) (w:World) (e:Ending) (w':World):Prop:=∃P M,e= .returned (.pointer (some ⟨P,0,none⟩))∧w'.cell? ⟨P,54,none⟩=some (.map (some M))∧SetAt fdVal M (fun x=>seenF (truthsP b day []) p (truthsP b day []).length x∨(x=Hs.Fd.zero∧sameFds (lastF (truthsP b day []) (truthsP b day []).length) (fun _=>Hs.Fd.zero)=true∧(truthsP b 0 []).isEmpty=false)) w'∧Ext w w'
theorem known_loop (b : Bk) (hb : BkS b) (v : Value) (p day : Nat) (w : World) (hv : BkV w v b) (hp : p < 10) (hd : (day : Int) ≤ b.last) :
    Calls Tryz.prog 117 #[v,.int .i64 p,.int .i64 day] w (KnQ b p day w):=by
  obtain⟨a1,c1,a2,c2,rfl,-⟩:=hv.open;have HGV:=hHd (fun b1 b2 b3=>truthsP_gives b1 b2 b3 a1 c1 a2 c2 b hb day hd (.slice none 0 0) []);have HKT:=hHd (fun b1 b2 b3 W' (x:Ext w W') h=>KTP.of (b1:=b1) (b2:=b2) (b3:=b3) (day:=day) hv (nil_intsP w) x h);have HPO:=hHd (fun W (x:Ext w W)=>possible_p b hb _ (.slice none 0 0) [] W (hv.ext x) (nil_intsP W));clear hv hd;unfold bkV at*;have hmm:= @run_makeMap Tryz.prog;refine(callsIn_wide (n:=0)).1 (callsIn_of_wp_marks Tryz.func117 rfl trivial (wpIn_wide.2 ?_) rfl)
  simp only [Tryz.ntmps117,List.size_toArray,List.length_cons,List.length_nil,Nat.reduceAdd,Nat.reduceSub,Array.replicate_succ,Array.replicate_zero,List.push_toArray,List.append_toArray,List.nil_append,List.cons_append];(go_wp2_with fail);obtain⟨W,zA,zB,hA,hB,hW,X,hz,qb,qp,hset,qm,qw,hrow⟩:=kn_new b.last b.owners a1 b.pars.length c1 a2 b.ents.length c2 p w;rw [hW,←hA,←hB];have hz':w.heap.size+6≤W.heap.size∧W.heap.size≤w.heap.size+6:=by omega
  clear hW hz hA hB hmm;(with_reducible refine(truthsF_p _ _ _ _ _ _ _ _ _ _ _ _ _).mono ?_);rintro e w' ⟨rfl,rfl⟩;(go_wp2_with fail);have X1:Ext W (((W.alloc (.cells #[.int .i64 b.last,.int .i64 b.owners,.slice a1 b.pars.length c1,.slice a2 b.ents.length c2] 52)).alloc (.cells #[.int .i64 day] 3)).alloc (.cells #[.slice none 0 0] 22)):=EX;have HB0:Hid (((((W.alloc (.cells #[.int .i64 b.last,.int .i64 b.owners,.slice a1 b.pars.length c1,.slice a2 b.ents.length c2] 52)).alloc (.cells #[.int .i64 day] 3)).alloc (.cells #[.slice none 0 0] 22)).cell? ⟨W.heap.size,0,none⟩=some (.int .i64 b.last)∧(((W.alloc (.cells #[.int .i64 b.last,.int .i64 b.owners,.slice a1 b.pars.length c1,.slice a2 b.ents.length c2] 52)).alloc (.cells #[.int .i64 day] 3)).alloc (.cells #[.slice none 0 0] 22)).cell? ⟨W.heap.size,1,none⟩=some (.int .i64 b.owners)∧(((W.alloc (.cells #[.int .i64 b.last,.int .i64 b.owners,.slice a1 b.pars.length c1,.slice a2 b.ents.length c2] 52)).alloc (.cells #[.int .i64 day] 3)).alloc (.cells #[.slice none 0 0] 22)).cell? ⟨W.heap.size,2,none⟩=some (.slice a1 b.pars.length c1)∧(((W.alloc (.cells #[.int .i64 b.last,.int .i64 b.owners,.slice a1 b.pars.length c1,.slice a2 b.ents.length c2] 52)).alloc (.cells #[.int .i64 day] 3)).alloc (.cells #[.slice none 0 0] 22)).cell? ⟨W.heap.size,3,none⟩=some (.slice a2 b.ents.length c2))∧(((W.alloc (.cells #[.int .i64 b.last,.int .i64 b.owners,.slice a1 b.pars.length c1,.slice a2 b.ents.length c2] 52)).alloc (.cells #[.int .i64 day] 3)).alloc (.cells #[.slice none 0 0] 22)).cell? ⟨W.heap.size+1,0,none⟩=some (.int .i64 day)∧(((W.alloc (.cells #[.int .i64 b.last,.int .i64 b.owners,.slice a1 b.pars.length c1,.slice a2 b.ents.length c2] 52)).alloc (.cells #[.int .i64 day] 3)).alloc (.cells #[.slice none 0 0] 22)).cell? ⟨W.heap.size+1+1,0,none⟩=some (.slice none 0 0)):=hHd (by and_intros<;>simp [go_sem]);have hzV:(((W.alloc (.cells #[.int .i64 b.last,.int .i64 b.owners,.slice a1 b.pars.length c1,.slice a2 b.ents.length c2] 52)).alloc (.cells #[.int .i64 day] 3)).alloc (.cells #[.slice none 0 0] 22)).heap.size=W.heap.size+3:=by simp
  generalize (((W.alloc (.cells #[.int .i64 b.last,.int .i64 b.owners,.slice a1 b.pars.length c1,.slice a2 b.ents.length c2] 52)).alloc (.cells #[.int .i64 day] 3)).alloc (.cells #[.slice none 0 0] 22))=V at*;have hz0:w.heap.size+9≤V.heap.size∧w.heap.size+6≤W.heap.size∧W.heap.size+3≤V.heap.size:=by omega
  have XV:=X.trans X1
  have HQ:Hid ((V.cell? ⟨w.heap.size,0,none⟩=some (.int .i64 b.last)∧V.cell? ⟨w.heap.size,1,none⟩=some (.int .i64 b.owners)∧V.cell? ⟨w.heap.size,2,none⟩=some (.slice a1 b.pars.length c1)∧V.cell? ⟨w.heap.size,3,none⟩=some (.slice a2 b.ents.length c2))∧V.cell? ⟨w.heap.size+1,0,none⟩=some (.int .i64 p)∧V.cell? ⟨w.heap.size+1+1+1,54,none⟩=some (.map (some (w.heap.size+1+1)))∧V.cell? ⟨w.heap.size+1+1+1+1,0,none⟩=some (.pointer (some ⟨w.heap.size+1+1+1,0,none⟩))):=
    hHd ⟨⟨X1.keep qb.1,X1.keep qb.2.1,X1.keep qb.2.2.1,X1.keep qb.2.2.2⟩,X1.keep qp,X1.keep qm,X1.keep qw⟩
  have HJ0:Hid (KnJ (truthsP b day []) p (w.heap.size+1+1) (w.heap.size+1+1+1+1+1) 0 V V):=hHd ⟨KP.refl _,hrow.kp (p:=fun _=>False) X1.kp id,(hset.of (X1.heap hset.lt)).congr (fun a=>⟨fun h=>h.elim,fun⟨i,hi,_⟩=>by omega⟩)⟩;have HZV:=hHd hzV;clear hzV qb qp hset qm qw hrow X X1;obtain⟨M,hM⟩:∃M,M=w.heap.size+1+1:=⟨_,rfl⟩;obtain⟨L,hL⟩:∃L,L=w.heap.size+1+1+1+1+1:=⟨_,rfl⟩;rw [←hL,←hM] at HJ0;have HM:=hHd hM;have HL:=hHd hL;have hML:M≠L∧w.heap.size≤M∧w.heap.size≤L∧M<V.heap.size∧L<V.heap.size∧M<W.heap.size∧L<W.heap.size∧w.heap.size+1<M∧w.heap.size+1<L:=by omega
  have HXE:Hid (∀W',KP (fun j=>j=M∨j=L) V W'→Ext w W'∧KTP W.heap.size (W.heap.size+1) (W.heap.size+1+1) a1 c1 a2 c2 b day (.slice none 0 0) [] W'):=hHd (fun W' h=>by
    have x:=h.toExt XV (fun k hk=>by rcases hk with rfl|rfl<;>omega);obtain⟨⟨k0,k1,k2,k3⟩,kd,ko⟩:=HB0.out;have ne:∀i,i<3→¬(W.heap.size+i=M∨W.heap.size+i=L):=fun i hi=>by omega
    exact⟨x,HKT.out _ _ _ W' x ⟨⟨h.keep (ne 0 (by omega)) k0,h.keep (ne 0 (by omega)) k1,h.keep (ne 0 (by omega)) k2,h.keep (ne 0 (by omega)) k3⟩,h.keep (ne 1 (by omega)) kd,h.keep (ne 2 (by omega)) ko⟩⟩)
  have HQ2:Hid (∀W',KP (fun j=>j=M∨j=L) V W'→(W'.cell? ⟨w.heap.size,0,none⟩=some (.int .i64 b.last)∧W'.cell? ⟨w.heap.size,1,none⟩=some (.int .i64 b.owners)∧W'.cell? ⟨w.heap.size,2,none⟩=some (.slice a1 b.pars.length c1)∧W'.cell? ⟨w.heap.size,3,none⟩=some (.slice a2 b.ents.length c2))∧W'.cell? ⟨w.heap.size+1,0,none⟩=some (.int .i64 p)∧W'.cell? ⟨w.heap.size+1+1+1,54,none⟩=some (.map (some M))∧W'.cell? ⟨w.heap.size+1+1+1+1,0,none⟩=some (.pointer (some ⟨w.heap.size+1+1+1,0,none⟩))):=hHd (fun W' h=>by
    obtain⟨⟨k0,k1,k2,k3⟩,kp,km,kw⟩:=HQ.out;have km':V.cell? ⟨w.heap.size+1+1+1,54,none⟩=some (.map (some M)):=by rw [HM.out];exact km
    have hh:=HM.out;have hl:=HL.out;exact⟨⟨h.keep (by omega) k0,h.keep (by omega) k1,h.keep (by omega) k2,h.keep (by omega) k3⟩,h.keep (by omega) kp,h.keep (by omega) km',h.keep (by omega) kw⟩)
  clear hM HKT HB0 HQ;obtain⟨ts,hts⟩:∃ts,ts=truthsP b day []:=⟨_,rfl⟩;rw [←hts] at HGV HJ0;have HTQ:=hHd hts;clear hts;rw [←hL];clear hL
  refine each_wpQ (q:=fun _=>False) (I:=fun _=>True) (n:=ts.length) (Arg:=ArgP ts) (K:=KTP W.heap.size (W.heap.size+1) (W.heap.size+1+1) a1 c1 a2 c2 b day (.slice none 0 0) []) (by rfl) fn_truthsP (fun i xs W' h=>by obtain⟨vd,vs,h2,rfl,-⟩:=h;rfl) inv_none (fun _ h=>h.elim)
    (fun k W'=>KnJ ts p M L k V W') (fun _ _=>False) (HGV.out _ _ _) (fun k W' h=>(HXE.out W' h.kp).2)
    (fun k A' B' h hx=>h.belq hx (Nat.le_refl _) hML.2.2.2.1 hML.2.2.2.2.1) (fun cd A' B' h hx=>h) HJ0.out ?hround ?hdone ?hstop
  case hround=>
    intro k hk W1 xs hj harg hrec1 hs
    obtain⟨vd,vs,h2,rfl,-,-⟩:=harg;have HTS:Hid (lastF ts (k+1)=(ts[k]).2):=hHd (lastF_next h2);obtain⟨W3,hst,hrw,x3,z3⟩:=fds_new (ts[k]).2 W1;simp only [Array.zip_eq_zipWith];(gi_wp2_with fail);refine⟨Kept.ext x3,fun W2 hT hrec=> ?_⟩
    have BT:BelQ (fun _=>False) (fun _=>True) V.heap.size W3 W2:=(below_toQ (hT.below (Nat.le_refl _)) inv_none (fun _ h=>h.elim)).mono (by omega);have J2:=(hj.belq (ext_belq x3 (by omega)) (Nat.le_refl _) hML.2.2.2.1 hML.2.2.2.2.1).belq BT (Nat.le_refl _) hML.2.2.2.1 hML.2.2.2.2.1;have hrw2:=hrw.block (hT.block W1.heap.size (by omega));have hz2:V.heap.size≤W1.heap.size∧W1.heap.size<W2.heap.size:=by have:=hT.size;omega
    obtain⟨R,hR⟩:∃R,R=W1.heap.size:=⟨_,rfl⟩;rw [←hR] at hrw2 hz2;have hne:=neq_fds (ts[k]).2 (lastF ts k);have HSE:=hHd (fun x=>seenF_next (p:=p) h2 x);have HSS:=hHd (fun x=>seenF_same (p:=p) h2 x);have HPT:=hHd (fun a h1 h2' h3=>KnJ.put (ts:=ts) (p:=p) (M:=M) (L:=L) (V:=V) (a:=a) h1 h2' h3 h2 hML.1);generalize (ts[k]).2=f at*;generalize sameFds f (lastF ts k)=sm at*;have hl1:=load_fields R f W2 hrw2;have hl2:=load_fields L (lastF ts k) W2 J2.row;rw [←hR];clear hR;obtain⟨⟨-,-,-,-⟩,kp,km,kw⟩:=HQ2.out W2 J2.kp;have HJ2:=hHd J2;clear hj hst hrw x3 z3 hT BT HTS;cases sm with
    | true =>
      have hst7:=store_fields L (lastF ts k) f W2 J2.row;have HS2:=hHd (J2.set.congr (HSS.out rfl));clear kp km kw J2;intro hlr
      gi_wp2_with (first|refine step_loadIn (by rfl) 198 _ rfl _ _ rfl hl1 ?_|refine step_loadIn (by rfl) 198 _ rfl _ _ rfl hl2 ?_|refine step_storeIn (by rfl) 198 _ _ rfl _ _ _ rfl rfl hst7 ?_)
      exact⟨⟨by rw [size_setCells];exact Nat.le_refl _,fun q hq1 hq2=>setCells_block _ _ _ _ (by omega)⟩,HPT.out _ HJ2.out.kp HJ2.out.row HS2.out⟩
    | false =>
      obtain⟨o,hput,hset⟩:=SetAt.put kFd (fun a=>⟨_,rfl⟩) Tryz.underlying199 (J2.set.of (w':=W2.drew) rfl) (f p) (.bool true);have HS2:=hHd (hset.congr (HSE.out rfl));have f0:=hrw2.c (p*5) (.bool (f p).there) ((fdsL_at f hp (j:=0) (by decide)).trans rfl);have f1:=hrw2.c (p*5+1) (.bool (f p).gone) ((fdsL_at f hp (j:=1) (by decide)).trans rfl);have f2:=hrw2.c (p*5+2) (.int .i64 (f p).owner) ((fdsL_at f hp (j:=2) (by decide)).trans rfl);have f3:=hrw2.c (p*5+3) (.int .i64 (f p).value) ((fdsL_at f hp (j:=3) (by decide)).trans rfl);have f4:=hrw2.c (p*5+4) (.int .i64 (f p).sown) ((fdsL_at f hp (j:=4) (by decide)).trans rfl);simp only [Nat.zero_add] at f0 f1 f2 f3 f4
      have HSX:Hid (∀w',KP (fun j=>j=M) W2 w'→((w'.cell? ⟨R,p*5,none⟩=some (.bool (f p).there)∧w'.cell? ⟨R,p*5+1,none⟩=some (.bool (f p).gone)∧w'.cell? ⟨R,p*5+2,none⟩=some (.int .i64 (f p).owner)∧w'.cell? ⟨R,p*5+3,none⟩=some (.int .i64 (f p).value)∧w'.cell? ⟨R,p*5+4,none⟩=some (.int .i64 (f p).sown))∧w'.cell? ⟨w.heap.size+1,0,none⟩=some (.int .i64 p)∧w'.cell? ⟨w.heap.size+1+1+1,54,none⟩=some (.map (some M))∧w'.cell? ⟨w.heap.size+1+1+1+1,0,none⟩=some (.pointer (some ⟨w.heap.size+1+1+1,0,none⟩)))):=hHd (fun w' h=>by
        have hM:=HM.out;exact⟨⟨h.keep (by omega) f0,h.keep (by omega) f1,h.keep (by omega) f2,h.keep (by omega) f3,h.keep (by omega) f4⟩,h.keep (by omega) kp,h.keep (by omega) km,h.keep (by omega) kw⟩)
      have hp0:(0:Int)≤(p:Int):=by omega
      have hp1:(p:Int)<10:=by omega
      have HRW:=hHd hrw2;clear kp km kw J2 f0 f1 f2 f3 f4 hrw2 hset;intro hlr
      gi_wp2_with (first|refine step_loadIn (by rfl) 198 _ rfl _ _ rfl hl1 ?_|refine step_loadIn (by rfl) 198 _ rfl _ _ rfl hl2 ?_)
      clear hl1 hl2;refine wpIn_round_held (S:=(fun w'=>(w'.cell? ⟨R,p*5,none⟩=some (.bool (f p).there)∧w'.cell? ⟨R,p*5+1,none⟩=some (.bool (f p).gone)∧w'.cell? ⟨R,p*5+2,none⟩=some (.int .i64 (f p).owner)∧w'.cell? ⟨R,p*5+3,none⟩=some (.int .i64 (f p).value)∧w'.cell? ⟨R,p*5+4,none⟩=some (.int .i64 (f p).sown))∧w'.cell? ⟨w.heap.size+1,0,none⟩=some (.int .i64 p)∧w'.cell? ⟨w.heap.size+1+1+1,54,none⟩=some (.map (some M))∧w'.cell? ⟨w.heap.size+1+1+1+1,0,none⟩=some (.pointer (some ⟨w.heap.size+1+1+1,0,none⟩)))) (by kernel_rfl) (by kernel_rfl) ?_ (fun hHeld=> ?_)
      focus ((try dsimp only);(exact HSX.out _ (by first|exact(KP.refl _).drew|exact KP.putObj (KP.drew (KP.refl _)) (by exact rfl) _)))
      repeat' (first
        |((first|refine tk 0 (v:= ?_) (hi:=rfl) (hy:=Or.inl ⟨by rfl,?_⟩) (h:= ?_)|refine tk 1 (v:= ?_) (hi:=rfl) (hy:=Or.inl ⟨by rfl,?_⟩) (h:= ?_)|refine tk 2 (v:= ?_) (hi:=rfl) (hy:=Or.inl ⟨by rfl,?_⟩) (h:= ?_)|refine tk 3 (v:= ?_) (hi:=rfl) (hy:=Or.inl ⟨by rfl,?_⟩) (h:= ?_)|refine tk 4 (v:= ?_) (hi:=rfl) (hy:=Or.inl ⟨by rfl,?_⟩) (h:= ?_)|refine tk 5 (v:= ?_) (hi:=rfl) (hy:=Or.inl ⟨by rfl,?_⟩) (h:= ?_)|refine tk 6 (v:= ?_) (hi:=rfl) (hy:=Or.inl ⟨by rfl,?_⟩) (h:= ?_));rotate_left;(focus (intro w hSw;(try dsimp only at hSw);go_simp;try (first|(with_reducible rfl)|(with_reducible exact rfl))));(try simp only [Act.put,List.getElem_toArray,List.getElem_cons_succ,List.getElem_cons_zero,List.setIfInBounds_toArray,List.set_cons_zero,List.set_cons_succ]))
        |((first|refine rdy [7] ?_);(repeat (refine AllReadyH.cons rfl (fun K hK=> ?_) ?_;(focus ((first|(go_simp)|go_simp);refine hK.out _ _ ?_ (fun hNew=> ?_);(focus ((try dsimp only);(exact HSX.out _ (by first|exact(KP.refl _).drew|exact KP.putObj (KP.drew (KP.refl _)) (by exact rfl) _))));clear hK K hHeld;have hHeld:=hNew;clear hNew;(try simp only [Act.put,List.getElem_toArray,List.getElem_cons_succ,List.getElem_cons_zero,List.setIfInBounds_toArray,List.set_cons_zero,List.set_cons_succ])));rotate_left));exact AllReadyH.nil)
        |(refine wpAnyH_done (by decide+kernel) (noOut_n ?_) _)
        |fail)
      have hrw4:=HRW.out.block (W:=W2.drew.putObj M o) (World.putObj_heap_other (by omega));have row4:=HJ2.out.row.block (W:=W2.drew.putObj M o) (World.putObj_heap_other (by omega));have kp4:KP (fun j=>j=M∨j=L) V (W2.drew.putObj M o):=(HJ2.out.kp.drew).putObj (.inl rfl) o;have HK4:Hid (Kept V.heap.size W2 (W2.drew.putObj M o)):=hHd ⟨by simp,fun q hq1 hq2=>World.putObj_heap_other (w:=W2.drew) (by omega)⟩;generalize W2.drew.putObj M o=W4 at*;have hl1:=load_fields R f W4 hrw4;have hst7:=store_fields L (lastF ts k) f W4 row4;have HR4:=hHd row4;have HP4:=hHd kp4;clear hput hrw4 row4 kp4;gi_wp2_with (first|refine step_loadIn (by rfl) 198 _ rfl _ _ rfl hl1 ?_|refine step_storeIn (by rfl) 198 _ _ rfl _ _ _ rfl rfl hst7 ?_)
      exact⟨HK4.out.trans ⟨by rw [size_setCells];exact Nat.le_refl _,fun q hq1 hq2=>setCells_block _ _ _ _ (by omega)⟩,HPT.out _ HP4.out HR4.out HS2.out⟩
  case hdone=>
    rintro W' J hd;have X:=(HXE.out W' J.kp).1;obtain⟨⟨q0,q1,q2,q3⟩,qp,qm,qw⟩:=HQ2.out W' J.kp;have hl2:=load_fields L (lastF ts ts.length) W' J.row;have heq:∀w,(binOp .eql 198 (.agg (fdsL (lastF ts ts.length)).toArray) (.agg #[.bool false,.bool false,.int .i64 0,.int .i64 0,.int .i64 0,.bool false,.bool false,.int .i64 0,.int .i64 0,.int .i64 0,.bool false,.bool false,.int .i64 0,.int .i64 0,.int .i64 0,.bool false,.bool false,.int .i64 0,.int .i64 0,.int .i64 0,.bool false,.bool false,.int .i64 0,.int .i64 0,.int .i64 0,.bool false,.bool false,.int .i64 0,.int .i64 0,.int .i64 0,.bool false,.bool false,.int .i64 0,.int .i64 0,.int .i64 0,.bool false,.bool false,.int .i64 0,.int .i64 0,.int .i64 0,.bool false,.bool false,.int .i64 0,.int .i64 0,.int .i64 0,.bool false,.bool false,.int .i64 0,.int .i64 0,.int .i64 0])).run Tryz.prog w= .ok (.bool (sameFds (lastF ts ts.length) (fun _=>Hs.Fd.zero))) w:=fun w=>eql_fds _ (fun _=>Hs.Fd.zero) w
    have HSET:=hHd J.set;have hMV:M<V.heap.size∧V.heap.size≤W'.heap.size:=⟨hML.2.2.2.1,J.kp.size⟩;obtain⟨sm,hsm⟩:∃sm,sm=sameFds (lastF ts ts.length) (fun _=>Hs.Fd.zero):=⟨_,rfl⟩;obtain⟨pb,hpb⟩:∃pb,pb= !(truthsP b 0 []).isEmpty:=⟨_,rfl⟩;rw [←hsm] at heq;rw [←hpb] at HPO;have HPB:=hHd hpb;have HSM:=hHd hsm;clear hsm hpb J HGV HXE HQ2 HJ0;cases sm with
    | true =>
      go_wp2_with (refine step_load rfl 198 _ rfl _ _ rfl hl2 ?_)
      (with_reducible refine(HPO.out W' X).mono ?_);rintro e w5 ⟨rfl,hx5⟩;have X5:=X.trans hx5;have hd5:=(hx5.heap (Array.getElem?_eq_some_iff.1 hd).1).trans hd;replace qm:=hx5.keep qm;replace qw:=hx5.keep qw;have hset5:=HSET.out.of (hx5.heap HSET.out.lt);have hMV:M<V.heap.size∧V.heap.size≤w5.heap.size:=⟨hMV.1,Nat.le_trans hMV.2 hx5.size⟩;clear q0 q1 q2 q3 qp hd HPO hl2 heq X HSET hx5;cases pb with
      | true =>
        obtain⟨o,hput,hst⟩:=SetAt.put kFd (fun a=>⟨_,rfl⟩) Tryz.underlying199 hset5 Hs.Fd.zero (.bool true);replace hput:(Instr.mapUpdate 199 (.map (some M)) (.agg #[.bool false,.bool false,.int .i64 0,.int .i64 0,.int .i64 0]) (.bool true)).run Tryz.prog w5= .ok () (w5.putObj M o):=hput;have hm2:(w5.putObj M o).cell? ⟨w.heap.size+1+1+1,54,none⟩=some (.map (some M)):=by rw [World.cell?_of_block (w:=w5) (World.putObj_heap_other (by have:=HM.out;show w.heap.size+1+1+1≠M;omega))];exact qm
        have hw2:(w5.putObj M o).cell? ⟨w.heap.size+1+1+1+1,0,none⟩=some (.pointer (some ⟨w.heap.size+1+1+1,0,none⟩)):=by rw [World.cell?_of_block (w:=w5) (World.putObj_heap_other (by have:=HM.out;show w.heap.size+1+1+1+1≠M;omega))];exact qw
        have hd2:(w5.putObj M o).heap[V.heap.size]?=some (.deferred (some [])):=(World.putObj_heap_other (by omega)).trans hd5;have X6:Ext w (w5.putObj M o):=((KP.refl (p:=fun j=>j=M) w5).putObj (by exact rfl) o).toExt X5 (fun k hk=>by subst hk;omega);have HS6:=hHd hst;have HX6:=hHd X6;clear hset5 hst X6 hd5;(go_wp2_with fail);have qm:=hm2;have hMV:M<V.heap.size∧V.heap.size≤(w5.putObj M o).heap.size:=⟨hMV.1,by simpa using hMV.2⟩;refine⟨by simp,.inl ⟨_,_,rfl,run_takeDeferred hd2,?_⟩⟩
        have BT:BelQ (fun _=>False) (fun _=>True) V.heap.size (w5.putObj M o) ((w5.putObj M o).putObj V.heap.size (.deferred none)):=below_toQ ((Turned.put (w5.putObj M o) V.heap.size (.deferred none)).below (Nat.le_refl _)) inv_none (fun _ h=>h.elim);exact⟨.pointer (some ⟨w.heap.size+1+1+1,0,none⟩),by simp [results,Tryz.results117,go_sem],_,M,rfl,BT.cell id (by have:=lt_of_cell qm;omega) qm,((HS6.out).congr (fun x=>by rw [←HTQ.out];exact or_congr Iff.rfl ⟨fun h=>⟨h,HSM.out.symm,by have:=HPB.out;simpa using this⟩,fun h=>h.1⟩)).of (BT.block M hMV.1 id),BT.extF HX6.out (by omega)⟩
      | false =>
        have HS6:=hHd hset5;have HX6:=hHd X5;clear hset5;(go_wp2_with fail);refine⟨by simp,.inl ⟨_,_,rfl,run_takeDeferred hd5,?_⟩⟩
        have BT:BelQ (fun _=>False) (fun _=>True) V.heap.size w5 (w5.putObj V.heap.size (.deferred none)):=below_toQ ((Turned.put w5 V.heap.size (.deferred none)).below (Nat.le_refl _)) inv_none (fun _ h=>h.elim);exact⟨.pointer (some ⟨w.heap.size+1+1+1,0,none⟩),by simp [results,Tryz.results117,go_sem],_,M,rfl,BT.cell id (by have:=lt_of_cell qm;omega) qm,((HS6.out).congr (fun x=>by rw [←HTQ.out];exact⟨.inl,fun h=>h.elim id (fun h=>by have:=HPB.out;simp [h.2.2] at this)⟩)).of (BT.block M hMV.1 id),BT.extF HX6.out (by omega)⟩
    | false =>
      have HX6:=hHd X;clear q0 q1 q2 q3 qp HPO;go_wp2_with (refine step_load rfl 198 _ rfl _ _ rfl hl2 ?_)
      refine⟨by simp,.inl ⟨_,_,rfl,run_takeDeferred hd,?_⟩⟩
      have BT:BelQ (fun _=>False) (fun _=>True) V.heap.size W' (W'.putObj V.heap.size (.deferred none)):=below_toQ ((Turned.put W' V.heap.size (.deferred none)).below (Nat.le_refl _)) inv_none (fun _ h=>h.elim);exact⟨.pointer (some ⟨w.heap.size+1+1+1,0,none⟩),by simp [results,Tryz.results117,go_sem],_,M,rfl,BT.cell id (by have:=lt_of_cell qm;omega) qm,((HSET.out).congr (fun x=>by rw [←HTQ.out];exact⟨.inl,fun h=>h.elim id (fun h=>by have:=HSM.out;rw [h.2.1] at this;cases this)⟩)).of (BT.block M hMV.1 id),BT.extF HX6.out (by omega)⟩
  case hstop=>
    rintro cd W3 h;exact h.elim
end Go.Proofs.YtegkdnfeceomdaaGreat
namespace Go.Hs
open Go.RowKit
theorem happen_there {b:Bk} {i:Nat} {day:Int} {f g:Fds} (h:happenS b i day f=some g) {j:Nat} (hj:(f j).there=true):(g j).there=true:=by
 unfold happenS at h;simp only at h
 have up:∀ {f:Fds} {p:Nat} {x:Fd},(f j).there=true→(p=j→x.there=true)→(upd f p x j).there=true:=by
  intro f p x h1 h2
  unfold upd;by_cases e:j=p
  ·rw [if_pos e];exact h2 e.symm
  ·rw [if_neg e];exact h1
 split at h
 ·rename_i hu
  have ht:(f (b.ents.getD i default).parcel.toNat).there=true:=by unfold Fd.up at hu;simp only [Bool.and_eq_true] at hu;exact hu.1
  split at h
  ·split at h
   ·cases h;exact up hj (fun _=>ht)
   ·cases h
  ·split at h
   ·split at h
    ·cases h;exact up (up hj (fun _=>ht)) (fun _=>rfl)
    ·cases h
   ·split at h
    ·split at h
     ·rename_i hq
      have hq2:(f (b.ents.getD i default).other.toNat).there=true:=by unfold Fd.up at hq;simp only [Bool.and_eq_true] at hq;exact hq.1.1
      cases h;exact up (up hj (fun _=>ht)) (fun _=>hq2)
     ·cases h
    ·split at h
     ·split at h
      ·cases h;exact up hj (fun _=>ht)
      ·cases h
     ·cases h
 ·cases h
theorem happen_zero {b:Bk} {i:Nat} {day:Int} :happenS b i day (fun _=>Fd.zero)=none:=by
 unfold happenS;simp [Fd.up,Fd.zero]
theorem dayS_there {b:Bk} {days:List Int} {out:Nat→Bool} {d:Nat} :∀(n:Nat) {f g:Fds},dayS b days out d n f=some g→∀j,(f j).there=true→(g j).there=true
  |0,f,g,h,j,hj=>by cases h;exact hj
  | n + 1, f, g, h, j, hj => by
    rw [dayS_next] at h;cases hm:dayS b days out d n f with
    |none=>rw [hm] at h;cases h
    | some m =>
      have ih:=dayS_there n hm j hj;rw [hm] at h;simp only [stepS,Option.bind_some] at h;split at h
      · exact happen_there h ih
      · cases h;exact ih
theorem stateS_there {b:Bk} {days sown:List Int} {out:Nat→Bool} :∀(d:Nat) {f:Fds},stateS b days sown out d=some f→∀j,j<b.pars.length→(f j).there=true
  |0,f,h,j,hj=>by cases h;simp [beginS,hj]
  | d + 1, f, h, j, hj => by
    cases hm:stateS b days sown out d with
    |none=>rw [stateS,hm] at h;cases h
    |some m=>rw [stateS,hm] at h;exact dayS_there _ h j (stateS_there d hm j hj)
theorem dayS_zero {b:Bk} {days:List Int} {out:Nat→Bool} {d:Nat} :∀(n:Nat) {g:Fds},dayS b days out d n (fun _=>Fd.zero)=some g→g=fun _=>Fd.zero
  |0,g,h=>by cases h;rfl
  | n + 1, g, h => by
    rw [dayS_next] at h;cases hm:dayS b days out d n (fun _=>Fd.zero) with
    |none=>rw [hm] at h;cases h
    | some m =>
      obtain rfl:=dayS_zero n hm;rw [hm] at h;simp only [stepS,Option.bind_some] at h;split at h
      · rw [happen_zero] at h;cases h
      · cases h;rfl
theorem stateS_zero {b:Bk} (hb:b.pars.length=0) {days sown:List Int} {out:Nat→Bool} :∀(d:Nat) {f:Fds},stateS b days sown out d=some f→f=fun _=>Fd.zero
  |0,f,h=>by cases h;funext j;simp [beginS,hb]
  | d + 1, f, h => by
    cases hm:stateS b days sown out d with
    |none=>rw [stateS,hm] at h;cases h
    |some m=>rw [stateS,hm] at h;obtain rfl:=stateS_zero hb d hm;exact dayS_zero _ h
theorem playB_state {b:Bk} {days sown:List Int} {day:Nat} {out:Nat→Bool} {f:Fds} (h:playB b days sown day out=some f):stateS b days sown out (day+1)=some f:=by
 unfold playB at h;cases hm:stateS b days sown out (b.last.toNat+1) with
 |none=>rw [hm] at h;cases h
 |some m=>rw [hm] at h;exact h
theorem playB_day {b:Bk} {days sown:List Int} {day:Nat} {out:Nat→Bool} (hd:day≤b.last.toNat):(playB b days sown day out).isSome=(stateS b days sown out (b.last.toNat+1)).isSome:=by
  unfold playB;cases hm:stateS b days sown out (b.last.toNat+1) with
  |none=>rfl
  | some m =>
    simp only [Option.bind_some,Option.isSome_some];cases hs:stateS b days sown out (day+1) with
    |some g=>rfl
    | none =>
      have:=stateS_none hs (b.last.toNat - day);rw [show day+1+(b.last.toNat - day)=b.last.toNat+1 by omega,hm] at this;cases this
theorem mem_truthsP {b:Bk} {day:Nat} {out:List Int} {x:PTr×Fds} :x∈truthsP b day out↔∃l∈allL (rngsB b),x.1=truP b l∧playB b x.1.days x.1.sown day (outF out)=some x.2:=by
 unfold truthsP;rw [List.mem_filterMap];constructor
 ·rintro ⟨l,hl,h⟩;unfold tryP at h;rw [Option.map_eq_some_iff] at h;obtain⟨f,hf,rfl⟩:=h;exact⟨l,hl,rfl,hf⟩
 ·rintro ⟨l, hl, h1, h2⟩; refine ⟨l, hl, ?_⟩
  unfold tryP;rw [Option.map_eq_some_iff];rw [h1] at h2;exact⟨x.2,h2,by rw [←h1]⟩
theorem truthsP_empty {b:Bk} {day day':Nat} {out:List Int} (h1:day≤b.last.toNat) (h2:day'≤b.last.toNat):(truthsP b day out).isEmpty=(truthsP b day' out).isEmpty:=by
 have key:∀ {d d':Nat},d≤b.last.toNat→d'≤b.last.toNat→(truthsP b d out).isEmpty=true→(truthsP b d' out).isEmpty=true:=by
  intro d d' k1 k2 h
  rw [List.isEmpty_iff] at h⊢;refine List.eq_nil_iff_forall_not_mem.2 (fun x hx=> ?_)
  obtain⟨l,hl,e1,e2⟩:=mem_truthsP.1 hx;have h3:(playB b x.1.days x.1.sown d (outF out)).isSome=true:=by rw [playB_day k1,←playB_day k2,e2];rfl
  obtain⟨f,hf⟩:=Option.isSome_iff_exists.1 h3;have:(x.1,f)∈truthsP b d out:=mem_truthsP.2 ⟨l,hl,e1,hf⟩;rw [h] at this;cases this
 exact Bool.eq_iff_iff.2 ⟨key h1 h2,key h2 h1⟩
theorem sameFds_refl (f:Fds):sameFds f f=true:=List.all_eq_true.2 (fun i _=>by simp)
theorem known_all {b : Bk} (hb : BkS b) {day p : Nat} (hd : day ≤ b.last.toNat) (hp : p < 10) (x : Fd) :
    (seenF (truthsP b day []) p (truthsP b day []).length x∨(x=Fd.zero∧sameFds (lastF (truthsP b day []) (truthsP b day []).length) (fun _=>Fd.zero)=true∧(truthsP b 0 []).isEmpty=false))↔∃t∈truthsP b day [],t.2 p=x:=by
  rw [truthsP_empty (day:=0) (day':=day) (Nat.zero_le _) hd]
  have hst:∀t∈truthsP b day [],∃days sown,stateS b days sown (outF []) (day+1)=some t.2:=fun t ht=>by
    obtain⟨l,-,-,h⟩:=mem_truthsP.1 ht;exact⟨_,_,playB_state h⟩
  generalize truthsP b day []=ts at*;constructor
  · rintro (⟨i, hi, h, rfl, -⟩ | ⟨rfl, h1, h2⟩)
    · exact⟨ts[i],List.getElem_mem h,rfl⟩
    · have hn : 0 < ts.length := by
        cases ts with
        |nil=>simp at h2
        |cons a l=>simp
      have e:lastF ts ts.length=(ts[ts.length - 1]).2:=by
        unfold lastF;rw [if_neg (by omega)];simp [show ts.length - 1<ts.length by omega]
      rw [e] at h1;exact⟨ts[ts.length - 1],List.getElem_mem _,sameFds_at h1 hp⟩
  · rintro ⟨t, ht, rfl⟩; obtain ⟨i, hi, rfl⟩ := List.getElem_of_mem ht; clear ht; by_cases h0 : b.pars.length = 0
    · refine .inr ?_
      have hz:∀t∈ts,t.2=fun _=>Fd.zero:=fun t ht=>by
        obtain⟨_,_,h⟩:=hst t ht;exact stateS_zero h0 _ h
      refine⟨by rw [hz _ (List.getElem_mem hi)],?_,?_⟩
      · have e : lastF ts ts.length = fun _ => Fd.zero := by
          unfold lastF;rw [if_neg (by omega)];have:ts.getD (ts.length - 1) (⟨[],[]⟩,fun _=>Fd.zero)=ts[ts.length - 1]:=by simp [show ts.length - 1<ts.length by omega]
          rw [this];exact hz _ (List.getElem_mem _)
        rw [e];exact sameFds_refl _
      · cases ts with
        |nil=>simp at hi
        |cons a l=>rfl
    · refine .inl ?_
      have key:∀i (hi:i<ts.length),∃j,j≤i∧∃h:j<ts.length,(ts[j]).2 p=(ts[i]).2 p∧sameFds (ts[j]).2 (lastF ts j)=false:=by
        intro i
        induction i with
        | zero =>
          intro hi
          refine⟨0,Nat.le_refl _,hi,rfl,?_⟩
          cases hs:sameFds (ts[0]).2 (lastF ts 0) with
          |false=>rfl
          | true =>
            have h1:=sameFds_at hs (p:=0) (by omega);obtain⟨_,_,h⟩:=hst _ (List.getElem_mem hi);have h2:=stateS_there _ h 0 (by omega);rw [h1] at h2;simp [lastF,Fd.zero] at h2
        | succ i ih =>
          intro hi
          cases hs:sameFds (ts[i+1]).2 (lastF ts (i+1)) with
          |false=>exact⟨i+1,Nat.le_refl _,hi,rfl,hs⟩
          | true =>
            rw [lastF_next (by omega)] at hs;obtain⟨j,hj,h,e,k⟩:=ih (by omega);exact⟨j,by omega,h,e.trans (sameFds_at hs hp).symm,k⟩
      obtain⟨j,hj,h,e,k⟩:=key i hi;exact⟨j,by omega,h,e,k⟩
def covE (b:Bk) (p day:Int):Int×Int:=
 if askPB b p day≠0 then (0,askPB b p day)
 else if (truthsP b day.toNat []).any (fun t=>(t.2 p.toNat).covers day) then (if (truthsP b day.toNat []).any (fun t=> !(t.2 p.toNat).covers day) then (3,0) else (1,0))
 else if (truthsP b day.toNat []).any (fun t=> !(t.2 p.toNat).covers day) then (2,0) else (0,9)
def wayP (b:Bk) (p day:Int) (x:Fd):Prop:=∃t∈truthsP b day.toNat [],t.2 p.toNat=x
theorem iter_sub {α:Type} {enc:α→Value} {r bm:Nat} {S D:α→Prop} {w:World} (h:IterAt enc r bm S D w):∀a,D a→S a:=let ⟨_,_,_,_,_,_,_,_,_,_,_,_,_,k⟩:=h;k
theorem askPB_zero {b:Bk} {p day:Int} (h:askPB b p day=0):bookE b=0∧(0≤p∧p<numsB b)∧0≤day∧day≤b.last:=by
 unfold askPB at h;split at h
 ·exact absurd h ‹_›
 ·rename_i h0
  split at h
  ·rename_i h1
   rw [Bool.and_eq_true] at h1;have h2:=h1.1;unfold numberB at h2;rw [inR_iff] at h2;exact⟨by omega,by omega,dayB_iff.1 h1.2⟩
  ·cases h
end Go.Hs
namespace Go.Proofs.YtegkdnfeceomdaaGreat
open Go.RowKit Go.Hs
attribute [local irreducible] World.setCell World.alloc
structure CovIp (r M:Nat) (S:Hs.Fd→Prop) (day:Int) (w:World) (yes no:Bool) (D:Hs.Fd→Prop) (wr:World):Prop where
 it:IterAt fdVal r M S D wr
 ext:Ext w wr
 yes:yes=true↔∃x,D x∧x.covers day=true
 no:no=true↔∃x,D x∧x.covers day=false
theorem Covered_p (b:Bk) (v:Value) (p day:Int) (w:World) (hv:BkV w v b):
  Calls Tryz.prog 61 #[v,.int .i64 p,.int .i64 day] w fun e w'=>e= .returned (.tuple #[.int .i64 (covE b p day).1,.int .i64 (covE b p day).2])∧Ext w w':=by
 have HAS:=hHd (fun W (hx:Ext w W)=>asked_p b v p day W (hv.ext hx))
 have HKN:Hid (askPB b p day=0→∀W,Ext w W→Calls Tryz.prog 117 #[v,.int .i64 p,.int .i64 day] W fun e w'=>∃P M,e= .returned (.pointer (some ⟨P,0,none⟩))∧w'.cell? ⟨P,54,none⟩=some (.map (some M))∧SetAt fdVal M (wayP b p day) w'∧Ext W w'):=hHd (fun h0 W hx=>by
  obtain⟨hb,hp,hd⟩:=askPB_zero h0;have hbs:=bks_of hb;have hn:=nums_ten hbs b.ents.length;have hp10:p.toNat<10:=by have:numsB b≤10:=hn;omega
  have hl:=known_loop b hbs v p.toNat day.toNat W (hv.ext hx) hp10 (by omega);rw [show (p.toNat:Int)=p by omega,show (day.toNat:Int)=day by omega] at hl;refine hl.mono ?_
  rintro e w' ⟨P,M,rfl,h1,h2,h3⟩;exact⟨P,M,rfl,h1,h2.congr (fun x=>known_all hbs (by have:=hbs.last;omega) hp10 x),h3⟩)
 have HCV:=hHd (fun x W=>covered_p x day W);obtain⟨rr,hrr⟩:∃rr,rr=covE b p day:=⟨_,rfl⟩;rw [←hrr];have HR:Hid (rr=covE b p day):=hHd hrr;have HE1:Hid (askPB b p day≠0→covE b p day=(0,askPB b p day)):=hHd (fun h=>by unfold covE;rw [if_pos h])
 have HE2:Hid (askPB b p day=0→∀yes no:Bool,(yes=true↔∃x,wayP b p day x∧x.covers day=true)→(no=true↔∃x,wayP b p day x∧x.covers day=false)→covE b p day=if yes then (if no then (3,0) else (1,0)) else if no then (2,0) else (0,9)):=hHd (fun h0 yes no h1 h2=>by
  unfold covE;rw [if_neg (fun h=>h h0)]
  have e1:(truthsP b day.toNat []).any (fun t=>(t.2 p.toNat).covers day)=yes:=by
   rw [Bool.eq_iff_iff,h1,List.any_eq_true];exact⟨fun⟨t,ht,h⟩=>⟨_,⟨t,ht,rfl⟩,h⟩,fun⟨x,⟨t,ht,e⟩,h⟩=>⟨t,ht,by rw [e];exact h⟩⟩
  have e2:(truthsP b day.toNat []).any (fun t=> !(t.2 p.toNat).covers day)=no:=by
   rw [Bool.eq_iff_iff,h2,List.any_eq_true];exact⟨fun⟨t,ht,h⟩=>⟨_,⟨t,ht,rfl⟩,by simpa using h⟩,fun⟨x,⟨t,ht,e⟩,h⟩=>⟨t,ht,by rw [e,h];rfl⟩⟩
  rw [e1,e2])
 clear hrr;obtain⟨a1,c1,a2,c2,rfl,-⟩:=hv.open;clear hv;unfold bkV at*;generalize covE b p day=cv at*;generalize wayP b p day=S at*;generalize askPB b p day=ab at*;generalize b.pars.length=n1 at*;generalize b.ents.length=n2 at*;generalize b.last=last at*;generalize b.owners=owners at*;go_enter Tryz.func61,Tryz.ntmps61
 (go_wp2_with fail);obtain⟨W,hW⟩:∃W,W=(w.alloc (.cells #[.int .i64 last,.int .i64 owners,.slice a1 n1 c1,.slice a2 n2 c2] 52)):=⟨_,rfl⟩;have X:Ext w W:=by subst hW;exact EX
 have HS:Hid (∀w',Ext W w'→(w'.cell? ⟨w.heap.size,0,none⟩=some (.int .i64 last)∧w'.cell? ⟨w.heap.size,1,none⟩=some (.int .i64 owners)∧w'.cell? ⟨w.heap.size,2,none⟩=some (.slice a1 n1 c1)∧w'.cell? ⟨w.heap.size,3,none⟩=some (.slice a2 n2 c2))∧Ext W w'):=hHd (fun w' hx=>⟨by subst hW;and_intros<;>exact hx.keep (by simp [go_sem]),hx⟩);have HSf:Hid (∀w',Ext W w'→∀o,w'.frozen? ⟨w.heap.size,o,none⟩=false):=hHd (fun w' hx o=>(hx.frozen (by subst hW;simp)).trans (by subst hW;simp [go_sem]));have HSz:w.heap.size+1≤W.heap.size:=by subst hW;simp
 rw [←hW];clear hW;obtain⟨⟨q0,q1,q2,q3⟩,-⟩:=HS.out W (Ext.refl _);(with_reducible refine(HAS.out _ X).mono ?_);rintro e w1 ⟨rfl,hx1⟩;obtain⟨⟨q0,q1,q2,q3⟩,-⟩:=HS.out w1 hx1;have X1:=X.trans hx1;by_cases h0:ab=0
 ·subst h0; have HE3 := hHd (HE2.out rfl); have HKN2 := hHd (HKN.out rfl); clear HE1 HE2 HKN HAS; (go_wp2_with fail); (with_reducible refine (HKN2.out _ X1).mono ?_); rintro e w2 ⟨P, M, rfl, hc54, hset, hx2⟩; obtain ⟨oi, hrun, hit⟩ := hset.iter Tryz.underlying199; have X2 := X1.trans hx2; have H0 : Hid (CovIp w2.heap.size M S day w false false (fun _ => False) (w2.alloc oi)) := hHd ⟨hit, X2.alloc oi, by simp, by simp⟩; have hrw : w.heap.size ≤ w2.heap.size := X2.size; clear hset hx2 hit HS HSf HSz q0 q1 q2 q3 X X1 X2 hx1 HKN2; (go_wp2_with fail); generalize w2.heap.size = r at *; go_loopw [9, 10] (fun s9 s10 wr => ∃ (yes no : Bool) (D : Hs.Fd → Prop), s9 = .bool yes ∧ s10 = .bool no ∧ Hid (CovIp r M S day w yes no D wr)) (fun _ _ wr => leftN r M wr)
  case atStart=>exact⟨false,false,_,rfl,rfl,H0⟩
  case round=>
   clear H0 hrun;obtain⟨yes,no,D,rfl,rfl,HI⟩:=hrel;obtain⟨wo,rfl⟩:∃x,x=wr:=⟨_,rfl⟩;rcases HI.out.it.next (P:=Tryz.prog) fdVal_inj 0 with ⟨hall,hrun⟩|⟨x,vv,oo,w1',hw1,hs,hrun,hit,hltn,hent⟩
   ·have HF : Hid (rr = if yes then (if no then (3, 0) else (1, 0)) else if no then (2, 0) else (0, 9)) := hHd (by
     rw [HR.out];have hD:∀x,D x↔S x:=fun x=>⟨iter_sub HI.out.it x,hall x⟩
     refine HE3.out yes no ?_ ?_
     ·rw [HI.out.yes];exact exists_congr (fun x=>by rw [hD x])
     ·rw [HI.out.no];exact exists_congr (fun x=>by rw [hD x]))
    have HX:=hHd HI.out.ext;clear hall HI;cases yes<;>cases no
    all_goals
     (go_wp2_with fail);go_ret2;exact⟨by rw [HF.out];rfl,HX.out⟩
   ·have X6 : Ext w (w1'.putObj r oo) := by
     have k:KP (fun j=>j=r) wo w1':=by
      rcases hw1 with rfl|rfl
      ·exact KP.refl _
      ·exact(KP.refl _).drew
     exact(KP.putObj k (by exact rfl) oo).toExt HI.out.ext (fun k hk=>by subst hk;exact hrw)
    have HY:=hHd HI.out.yes;have HN:=hHd HI.out.no;have HIT:=hHd hit;have HLT:=hHd hltn;have HX6:=hHd X6;generalize w1'.putObj r oo=W6 at*;clear hit hltn hw1 HI X6 hs;unfold fdVal at hrun hent;(go_wp2_with fail);(with_reducible refine(HCV.out x _).mono ?_);rintro e w8 ⟨rfl,hx8⟩;have Y8:Ext W6 w8:=EX;have hlt:=HIT.out.lt;have HL8:Hid (leftN r M w8<leftN r M wo):=hHd (by rw [leftN_of (Y8.heap hlt.1) (Y8.heap hlt.2.1)];exact HLT.out);have HI8:=hHd (HIT.out.of (Y8.heap hlt.1) (Y8.heap hlt.2.1));have HX8:=hHd (HX6.out.trans Y8)
    have HY8:Hid ((yes||x.covers day)=true↔∃y,(D y∨y=x)∧y.covers day=true):=hHd (by
     rw [Bool.or_eq_true,HY.out];exact⟨fun h=>h.elim (fun⟨y,h1,h2⟩=>⟨y,.inl h1,h2⟩) (fun h=>⟨x,.inr rfl,h⟩),fun⟨y,h1,h2⟩=>h1.elim (fun h=> .inl ⟨y,h,h2⟩) (fun h=> .inr (by rw [←h];exact h2))⟩)
    have HN8:Hid ((no|| !x.covers day)=true↔∃y,(D y∨y=x)∧y.covers day=false):=hHd (by
     rw [Bool.or_eq_true,HN.out];exact⟨fun h=>h.elim (fun⟨y,h1,h2⟩=>⟨y,.inl h1,h2⟩) (fun h=>⟨x,.inr rfl,by simpa using h⟩),fun⟨y,h1,h2⟩=>h1.elim (fun h=> .inl ⟨y,h,h2⟩) (fun h=> .inr (by rw [←h,h2];rfl))⟩)
    generalize x.covers day=cx at*;clear hlt hx8 Y8 HIT HLT HY HN hrun hent HX6;cases yes<;>cases no<;>cases cx
    all_goals
     (go_wp2_with fail);go_roundw
     case rel=>exact⟨_,_,_,rfl,rfl,hHd ⟨HI8.out,HX8.out,HY8.out,HN8.out⟩⟩
     case measure=>exact HL8.out
 ·have hb : (ab != 0) = true := by rw [bne_iff_ne]; exact h0
  obtain rfl:rr=(0,ab):=by rw [HR.out];exact HE1.out h0
  clear HE1 HE2 HKN HAS h0;(go_wp2_with fail);go_ret2;exact⟨rfl,X1⟩
end Go.Proofs.YtegkdnfeceomdaaGreat
