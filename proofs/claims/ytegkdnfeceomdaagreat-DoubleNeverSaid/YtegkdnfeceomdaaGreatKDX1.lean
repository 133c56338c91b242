/- Bundled: what the texts UV OI GA GN say one after another. -/
import Derived.Test.YtegkdnfeceomdaaGreatKDA19
import Derived.Test.YtegkdnfeceomdaaGreatKDA12
import Derived.Test.YtegkdnfeceomdaaGreatKDA6
import Derived.BigFrameIn
import Derived.Test.YtegkdnfeceomdaaGreatKDA20
import Derived.Test.YtegkdnfeceomdaaGreatKDA17
import Derived.Test.YtegkdnfeceomdaaGreatKDA2
set_option maxRecDepth 100000
set_option maxHeartbeats 16000000
set_option linter.unusedSimpArgs false
set_option linter.unusedVariables false
namespace Go.Hs
open Go.RowKit
def IterAt {α:Type} (enc:α→Value) (r bm:Nat) (S D:α→Prop) (w:World):Prop:=
 ∃es clock since seen c0,w.heap[r]?=some (.mapIter (some bm) since seen c0)∧w.heap[bm]?=some (.map es clock)∧(∀e∈es.toList,(∃a,S a∧e.key=enc a)∧e.born<since)∧
  (∀a,S a→∃e∈es.toList,e.key=enc a)∧(es.toList.map (·.born)).Nodup∧since≤c0∧since≤clock∧(∀e∈es.toList,e.born∈seen→∃a,D a∧e.key=enc a)∧(∀a,D a→S a)
def leftN (r bm:Nat) (w:World):Nat:=match w.heap[bm]? with
 |some (.map es _)=>(leftOf es (w.iterSeen r)).size
 |_=>0
section
variable {α:Type} {P:Program} {enc:α→Value}
theorem IterAt.of {r bm:Nat} {S D:α→Prop} {w w':World} (h:IterAt enc r bm S D w) (hr:w'.heap[r]?=w.heap[r]?) (hb:w'.heap[bm]?=w.heap[bm]?):IterAt enc r bm S D w':=by
 obtain⟨es,clock,since,seen,c0,h1,h2,rest⟩:=h;exact⟨es,clock,since,seen,c0,hr.trans h1,hb.trans h2,rest⟩
theorem leftN_of {r bm:Nat} {w w':World} (hr:w'.heap[r]?=w.heap[r]?) (hb:w'.heap[bm]?=w.heap[bm]?):leftN r bm w'=leftN r bm w:=by
 unfold leftN World.iterSeen;rw [hr,hb]
theorem IterAt.lt {r bm:Nat} {S D:α→Prop} {w:World} (h:IterAt enc r bm S D w):r<w.heap.size∧bm<w.heap.size∧r≠bm:=by
 obtain⟨es,clock,since,seen,c0,h1,h2,-⟩:=h;refine⟨(Array.getElem?_eq_some_iff.1 h1).1,(Array.getElem?_eq_some_iff.1 h2).1,?_⟩
 rintro rfl;rw [h1] at h2;cases h2
theorem IterAt.noCells {r bm:Nat} {S D:α→Prop} {w:World} (h:IterAt enc r bm S D w):NoCells w r∧NoCells w bm:=by
 obtain⟨es,clock,since,seen,c0,h1,h2,-⟩:=h;exact⟨fun o=>by simp [World.cell?,h1],fun o=>by simp [World.cell?,h2]⟩
theorem SetAt.iter {M T E:TypeId} (hM:P.underlying M=some (.map T E)) {bm:Nat} {S:α→Prop} {w:World} (h:SetAt enc bm S w):
  ∃o,(Instr.range M (.map (some bm))).run P w= .ok (.pointer (some ⟨w.heap.size,0,none⟩)) (w.alloc o)∧IterAt enc w.heap.size bm S (fun _=>False) (w.alloc o):=by
 obtain⟨es,clock,hr,h1,h2,h3⟩:=h;refine⟨_,run_range_map w M T E bm es clock hM hr,es,clock,clock,#[],clock,World.alloc_heap_new w _,?_,h1,h2,h3,Nat.le_refl _,Nat.le_refl _,fun e _ hs=>by simp at hs,fun a h=>h.elim⟩
 rw [Below.heap_alloc _ _ _ (Array.getElem?_eq_some_iff.1 hr).1];exact hr
theorem IterAt.next (hinj:∀a b,enc a=enc b→a=b) (ty:TypeId) {r bm:Nat} {S D:α→Prop} {w:World} (h:IterAt enc r bm S D w):
  ((∀a,S a→D a)∧(Instr.next (.pointer (some ⟨r,0,none⟩)) false ty).run P w= .ok (.tuple #[.bool false]) w)∨
  ∃a v o w1,(w1=w∨w1=w.drew)∧S a∧(Instr.next (.pointer (some ⟨r,0,none⟩)) false ty).run P w= .ok (.tuple #[.bool true,enc a,v]) (w1.putObj r o)∧
   IterAt enc r bm S (fun x=>D x∨x=a) (w1.putObj r o)∧leftN r bm (w1.putObj r o)<leftN r bm w∧(Instr.entry (.pointer (some ⟨r,0,none⟩))).run P (w1.putObj r o)= .ok (.tuple #[enc a,v]) (w1.putObj r o):=by
 have hlt:=h.lt;obtain⟨es,clock,since,seen,c0,h1,h2,h3,h4,h5,h6,h7,h8,h9⟩:=h;rcases run_next_at (P:=P) w ty r bm since c0 seen es clock h1 h2 (fun x hx=>(h3 x hx).2) h6 with ⟨hz,hrun⟩|⟨e,he,w1,hal,hrun⟩
 ·refine .inl ⟨fun a ha => ?_, hrun⟩
  obtain⟨e,he,hk⟩:=h4 a ha
  have hs:e.born∈seen:=by
   by_cases hc:e.born∈seen
   ·exact hc
   ·exfalso
    have:e∈(leftOf es seen).toList:=by
     unfold leftOf;rw [Array.toList_filter,List.mem_filter];exact⟨he,by simp [hc]⟩
    have h0:(leftOf es seen).toList.length=0:=by rw [Array.length_toList];exact hz
    rw [List.length_eq_zero_iff] at h0;rw [h0] at this;cases this
  obtain⟨b,hb,hbk⟩:=h8 e he hs;have:a=b:=hinj _ _ (hk.symm.trans hbk);rw [this];exact hb
 ·have hm := mem_left he; obtain ⟨⟨a, ha, hk⟩, hborn⟩ := h3 e hm.1; have hr1 : w1.heap[r]? = some (.mapIter (some bm) since seen c0) := by rcases hal with rfl | rfl <;> exact h1
  have hb1:w1.heap[bm]?=some (.map es clock):=by rcases hal with rfl|rfl<;>exact h2
  have hsz:w1.heap.size=w.heap.size:=by rcases hal with rfl|rfl<;>rfl
  have g1:(w1.putObj r (.mapIter (some bm) since (seen.push e.born) clock)).heap[r]?=some (.mapIter (some bm) since (seen.push e.born) clock):=World.putObj_heap_same (by omega);have g2:(w1.putObj r (.mapIter (some bm) since (seen.push e.born) clock)).heap[bm]?=some (.map es clock):=(World.putObj_heap_other (Ne.symm hlt.2.2)).trans hb1;have hent:=run_entry_at (P:=P) (w1.putObj r (.mapIter (some bm) since (seen.push e.born) clock)) r bm since seen es clock e g1 g2 hm.1 h5;rw [hk] at hent hrun;refine .inr ⟨a,e.val,.mapIter (some bm) since (seen.push e.born) clock,w1,hal,ha,hrun,?_,?_,hent⟩
  ·refine ⟨es, clock, since, seen.push e.born, clock, g1, g2, h3, h4, h5, h7, h7, fun x hx hxs => ?_, fun b hb => ?_⟩
   ·simp only [Array.mem_push] at hxs; rcases hxs with hxs | hxs
    ·obtain⟨b,hb,hbk⟩:=h8 x hx hxs;exact⟨b,.inl hb,hbk⟩
    ·have : x = e := by
      have q1:=find_born x es.toList h5 hx;have q2:=find_born e es.toList h5 hm.1;rw [hxs,q2] at q1;injection q1 with q1
      exact q1.symm
     subst this;exact⟨a,.inr rfl,hk⟩
   ·rcases hb with hb | rfl
    ·exact h9 b hb
    ·exact ha
  ·unfold leftN World.iterSeen;rw [g1,g2,h2,h1];exact left_shrinks es seen e he
end
section
variable {P:Program} {ops:Array Oper} {Q:Exit→Act→World→Prop} {md:Region.Mode} {S:World→Prop} {n l:Nat}
def NoOut (Q:Exit→Act→World→Prop):Exit→Act→World→Prop
 | .outgrown,_,_=>False
 | .panic _,_,_=>False
 |e,a,w=>Q e a w
theorem NoOut.out {e:Exit} {a:Act} {w:World} (h:NoOut Q e a w):Q e a w:=by cases e<;>first|exact h|exact h.elim
theorem noOut_n {a:Act} {w:World} (h:Q .normal a w):NoOut Q .normal a w:=h
theorem noOut_lets:¬LetsOut (NoOut Q):=fun⟨_,_,h⟩=>h
theorem opIn_plain {i : Nat} {a : Act} {w : World} {K K' : Act → World → Prop} (hnd : noDefer ops = true) (hno : ¬ LetsOut Q) (hk : ∀ a w, K a w → K' a w) (h : wpOp P ops Q i K a w) : wpOpIn (Fence.wide.inRound l) n P ops Q i K' a w := by
  unfold wpOp at h;unfold wpOpIn;cases ho:ops[i]? with
  |none=>simp only [ho] at h;exact hk _ _ h
  | some o =>
    simp only [ho] at h⊢;split
    · rename_i hw
      rw [if_pos hw] at h;rcases h with h|⟨-,h⟩
      · refine operIn_of (fun c hc => ?_) (Oper.wp_mono hk h)
        have hm:o∈ops.toList:=by
          obtain⟨hi,rfl⟩:=Array.getElem?_eq_some_iff.1 ho;simp
        have:=List.all_eq_true.1 hnd o hm;rw [hc] at this;cases this
      · exact absurd h hno
    · rename_i hw
      rw [if_neg hw] at h;exact⟨fun _ _=>trivial,hk _ _ h⟩
theorem anyIn_plain (hnd:noDefer ops=true) (hno:¬LetsOut Q):∀(fuel:Nat) (listed:Array Bool) (a:Act) (w:World),wpAny P md ops Q fuel listed a w→wpAnyIn (Fence.wide.inRound l) n P md ops Q fuel listed a w
 |0,_,_,_,h=>h
 |fuel+1,_,_,_,h=>⟨h.1,fun i hi=>opIn_plain hnd hno (fun a w h=>anyIn_plain hnd hno fuel _ a w h) (h.2 i hi)⟩
theorem wpIn_round_held {id:Nat} {a:Act} {w:World} (hm:P.follows .mixedOrders=true) (hnd:noDefer ops=true) (hS:S w.drew) (h:S w.drew→wpAnyH P .any ops (NoOut Q) S ops.size (Array.replicate ops.size false) a w.drew):(Code.region id ops true).wpIn (Fence.wide.inRound l) n P Q a w:=
 wpIn_mono (wpIn_region_any hm (anyIn_plain hnd noOut_lets _ _ _ _ (wpAny_of_held _ _ _ _ (h hS)))) (fun _ _ _ h=>h.out)
theorem step_loadIn {F:Fence} {w:World} {a:Act} {o:Oper} {rest:List Oper} (hw:Region.wanted o (yielded ops a.tmps)=true) (T:TypeId) (x:Operand) (hop:o.op= .load T x) (v p:Value) (hx:a.eval x=p) (hr:(Instr.loadAt T p).run P w= .ok v w)
  (h:wpListIn F n P ops Q rest (a.put o.dst v) w):wpListIn F n P ops Q (o::rest) a w:=
 BigFrame.wpListIn_want hw fun K' hK'=>⟨fun f hf=>by simp [Oper.about,hop] at hf,by
  rw [Oper.semAt_eq _ _ _ (by simp [hop])];simp [execOp,hop,hx,hr,Result.andThen,Oper.uponIn]
  exact hK' _ _ h⟩
theorem step_storeIn {F:Fence} {w:World} {a:Act} {o:Oper} {rest:List Oper} (hw:Region.wanted o (yielded ops a.tmps)=true) (T:TypeId) (x y:Operand) (hop:o.op= .store T x y) (p v:Value) (w':World) (hx:a.eval x=p) (hy:a.eval y=v) (hr:(Instr.storeAt T p v).run P w= .ok () w')
  (h:wpListIn F n P ops Q rest (a.put o.dst undef) w'):wpListIn F n P ops Q (o::rest) a w:=
 BigFrame.wpListIn_want hw fun K' hK'=>⟨fun f hf=>by simp [Oper.about,hop] at hf,by
  rw [Oper.semAt_eq _ _ _ (by simp [hop])];simp [execOp,hop,hx,hy,hr,Result.andThen,Oper.uponIn]
  exact hK' _ _ h⟩
end
def cntF {α β:Type} (f:α→Option β) (l:List α) (i:Nat):Nat:=((l.take i).filterMap f).length
theorem cntF_all {α β:Type} (f:α→Option β) (l:List α):cntF f l l.length=(l.filterMap f).length:=by unfold cntF;rw [List.take_length]
theorem cntF_no {α β:Type} {f:α→Option β} {l:List α} {i:Nat} (h:i<l.length) (hn:f l[i]=none):cntF f l (i+1)=cntF f l i:=by
 unfold cntF;rw [List.take_succ_eq_append_getElem h,List.filterMap_append];simp [hn]
theorem cntF_yes {α β:Type} {f:α→Option β} {l:List α} {i:Nat} (h:i<l.length) {x:β} (hs:f l[i]=some x):cntF f l (i+1)=cntF f l i+1∧∃h2:cntF f l i<(l.filterMap f).length,(l.filterMap f)[cntF f l i]=x:=by
 have h1:cntF f l (i+1)=cntF f l i+1:=by
  unfold cntF;rw [List.take_succ_eq_append_getElem h,List.filterMap_append];simp [hs]
 refine⟨h1,?_⟩
 have e:l.filterMap f=((l.take i).filterMap f)++(x::(l.drop (i+1)).filterMap f):=by
  conv=>lhs;rw [←List.take_append_drop i l]
  rw [List.filterMap_append,List.drop_eq_getElem_cons h,List.filterMap_cons,hs]
 have h2:(l.filterMap f)[cntF f l i]?=some x:=by
  rw [e,List.getElem?_append_right (by unfold cntF;exact Nat.le_refl _)];simp [cntF]
 obtain⟨h3,h4⟩:=List.getElem?_eq_some_iff.1 h2;exact⟨h3,h4⟩
structure PTr where
 days:List Int
 sown:List Int
def truP (b:Bk) (l:List Int):PTr:=⟨l.take b.ents.length,l.drop b.ents.length⟩
def outF (out:List Int):Nat→Bool:=fun i=>decide ((i:Int)∈out)
def tryP (b:Bk) (day:Nat) (out:List Int) (l:List Int):Option (PTr×Fds):=(playB b (truP b l).days (truP b l).sown day (outF out)).map (fun f=>(truP b l,f))
def truthsP (b:Bk) (day:Nat) (out:List Int):List (PTr×Fds):=(allL (rngsB b)).filterMap (tryP b day out)
structure PTrOK (b:Bk) (t:PTr):Prop where
 l1:t.days.length=b.ents.length
 l2:t.sown.length=b.pars.length
 listed:listedK b t.days t.sown=true
theorem truP_ok {b:Bk} {l:List Int} (h:l∈allL (rngsB b)):PTrOK b (truP b l):=by
 obtain⟨hl,hr⟩:=mem_allL h;rw [rngsB_len] at hl;have e1:(truP b l).days.length=b.ents.length:=by simp [truP];omega
 have e2:(truP b l).sown.length=b.pars.length:=by simp [truP];omega
 refine⟨e1,e2,?_⟩
 unfold listedK;rw [decide_eq_true e1,decide_eq_true e2,Bool.true_and,Bool.true_and,Bool.and_eq_true];refine⟨List.all_eq_true.2 (fun i hi=> ?_),List.all_eq_true.2 (fun i hi=> ?_)⟩
 ·have hi := List.mem_range.1 hi; have := hr i (by rw [rngsB_len]; omega)
  have eq:(rngsB b)[i]'(by rw [rngsB_len];omega)=((b.ents[i]).dlo,(b.ents[i]).dhi):=by
   unfold rngsB;rw [List.getElem_append_left (by simpa using hi)];simp
  rw [eq] at this;have e4:(truP b l).days.getD i 0=l.getD i 0:=getD_take hi;have e5:b.ents.getD i default=b.ents[i]:=by simp [hi]
  rw [e4,e5,inR_iff];exact this
 ·have hi := List.mem_range.1 hi; have := hr (b.ents.length + i) (by rw [rngsB_len]; omega)
  have eq:(rngsB b)[b.ents.length+i]'(by rw [rngsB_len];omega)=((b.pars[i]).slo,(b.pars[i]).shi):=by
   unfold rngsB;rw [List.getElem_append_right (by simp)];simp
  rw [eq] at this;have e4:(truP b l).sown.getD i 0=l.getD (b.ents.length+i) 0:=getD_drop;have e5:b.pars.getD i default=b.pars[i]:=by simp [hi]
  rw [e4,e5,inR_iff];exact this
theorem allL_bd {b:Bk} (hb:BkS b) {l:List Int} (h:l∈allL (rngsB b)):∀x∈l,0≤x∧x≤30:=by
 intro x hx
 obtain⟨hl,hr⟩:=mem_allL h;obtain⟨i,hi,rfl⟩:=List.getElem_of_mem hx;have h1:=hr i (by omega);have h2:=rngs_ok hb _ (List.getElem_mem (by omega:i<(rngsB b).length));have e:l.getD i 0=l[i]:=by simp [hi]
 rw [e] at h1;omega
end Go.Hs
namespace Go.Proofs.YtegkdnfeceomdaaGreat
open Go.RowKit Go.Hs
attribute [local irreducible] World.setCell World.alloc
attribute [local go_sem] Oper.semAt_some
attribute [local simp] wide_fn wide_fn' wide_depth wide_round
attribute [local go_sem] wide_fn wide_fn' wide_depth wide_round
def YieldG (U D L n:Nat) (ls:List (List Int)) (J:Nat→World→Prop) (Jx:World→Prop):Prop:=∀(k:Nat) (h:k<ls.length) (W1:World) (g:Nat),J k W1→IntsV W1 (.slice (some ⟨g,0,none⟩) n n) ls[k]→D≤W1.heap.size→U≤W1.heap.size→
  YieldAt Fence.wide 0 Tryz.prog L #[.slice (some ⟨g,0,none⟩) n n] W1 fun e W2=>KeptU D U W1 W2∧((e= .returned (.bool true)∧J (k+1) W2)∨(e= .returned (.bool false)∧Jx W2))
theorem choose_endP (U D L bl b1 b2 b3 g qr:Nat) (ar:Option Addr) (rs:List (Int×Int)) (J:Nat→World→Prop) (Jx:World→Prop) (hK:∀i W1,J i W1→RngB bl ar qr rs W1) (hY:YieldG U D L rs.length (allL rs) J Jx) (hgU:b1<U∧b2<U∧b3<U∧g<U)
  (pre:List Int) (k:Nat) (W:World) (hUW:U≤W.heap.size) (hj:J k W) (hs:LsSt 183 D L bl b1 b2 b3 g rs.length pre W) (hl:pre.length=rs.length) (hn:rs.length≤1000) (hp:∀x∈pre,0≤x∧x≤1000) (hA:AtL rs k rs.length pre):
  Calls Tryz.prog 183 #[.int .i64 rs.length,.pointer (some ⟨bl,0,none⟩),.pointer (some ⟨b1,0,none⟩),.pointer (some ⟨b2,0,none⟩),.pointer (some ⟨b3,0,none⟩)] W (ChQ 183 U D L bl b1 b2 b3 g rs.length J Jx pre (k+1)):=by
 obtain⟨hb,-⟩:=hK k W hj;have hi:=hs.ints hl hn hp;have hat:=hA 0 (by rw [List.drop_length];decide);have hd0:(allL (rs.drop rs.length))= [[]]:=by rw [List.drop_length];rfl
 obtain⟨hk,hke⟩:∃h:k<(allL rs).length,(allL rs)[k]=pre:=by
  have h1:(allL (rs.drop rs.length))[0]'(by rw [hd0];decide)= []:=(List.getElem_of_eq hd0 _).trans rfl;rw [h1,List.append_nil,Nat.add_zero] at hat;obtain⟨h2,h3⟩:=List.getElem?_eq_some_iff.1 hat;exact⟨h2,h3⟩
 have hy:=hY k hk W g hj (by rw [hke];exact hi) (by have:=hs.d.2.2.2;have:=hs.lt;omega) hUW;obtain⟨fn,tmps,assign,body,hy,hrd⟩:=hy;have q1:=hs.y;have q2:=hs.o;have HS:=hHd hs;clear hs hi hat hd0 hke hA hK hY hp hl;refine Iff.mp (callsIn_wide (n:=0)) ?_
 gi_enter Tryz.func183,Tryz.ntmps183
 gi_wp2_with (first|((with_reducible refine hrd.mono ?_);rintro e w2 ⟨hk2,⟨rfl,hI2⟩|⟨rfl,hI2⟩⟩))
 ·(gi_wp2_with fail);go_ret;exact⟨true,rfl,fun _=>⟨⟨hI2,HS.out.keptU hk2 hgU⟩,Nat.le_trans hUW hk2.1⟩,fun h=>(by cases h)⟩
 ·(gi_wp2_with fail);go_ret;exact⟨false,rfl,fun h=>(by cases h),fun _=>hI2⟩
def ChIP (U D L bl b1 b2 b3 g:Nat) (rs:List (Int×Int)) (J:Nat→World→Prop) (Jx:World→Prop) (m:Nat):Prop:=
 ∀(iv:Int) (i k:Nat) (pre:List Int) (W:World),iv=i→i+m=rs.length→U≤W.heap.size→J k W→LsSt 183 D L bl b1 b2 b3 g rs.length pre W→pre.length=i→(∀x∈pre,0≤x∧x≤1000)→AtL rs k i pre→
  Calls Tryz.prog 183 #[.int .i64 iv,.pointer (some ⟨bl,0,none⟩),.pointer (some ⟨b1,0,none⟩),.pointer (some ⟨b2,0,none⟩),.pointer (some ⟨b3,0,none⟩)] W (ChQ 183 U D L bl b1 b2 b3 g rs.length J Jx pre (k+(allL (rs.drop i)).length))
theorem choose_moreP (U D L bl b1 b2 b3 g qr : Nat) (ar : Option Addr) (rs : List (Int × Int)) (J : Nat → World → Prop) (Jx : World → Prop) (hK : ∀ i W1, J i W1 → RngB bl ar qr rs W1) (hJ : ∀ i A B, J i A → BelR (fun _ => False) (fun _ => True) D U A B → J i B) (hgU : b1 < U ∧ b2 < U ∧ b3 < U ∧ g < U)
    (hR:∀r∈rs,0≤r.1∧r.1≤r.2∧r.2≤1000) (hn:rs.length≤1000) (m:Nat) (ih:ChIP U D L bl b1 b2 b3 g rs J Jx m):ChIP U D L bl b1 b2 b3 g rs J Jx (m+1):=by
  intro iv i k pre W hiv him hUW hj hs hl hp hA
  subst hiv;have hi:i<rs.length:=by omega
  have HIH:Hid (∀(iv:Int) (a k':Nat) (W':World),iv=(i:Int)+1→(a:Int)≤rs[i].2 - rs[i].1→k'=k+a*(allL (rs.drop (i+1))).length→U≤W'.heap.size→J k' W'→LsSt 183 D L bl b1 b2 b3 g rs.length (pre++ [rs[i].1+(a:Int)]) W'→
      Calls Tryz.prog 183 #[.int .i64 iv,.pointer (some ⟨bl,0,none⟩),.pointer (some ⟨b1,0,none⟩),.pointer (some ⟨b2,0,none⟩),.pointer (some ⟨b3,0,none⟩)] W' (ChQ 183 U D L bl b1 b2 b3 g rs.length J Jx (pre++ [rs[i].1+(a:Int)]) (k'+(allL (rs.drop (i+1))).length))):=
    hHd (fun iv a k' W' h1 h2 h3 h0 h4 h5 => by
      have hr:=hR _ (List.getElem_mem hi);subst h3
      exact ih iv (i+1) _ _ W' (by omega) (by omega) h0 h4 h5 (by simp;omega) (fun x hx=>by
        rcases List.mem_append.1 hx with h|h
        · exact hp x h
        · have : x = rs[i].1 + (a : Int) := by simpa using h
          omega) (atL_next hA hi (by omega)))
  have HTOT:Hid (∀n:Nat,rs[i].2 - rs[i].1+1=(n:Int)→(allL (rs.drop i)).length=n*(allL (rs.drop (i+1))).length):=hHd (fun n hn=>by
    have e:rs.drop i=rs[i]::rs.drop (i+1):=List.drop_eq_getElem_cons hi;rw [e,allL_len,hn];simp)
  have HK:Hid (∀j W1,J j W1→W1.cell? ⟨bl,0,none⟩=some (.slice ar rs.length qr)∧∃gr,ar=some ⟨gr,0,none⟩∧W1.cell? ⟨gr,i*2,none⟩=some (.int .i64 rs[i].1)∧W1.cell? ⟨gr,i*2+1,none⟩=some (.int .i64 rs[i].2)):=hHd (fun j W1 h=>⟨(hK j W1 h).1,(hK j W1 h).2 i hi⟩);have hr:=hR _ (List.getElem_mem hi);have HSZ:=hHd (fun W=>size_p rs[i].1 rs[i].2 ⟨hr.1,hr.2.1,hr.2.2⟩ W);have HJ:=hHd hJ;obtain⟨N,hN⟩:∃N:Nat,rs[i].2 - rs[i].1+1=(N:Int):=⟨(rs[i].2 - rs[i].1+1).toNat,by omega⟩;have HT:=hHd (HTOT.out N hN);rw [hN] at HSZ;have HN:=hHd hN;generalize (allL (rs.drop i)).length=tot at*;generalize (allL (rs.drop (i+1))).length=c at*;generalize rs[i].1=lo at*;generalize rs[i].2=hi' at*;have hlo:0≤lo∧lo≤1000:=by omega
  have hNn:N≤1001:=by omega
  have HS:=hHd hs;have HL:=hHd hl;obtain⟨hb,gr,rfl,m0,m1⟩:=HK.out k W hj;have hk0:(0:Int)≤(i:Int):=by omega
  have hk1:(i:Int)<(rs.length:Int):=by omega
  have hne:((i:Int)==(rs.length:Int))=false:=by rw [beq_eq_false_iff_ne];omega
  have hne':¬(i:Int)=(rs.length:Int):=by omega
  have hDW:D≤W.heap.size:=by have:=hs.d.2.2.2;have:=hs.lt;omega
  clear HTOT hr hN hA hp hl hs ih hK hJ hR him;go_enter Tryz.func183,Tryz.ntmps183
  (go_wp2_with fail);(with_reducible refine(HSZ.out _).mono ?_);rintro e w1 ⟨rfl,hx1⟩;have HJ1:=hHd (HJ.out k W w1 hj (ext_toR hx1 inv_none (fun _ h=>h.elim)));have hUW1:U≤w1.heap.size:=Nat.le_trans hUW hx1.size;have HS1:=hHd (HS.out.ext hx1);clear hb m0 m1 hj HS;(go_wp2_with fail);go_loopw [20] (fun s20 wr=>∃a:Nat,a≤N∧s20= .int .i64 a∧U≤wr.heap.size∧Hid (J (k+a*c) wr)∧Hid (LsSt 183 D L bl b1 b2 b3 g rs.length pre wr)) (fun s _=>N - (intOf s).toNat)
  case atStart=>exact⟨0,Nat.zero_le _,rfl,hUW1,hHd (by rw [Nat.zero_mul];exact HJ1.out),HS1⟩
  case round=>
    obtain⟨a,ha,rfl,hUo,HJa,HSa⟩:=hrel;obtain⟨wo,rfl⟩:∃x,x=wr:=⟨_,rfl⟩;by_cases hlt:a<N
    · obtain ⟨hb, gr', ee, m0, -⟩ := HK.out _ wo HJa.out; cases ee
      have q2:=HSa.out.o;have q3:=HSa.out.c;have nn:=HSa.out.ne;obtain⟨y,hy⟩:=HSa.out.row i (by omega);have fr:=HSa.out.fr;have hw:IntKind.i64.wrap (lo+(a:Int))=lo+(a:Int):=IntWalk.i64_in _ (by omega);have hw2:IntKind.i64.wrap ((i:Int)+1)=(i:Int)+1:=IntWalk.i64_in _ (by omega);have hDg:=HSa.out.d.2.2.2;have XB:BelR (fun _=>False) (fun _=>True) D U wo (wo.setCell ⟨g,i,none⟩ (.int .i64 (lo+(a:Int)))):=belR_set inv_none (fun _ h=>h.elim) hDg hgU.2.2.2
      have HJ6:Hid (∀V,V=(wo.setCell ⟨g,i,none⟩ (.int .i64 (lo+(a:Int)))).drew→(J (k+a*c) V∧LsSt 183 D L bl b1 b2 b3 g rs.length (pre++ [lo+(a:Int)]) V)∧U≤V.heap.size):=hHd (fun V hV=>by
        subst hV;refine⟨⟨HJ.out _ _ _ HJa.out (XB.trans (ext_toR ((Ext.refl _).drew) inv_none (fun _ h=>h.elim))),?_⟩,by show U≤(wo.setCell _ _).heap.size;rw [World.size_setCell];exact hUo⟩
        have:=HSa.out.set (by rw [HL.out];exact hi) (lo+(a:Int));rw [HL.out] at this;exact this.ext (Ext.refl _).drew)
      clear HJa HSa XB hDg HK;(go_wp2_with fail);go_region;obtain⟨⟨hj6,hs6⟩,hU6⟩:=HJ6.out _ rfl;generalize (wo.setCell ⟨g,i,none⟩ (.int .i64 (lo+(a:Int)))).drew=W6 at*;clear HJ6 q2 q3 hy fr hb m0;have q3:=hs6.c;have HJ7:=hHd hj6;have HS7:=hHd hs6;clear hj6 hs6;(go_wp2_with fail);(with_reducible refine(HIH.out _ a _ _ rfl (by have:=HN.out;omega) rfl hU6 HJ7.out HS7.out).mono ?_);rintro e w7 ⟨b,rfl,hbt,hbf⟩;cases b with
      | true =>
        obtain⟨⟨hj7,hs7⟩,hU7⟩:=hbt rfl;have HJ8:Hid (J (k+(a+1)*c) w7):=hHd (by rw [Nat.succ_mul,←Nat.add_assoc];exact hj7);have HS8:=hHd hs7.less;clear hbt hbf hj7 hs7;(go_wp2_with fail);go_roundw
        case rel=>exact⟨a+1,by omega,by go_num,hU7,HJ8,HS8⟩
        case measure=>simp [intOf];omega
      | false =>
        have HF:=hHd (hbf rfl);clear hbt hbf;(go_wp2_with fail);go_ret;exact⟨false,rfl,fun h=>(by cases h),fun _=>HF.out⟩
    · obtain rfl : a = N := by omega
      (go_wp2_with fail);go_ret;exact⟨true,rfl,fun _=>⟨⟨by rw [HT.out];exact HJa.out,HSa.out⟩,hUo⟩,fun h=>(by cases h)⟩
theorem choose_allP (U D L bl b1 b2 b3 g qr:Nat) (ar:Option Addr) (rs:List (Int×Int)) (J:Nat→World→Prop) (Jx:World→Prop) (hK:∀i W1,J i W1→RngB bl ar qr rs W1) (hJ:∀i A B,J i A→BelR (fun _=>False) (fun _=>True) D U A B→J i B) (hgU:b1<U∧b2<U∧b3<U∧g<U)
    (hY:YieldG U D L rs.length (allL rs) J Jx) (hR:∀r∈rs,0≤r.1∧r.1≤r.2∧r.2≤1000) (hn:rs.length≤1000):∀m,ChIP U D L bl b1 b2 b3 g rs J Jx m
  | 0 => by
    intro iv i k pre W hiv him hUW hj hs hl hp hA
    obtain rfl:i=rs.length:=by omega
    subst hiv;have e:(allL (rs.drop rs.length)).length=1:=by rw [List.drop_length];rfl
    rw [e];exact choose_endP U D L bl b1 b2 b3 g qr ar rs J Jx hK hY hgU pre k W hUW hj hs hl hn hp hA
  |m+1=>choose_moreP U D L bl b1 b2 b3 g qr ar rs J Jx hK hJ hgU hR hn m (choose_allP U D L bl b1 b2 b3 g qr ar rs J Jx hK hJ hgU hY hR hn m)
theorem fn_lists1P:FnOK 182:=fun args w=>by simp [go_sem]
def ArgG (n:Nat) (ls:List (List Int)) (i:Nat) (as':Array Value) (w:World):Prop:=∃g,as'= #[.slice (some ⟨g,0,none⟩) n n]∧∃h:i<ls.length,IntsV w (.slice (some ⟨g,0,none⟩) n n) ls[i]
theorem lists_givesUP (bl qr:Nat) (ar:Option Addr) (rs:List (Int×Int)) (hR:∀r∈rs,0≤r.1∧r.1≤r.2∧r.2≤1000) (hn:rs.length≤1000):
  GivesU (fun _=>False) (fun _=>True) 182 #[.pointer (some ⟨bl,0,none⟩)] (allL rs).length (fun _=>ArgG rs.length (allL rs)) (RngB bl ar qr rs):=by
 intro L J Jx W _ hK hJ hJx hY h0
 have hY':∀U,W.heap.size≤U→YieldG U W.heap.size L rs.length (allL rs) (J U) (Jx U):=fun U hU k h W1 g hj hv hs hUW=>hY U k h W1 #[.slice (some ⟨g,0,none⟩) rs.length rs.length] hU hUW hj ⟨g,rfl,h,hv⟩
 have HCH:=hHd (fun U hU b1 b2 b3 g hg=>choose_allP U W.heap.size L bl b1 b2 b3 g qr ar rs (J U) (Jx U) (hK U) (fun i A B h hb=>hJ U i A B hU h hb) hg (hY' U hU) hR hn rs.length);obtain⟨hb,-⟩:=hK W.heap.size 0 W (h0 _ (Nat.le_refl _));have HJ:=hHd hJ;have H0:=hHd h0;obtain⟨i0,hi0,hz0,hz1,hz2⟩:=info_parts info_int;obtain⟨M,hM⟩:∃M,M=madeCells (Value.int .i64 0).cells ((rs.length:Int).toNat*i0.size):=⟨_,rfl⟩;have hMs:M.size=rs.length:=by rw [hM,size_madeCells,hz1,Nat.mul_one];rfl
 have hmk:∀W:World,(Instr.makeSlice 22 (.int .i64 rs.length) (.int .i64 rs.length)).run Tryz.prog W= .ok (.slice (some ⟨W.heap.size,0,none⟩) rs.length rs.length) (W.alloc (.cells M 3)):=fun W=>by
  have h:=run_makeSlice (P:=Tryz.prog) W 22 3 i0 (.int .i64 0) Tryz.underlying22 hi0 hz0 .i64 .i64 (rs.length:Int) rs.length (by omega) (Int.le_refl _) (by rw [hz1];omega) (by rw [hz2];omega) (by omega);rw [←hM] at h;simpa using h
 have HMS:=hHd hMs;clear hM hY hY' hJ hK hJx h0 hMs;have hbl:bl<W.heap.size:=lt_of_cell hb;have hbl':¬bl=W.heap.size:=by omega
 refine Iff.mpr (callsIn_wide (n:=0)) ?_
 simp only [List.append_toArray,List.cons_append,List.nil_append];go_enter Tryz.func182,Tryz.ntmps182
 (go_wp2_with fail);have X:Ext W ((((W.alloc (.cells #[.func (.yield L) #[] #[]] 171)).alloc (.cells M 3)).alloc (.cells #[.slice (some ⟨W.heap.size+1,0,none⟩) rs.length rs.length] 22)).alloc (.cells #[.func (.func 183) #[] #[.pointer (some ⟨bl,0,none⟩),.pointer (some ⟨W.heap.size,0,none⟩),.pointer (some ⟨W.heap.size+1+1,0,none⟩),.pointer (some ⟨W.heap.size+1+1+1,0,none⟩)]] 131)):=EX
 have ST:LsSt 183 W.heap.size L bl W.heap.size (W.heap.size+1+1) (W.heap.size+1+1+1) (W.heap.size+1) rs.length [] ((((W.alloc (.cells #[.func (.yield L) #[] #[]] 171)).alloc (.cells M 3)).alloc (.cells #[.slice (some ⟨W.heap.size+1,0,none⟩) rs.length rs.length] 22)).alloc (.cells #[.func (.func 183) #[] #[.pointer (some ⟨bl,0,none⟩),.pointer (some ⟨W.heap.size,0,none⟩),.pointer (some ⟨W.heap.size+1+1,0,none⟩),.pointer (some ⟨W.heap.size+1+1+1,0,none⟩)]] 131)):=by
  refine⟨by simp [go_sem],by simp [go_sem],by simp [go_sem],fun j hj=>⟨M[j]'(by rw [HMS.out];exact hj),?_⟩,fun j hj=>absurd hj (Nat.not_lt_zero _),Nat.zero_le _,fun o=>by simp [go_sem],⟨by omega,by omega,by omega,by omega⟩,⟨by omega,by omega,by omega⟩,by simp⟩
  have hj2:j<M.size:=by rw [HMS.out];exact hj
  simp [go_sem,hj2]
 have hVz:((((W.alloc (.cells #[.func (.yield L) #[] #[]] 171)).alloc (.cells M 3)).alloc (.cells #[.slice (some ⟨W.heap.size+1,0,none⟩) rs.length rs.length] 22)).alloc (.cells #[.func (.func 183) #[] #[.pointer (some ⟨bl,0,none⟩),.pointer (some ⟨W.heap.size,0,none⟩),.pointer (some ⟨W.heap.size+1+1,0,none⟩),.pointer (some ⟨W.heap.size+1+1+1,0,none⟩)]] 131)).heap.size=W.heap.size+4:=by simp
 generalize ((((W.alloc (.cells #[.func (.yield L) #[] #[]] 171)).alloc (.cells M 3)).alloc (.cells #[.slice (some ⟨W.heap.size+1,0,none⟩) rs.length rs.length] 22)).alloc (.cells #[.func (.func 183) #[] #[.pointer (some ⟨bl,0,none⟩),.pointer (some ⟨W.heap.size,0,none⟩),.pointer (some ⟨W.heap.size+1+1,0,none⟩),.pointer (some ⟨W.heap.size+1+1+1,0,none⟩)]] 131))=V at*;have hc:=HCH.out (W.heap.size+4) (by omega) W.heap.size (W.heap.size+1+1) (W.heap.size+1+1+1) (W.heap.size+1) (by omega);unfold ChIP at hc;have hj0:J (W.heap.size+4) 0 V:=HJ.out _ 0 W V (by omega) (H0.out _ (by omega)) (ext_toR X inv_none (fun _ h=>h.elim));have hUV:W.heap.size+4≤V.heap.size:=by omega
 have hnil:∀x∈([]:List Int),0≤x∧x≤1000:=fun x hx=>by cases hx
 (with_reducible refine(hc 0 0 0 [] V rfl (by omega) hUV hj0 ST rfl hnil (atL_zero rs)).mono ?_);rintro e w7 ⟨b,rfl,hbt,hbf⟩
 have HF:Hid (J (W.heap.size+4) (allL rs).length w7∨Jx (W.heap.size+4) w7):=hHd (by
  cases b with
  |true=>exact .inl (by have:=(hbt rfl).1.1;rwa [Nat.zero_add,List.drop_zero] at this)
  |false=>exact .inr (hbf rfl))
 clear hbt hbf ST;(go_wp2_with fail);go_end0
 exact⟨⟨_,rfl⟩,W.heap.size+4,by omega,HF.out⟩
end Go.Proofs.YtegkdnfeceomdaaGreat
