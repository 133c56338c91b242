/- Contracts of layer 1: how all parcels are at the end of a day. Printed by gen_jq.py. -/
import Derived.Test.YtegkdnfeceomdaaGreatKDA8
import Derived.Deep.MidRow
import Derived.RegionTactic
set_option maxRecDepth 100000
set_option maxHeartbeats 16000000
set_option linter.unusedSimpArgs false
set_option linter.unusedVariables false
namespace Go.Hs
open Go.RowKit
section
variable {P:Program} {w:World} {ops:Array Oper} {rest:List Oper} {o:Oper} {a:Act} {Q:Exit→Act→World→Prop}
theorem step_load (hg:o.guard=none) (T:TypeId) (x:Operand) (hop:o.op= .load T x) (v p:Value) (hx:a.eval x=p) (hr:(Instr.loadAt T p).run P w= .ok v w)
  (h:wpList P ops Q rest (a.put o.dst v) w):wpList P ops Q (o::rest) a w:=
 wpList_plain hg fun K' hK'=>by
  unfold Oper.wp;simp [execOp,hop,hx,hr,Result.andThen,Oper.upon]
  exact hK' _ _ h
theorem step_store (hg:o.guard=none) (T:TypeId) (x y:Operand) (hop:o.op= .store T x y) (p v:Value) (w':World) (hx:a.eval x=p) (hy:a.eval y=v) (hr:(Instr.storeAt T p v).run P w= .ok () w')
  (h:wpList P ops Q rest (a.put o.dst undef) w'):wpList P ops Q (o::rest) a w:=
 wpList_plain hg fun K' hK'=>by
  unfold Oper.wp;simp [execOp,hop,hx,hy,hr,Result.andThen,Oper.upon]
  exact hK' _ _ h
end
theorem results_load2 {P:Program} {fn:Func} {p q:Tmp} {ty:TypeId} (h:fn.results= #[.cell p ty,.tmp q]) (tmps:Array Value) (w:World) (ad:Addr) (v u:Value) (hp:tmps.getD p undef= .pointer (some ad)) (hl:(loadVar ty ad).run P w= .ok v w) (hq:tmps.getD q undef=u):
  (results fn tmps).run P w= .ok (.tuple #[v,u]) w:=by
 have hp':tmps[p]?.getD undef= .pointer (some ad):=by simpa using hp
 have hq':tmps[q]?.getD undef=u:=by simpa using hq
 simp [results,h,hp',hq',asAddr,hl]
def fdL (x:Hs.Fd):List Value:= [.bool x.there,.bool x.gone,.int .i64 x.owner,.int .i64 x.value,.int .i64 x.sown]
def fdsL (f:Fds):List Value:=(List.range 10).flatMap (fun i=>fdL (f i))
theorem fdsL_len (f:Fds):(fdsL f).length=50:=by simp [fdsL,fdL];decide
theorem fdsL_at (f:Fds) {i j:Nat} (hi:i<10) (hj:j<5):(fdsL f)[i*5+j]?=(fdL (f i))[j]?:=by
 have:=flat_at (C:=fun i=>fdL (f i)) (k:=5) (fun _=>rfl) (List.range 10) i j (by simpa using hi) hj;simpa [fdsL] using this
theorem range_fds {w:World} {P o:Nat} {f:Fds} (h:∀i,i<10→FdAt w P (o+i*5) (f i)):w.rangeAt P o (fdsL f):=by
 intro j v hv
 have hj:j<50:=by
  have:=(List.getElem?_eq_some_iff.1 hv).1;rwa [fdsL_len] at this
 have hi:j / 5<10:=by omega
 have hr:j % 5<5:=by omega
 have ej:j=j / 5*5+j % 5:=by omega
 rw [ej,fdsL_at f hi hr] at hv;obtain⟨h0,h1,h2,h3,h4⟩:=h _ hi;have hc:j % 5=0∨j % 5=1∨j % 5=2∨j % 5=3∨j % 5=4:=by omega
 rcases hc with e|e|e|e|e
 all_goals
  rw [e] at ej hv;simp only [fdL,List.getElem?_cons_zero,List.getElem?_cons_succ,Option.some.injEq] at hv;subst hv
 ·rw [show o+j=o+j / 5*5 by omega];exact h0
 ·rw [show o+j=o+j / 5*5+1 by omega];exact h1
 ·rw [show o+j=o+j / 5*5+2 by omega];exact h2
 ·rw [show o+j=o+j / 5*5+3 by omega];exact h3
 ·rw [show o+j=o+j / 5*5+4 by omega];exact h4
theorem fdsL_one (f:Fds):∀u∈fdsL f,u.oneCell'=true:=by
 intro u hu
 obtain⟨i,-,hu⟩:=List.mem_flatMap.1 hu;simp only [fdL,List.mem_cons,List.not_mem_nil,or_false] at hu;rcases hu with rfl|rfl|rfl|rfl|rfl<;>rfl
structure RowF (R:Nat) (f:Fds) (w:World):Prop where
 c:w.rangeAt R 0 (fdsL f)
 fr:∀(o:Nat),w.frozen? ⟨R,o,none⟩=false
theorem RowF.lt {R:Nat} {f:Fds} {w:World} (h:RowF R f w):R<w.heap.size:=by
 have:=h.c 0 (.bool (f 0).there) rfl;exact lt_of_cell this
theorem RowF.kp {R:Nat} {f:Fds} {w W:World} {p:Nat→Prop} (h:RowF R f w) (k:KP p w W) (hR:¬p R):RowF R f W:=⟨fun j v e=>k.keep hR (h.c j v e),fun o=>(k.frozen h.lt hR).trans (h.fr o)⟩
theorem RowF.there {R:Nat} {f:Fds} {w:World} (h:RowF R f w):w.there R 0 50:=fun j hj=>by
 have e:∃v,(fdsL f)[j]?=some v:=⟨(fdsL f)[j]'(by rw [fdsL_len];exact hj),by simp⟩;obtain⟨v,hv⟩:=e;exact⟨by rw [h.c j v hv];rfl,h.fr _⟩
theorem KP.setCells {p:Nat→Prop} {w:World} {R:Nat} (hR:p R):∀(vs:List Value) (o:Nat) {W:World},KP p w W→KP p w (W.setCells R o vs)
  | [],_,_,h=>h
  | v :: vs, o, W, h => by
    rw [World.setCells];exact KP.setCells hR vs (o+1) (h.setCell hR v)
def atF (b:Bk) (days sown:List Int) (ou:Nat→Bool) (day d:Nat):Fds:=if day<d then (stateS b days sown ou (day+1)).getD (fun _=>Fd.zero) else fun _=>Fd.zero
theorem dayS_skip {b:Bk} {days:List Int} {ou:Nat→Bool} {d i:Nat} {f g:Fds} (h:dayS b days ou d i f=some g) (hn:¬(days.getD i 0=(d:Int)∧ou i=false)):dayS b days ou d (i+1) f=some g:=by
 rw [dayS_next,h];unfold stepS;rw [Option.bind_some,if_neg hn]
theorem dayS_do {b:Bk} {days:List Int} {ou:Nat→Bool} {d i:Nat} {f g:Fds} (h:dayS b days ou d i f=some g) (h1:days.getD i 0=(d:Int)) (h2:ou i=false):dayS b days ou d (i+1) f=happenS b i d g:=by
 rw [dayS_next,h];unfold stepS;rw [Option.bind_some,if_pos ⟨h1,h2⟩]
theorem state_next {b:Bk} {days sown:List Int} {ou:Nat→Bool} {d:Nat} {f g:Fds} (h:stateS b days sown ou d=some f) (k:dayS b days ou d b.ents.length f=some g):stateS b days sown ou (d+1)=some g:=by
 simp only [stateS,h,Option.bind_some,k]
theorem play_none {b:Bk} {days sown:List Int} {ou:Nat→Bool} {d i day:Nat} {f:Fds} (h:stateS b days sown ou d=some f) (k:dayS b days ou d (i+1) f=none) (hi:i<b.ents.length) (hd:d<b.last.toNat+1):playB b days sown day ou=none:=by
 have h1:dayS b days ou d b.ents.length f=none:=by
  have:=dayS_none k (b.ents.length - (i+1));rwa [show i+1+(b.ents.length - (i+1))=b.ents.length by omega] at this
 have h2:stateS b days sown ou (d+1)=none:=by simp only [stateS,h,Option.bind_some,h1]
 have h3:=stateS_none h2 (b.last.toNat+1 - (d+1));rw [show d+1+(b.last.toNat+1 - (d+1))=b.last.toNat+1 by omega] at h3;unfold playB;rw [h3];rfl
theorem play_some {b:Bk} {days sown:List Int} {ou:Nat→Bool} {day:Nat} {f:Fds} (h:stateS b days sown ou (b.last.toNat+1)=some f) (hd:day<b.last.toNat+1):playB b days sown day ou=some (atF b days sown ou day (b.last.toNat+1)):=by
  unfold playB atF;rw [h,Option.bind_some,if_pos hd];cases e:stateS b days sown ou (day+1) with
  |some g=>rfl
  | none =>
    have h3:=stateS_none e (b.last.toNat+1 - (day+1));rw [show day+1+(b.last.toNat+1 - (day+1))=b.last.toNat+1 by omega,h] at h3;cases h3
theorem atF_here {b:Bk} {days sown:List Int} {ou:Nat→Bool} {d:Nat} {g:Fds} (h:stateS b days sown ou (d+1)=some g):atF b days sown ou d (d+1)=g:=by
 unfold atF;rw [if_pos (by omega),h];rfl
theorem atF_else {b:Bk} {days sown:List Int} {ou:Nat→Bool} {day d:Nat} (h:d≠day):atF b days sown ou day (d+1)=atF b days sown ou day d:=by
 unfold atF;by_cases l:day<d
 ·rw [if_pos l,if_pos (by omega)]
 ·rw [if_neg l,if_neg (by omega)]
theorem RowF.put {R:Nat} {f g:Fds} {w:World} (h:RowF R f w):RowF R g (w.setCells R 0 (fdsL g)):=
 ⟨World.rangeAt_setCells_same w R 0 (fdsL g) (by rw [fdsL_len];exact h.there),fun o=>by rw [World.frozen?_setCells];exact h.fr o⟩
theorem KP.weak {p q:Nat→Prop} {w w':World} (h:KP p w w') (hq:∀k,p k→q k):KP q w w':=⟨h.os,h.tape,h.output,h.size,fun k hk hn=>h.block k hk (fun e=>hn (hq k e))⟩
theorem lt_of_cell' {w:World} {b o:Nat} {v:Value} (h:w.cell? ⟨b,o,none⟩=some v):b<w.heap.size:=lt_of_cell h
end Go.Hs
namespace Go.Proofs.YtegkdnfeceomdaaGreat
open Go.RowKit Go.Hs
attribute [local irreducible] World.setCell World.alloc
theorem size_fields:(Tryz.prog.info? 198).map (·.size)=some 50:=by kernel_rfl
theorem load_fields (R:Nat) (f:Fds) (W:World) (h:RowF R f W):(Instr.loadAt 198 (.pointer (some ⟨R,0,none⟩))).run Tryz.prog W= .ok (.agg (fdsL f).toArray) W:=
 run_loadAt_mid W _ _ 198 _ _ h.c Tryz.underlying198 rfl (by rw [fdsL_len];exact size_fields)
theorem load_work (P:Nat) (c0 c1 c2 c3:Value) (f:Fds) (W:World) (h:WkAt P c0 c1 c2 c3 f W):(Instr.loadAt 198 (.pointer (some ⟨P,4,none⟩))).run Tryz.prog W= .ok (.agg (fdsL f).toArray) W:=
 run_loadAt_mid W _ _ 198 _ _ (range_fds h.fd) Tryz.underlying198 rfl (by rw [fdsL_len];exact size_fields)
theorem store_fields (R:Nat) (f g:Fds) (W:World) (h:RowF R f W):(Instr.storeAt 198 (.pointer (some ⟨R,0,none⟩)) (.agg (fdsL g).toArray)).run Tryz.prog W= .ok () (W.setCells R 0 (fdsL g)):=by
 have:=run_storeAt_mid (P:=Tryz.prog) W R 0 198 (fdsL g).toArray (by rw [List.size_toArray,fdsL_len];exact h.there) (by rw [List.size_toArray,fdsL_len];exact size_fields) (all_oneCell_toArray (fdsL_one g));rw [this]
theorem loadVar_fields (R:Nat) (f:Fds) (W:World) (h:RowF R f W):(loadVar 198 ⟨R,0,none⟩).run Tryz.prog W= .ok (.agg (fdsL f).toArray) W:=
 run_loadVar_mid W _ _ 198 _ _ h.c Tryz.underlying198 rfl (by rw [fdsL_len];exact size_fields)
theorem index_act0 (w:World):(Instr.index 257 (.agg #[.func (.func 184) #[] #[],.func (.func 185) #[] #[],.func (.func 186) #[] #[],.func (.func 187) #[] #[]]) (.int .i64 0)).run Tryz.prog w= .ok (.agg #[.func (.func 184) #[] #[]]) w:=by kernel_rfl
theorem index_act1 (w:World):(Instr.index 257 (.agg #[.func (.func 184) #[] #[],.func (.func 185) #[] #[],.func (.func 186) #[] #[],.func (.func 187) #[] #[]]) (.int .i64 1)).run Tryz.prog w= .ok (.agg #[.func (.func 185) #[] #[]]) w:=by kernel_rfl
theorem index_act2 (w:World):(Instr.index 257 (.agg #[.func (.func 184) #[] #[],.func (.func 185) #[] #[],.func (.func 186) #[] #[],.func (.func 187) #[] #[]]) (.int .i64 2)).run Tryz.prog w= .ok (.agg #[.func (.func 186) #[] #[]]) w:=by kernel_rfl
theorem index_act3 (w:World):(Instr.index 257 (.agg #[.func (.func 184) #[] #[],.func (.func 185) #[] #[],.func (.func 186) #[] #[],.func (.func 187) #[] #[]]) (.int .i64 3)).run Tryz.prog w= .ok (.agg #[.func (.func 187) #[] #[]]) w:=by kernel_rfl
theorem field_act (x:Value) (w:World):(Instr.field 256 (.agg #[x]) 0).run Tryz.prog w= .ok x w:=by
 kernel_rfl
theorem play_p (b : Bk) (hb : BkS b) (a1 a2 : Option Addr) (c1 c2 : Nat) (vd vs vo : Value) (days sown out : List Int) (day : Nat) (w : World) (hv : BkV w (bkV a1 b.pars.length c1 a2 b.ents.length c2 b.last b.owners) b)
    (hd:IntsV w vd days) (hs:IntsV w vs sown) (ho:IntsV w vo out) (hdl:days.length=b.ents.length) (hsl:sown.length=b.pars.length) (hday:(day:Int)≤b.last):
    Calls Tryz.prog 163 #[bkV a1 b.pars.length c1 a2 b.ents.length c2 b.last b.owners,.agg #[vd,vs],.int .i64 day,vo] w fun e w'=>(∃g,e= .returned (.tuple #[.agg (fdsL g).toArray,.bool (playB b days sown day (fun i=>decide ((i:Int)∈out))).isSome])∧∀f,playB b days sown day (fun i=>decide ((i:Int)∈out))=some f→g=f)∧Ext w w':=by
  obtain⟨a1',c1',a2',c2',hbe,hp,he,hp1,he1,hp2,he2⟩:=hv.open;simp only [bkV,Value.agg.injEq,Array.mk.injEq,List.cons.injEq,Value.slice.injEq,Value.int.injEq,true_and,and_true] at hbe;obtain⟨⟨rfl,rfl⟩,rfl,rfl⟩:=hbe;have HBG:Hid (∀W,Ext w W→Calls Tryz.prog 178 #[bkV a1 b.pars.length c1 a2 b.ents.length c2 b.last b.owners,vs] W fun e w'=>∃P,e= .returned (.pointer (some ⟨P,0,none⟩))∧W.heap.size≤P∧WkAt P (.int .i64 b.last) (.int .i64 b.owners) (.slice a1 b.pars.length c1) (.slice a2 b.ents.length c2) (beginS b sown) w'∧Ext W w'):=hHd (fun W hx=>begin_p b vs sown a1 a2 c1 c2 W (hp.ext hx) (hs.ext hx) hb.pars hsl);have HV:=hHd hv;have HCN:Hid (∀(i:Nat) W,Ext w W→Calls Tryz.prog 105 #[vo,.int .i64 i] W fun e w'=>e= .returned (.bool (decide ((i:Int)∈out)))∧Ext W w'):=hHd (fun i W hx=>contains_p vo out i W (ho.ext hx))
  have HACT:Hid (∀P,w.heap.size≤P→∀(i:Nat) (hi:i<b.ents.length) (f:Fds) (d:Int) W,Ext w W→FdsOK f→WkAt P (.int .i64 b.last) (.int .i64 b.owners) (.slice a1 b.pars.length c1) (.slice a2 b.ents.length c2) f W→Calls Tryz.prog (actId (b.ents[i]).kind) #[.pointer (some ⟨P,0,none⟩),.int .i64 i,.int .i64 d] W (ActQ b i d P (.int .i64 b.last) (.int .i64 b.owners) (.slice a1 b.pars.length c1) (.slice a2 b.ents.length c2) f W)):=hHd (fun P hP i hi f d W hx hf hW=>by
    obtain⟨B,off,e,hce⟩:=he.ext hx i (by simpa using hi);have e1:(b.ents.map Ent.c)[i]'(by simpa using hi)=(b.ents[i]).c:=by simp
    rw [e1] at hce;exact act_p b hb P _ _ _ a2 c2 f i d W hW hi ⟨B,off,e,hce⟩ (fun W' hk=>hv.ext (KP.toExt hk hx (fun k hk=>by rw [hk];exact hP))) hf)
  have HAC:=hHd acts_p;have HKD:Hid (∀i (hi:i<b.ents.length),(b.ents[i]).kind=0∨(b.ents[i]).kind=1∨(b.ents[i]).kind=2∨(b.ents[i]).kind=3):=hHd (fun i hi=>by obtain⟨p,h⟩:=ent_ok hb (List.getElem_mem hi);exact h.kind);have HOK:Hid (∀i,i<b.ents.length→∀(d:Int) f g,FdsOK f→happenS b i d f=some g→FdsOK g):=hHd (fun i hi d f g hf h=>happen_ok hb hi hf h);have HBE:=hHd (begin_ok hb sown);obtain⟨a5,c5,rfl,hd1,hd2,hdr⟩:=hd;obtain⟨a6,c6,rfl,-,-,-⟩:=hs;rw [hdl] at hd1
  have HDR:Hid (∀i,i<b.ents.length→∃B off,a5=some ⟨B,off,none⟩∧∀W,Ext w W→W.cell? ⟨B,off+i,none⟩=some (.int .i64 (days.getD i 0))):=hHd (fun i hi=>by
    obtain⟨B,off,e,hc,-⟩:=hdr i (by omega);rw [Nat.mul_one] at hc;refine⟨B,off,e,fun W hx=>hx.keep ?_⟩
    rw [hc];simp [show i<days.length by omega])
  have HER:Hid (∀i (hi:i<b.ents.length),∃B off,a2=some ⟨B,off,none⟩∧∀W,Ext w W→W.cell? ⟨B,off+i*8,none⟩=some (.int .i64 (b.ents[i]).kind)):=hHd (fun i hi=>by
    obtain⟨B,off,e,hce⟩:=he i (by simpa using hi);have e1:(b.ents.map Ent.c)[i]'(by simpa using hi)=(b.ents[i]).c:=by simp
    rw [e1] at hce;exact⟨B,off,e,fun W hx=>hx.keep hce.1⟩)
  have hlast:=hb.last;obtain⟨D,hD⟩:∃D,D=b.last.toNat+1:=⟨_,rfl⟩;have hDI:b.last+1=(D:Int):=by omega
  have hw:IntKind.i64.wrap (D:Int)=(D:Int):=IntWalk.i64_in _ (by omega);have hdD:day<D:=by omega
  have hD31:D≤31:=by omega
  have hdl':=hdl;rw [hdl,hsl];rw [hsl] at HBG;have HDL:=hHd hdl';generalize hou:(fun i:Nat=>decide ((i:Int)∈out))=ou;have HOU:Hid (∀i:Nat,decide ((i:Int)∈out)=ou i):=hHd (fun i=>by rw [←hou]);have HPN:Hid (∀d i f,stateS b days sown ou d=some f→dayS b days ou d (i+1) f=none→i<b.ents.length→d<D→playB b days sown day ou=none):=hHd (fun d i f h k hi hd=>play_none h k hi (by omega));have HPS:Hid (∀f,stateS b days sown ou D=some f→playB b days sown day ou=some (atF b days sown ou day D)):=hHd (fun f h=>by subst hD;exact play_some h hdD);clear hv hp he hdr hdl hdl' hsl ho hb hou hD hlast;unfold bkV at*;generalize hpb:playB b days sown day ou=pb at*;clear hpb;go_enter Tryz.func163,Tryz.ntmps163
  (go_wp2_with fail);obtain⟨W0,hW0⟩:∃x,x=(((w.alloc (.cells #[.int .i64 b.last,.int .i64 b.owners,.slice a1 b.pars.length c1,.slice a2 b.ents.length c2] 52)).alloc (.cells #[.slice a5 b.ents.length c5,.slice a6 b.pars.length c6] 59)).alloc (.cells #[.bool false,.bool false,.int .i64 0,.int .i64 0,.int .i64 0,.bool false,.bool false,.int .i64 0,.int .i64 0,.int .i64 0,.bool false,.bool false,.int .i64 0,.int .i64 0,.int .i64 0,.bool false,.bool false,.int .i64 0,.int .i64 0,.int .i64 0,.bool false,.bool false,.int .i64 0,.int .i64 0,.int .i64 0,.bool false,.bool false,.int .i64 0,.int .i64 0,.int .i64 0,.bool false,.bool false,.int .i64 0,.int .i64 0,.int .i64 0,.bool false,.bool false,.int .i64 0,.int .i64 0,.int .i64 0,.bool false,.bool false,.int .i64 0,.int .i64 0,.int .i64 0,.bool false,.bool false,.int .i64 0,.int .i64 0,.int .i64 0] 198)):=⟨_,rfl⟩;have X:Ext w W0:=by rw [hW0];exact EX
  have q0:W0.cell? ⟨w.heap.size,0,none⟩=some (.int .i64 b.last):=by rw [hW0];simp [go_sem]
  have q1:W0.cell? ⟨w.heap.size,1,none⟩=some (.int .i64 b.owners):=by rw [hW0];simp [go_sem]
  have q2:W0.cell? ⟨w.heap.size,2,none⟩=some (.slice a1 b.pars.length c1):=by rw [hW0];simp [go_sem]
  have q3:W0.cell? ⟨w.heap.size,3,none⟩=some (.slice a2 b.ents.length c2):=by rw [hW0];simp [go_sem]
  have t0:W0.cell? ⟨w.heap.size+1,0,none⟩=some (.slice a5 b.ents.length c5):=by rw [hW0];simp [go_sem]
  have hR0:RowF (w.heap.size+1+1) (fun _=>Fd.zero) W0:=by rw [hW0];exact⟨range_fds (fun i hi=>by
    rcases i with _|_|_|_|_|_|_|_|_|_|i
    all_goals first|omega|exact⟨by simp [go_sem,Fd.zero],by simp [go_sem,Fd.zero],by simp [go_sem,Fd.zero],by simp [go_sem,Fd.zero],by simp [go_sem,Fd.zero]⟩),fun o=>by simp [go_sem]⟩
  have hsz0:w.heap.size+1+1<W0.heap.size:=by rw [hW0];simp
  rw [←hW0];clear hW0;(with_reducible refine(HBG.out _ X).mono ?_);rintro e w1 ⟨P,rfl,hP,hW,hx1⟩;have hPR:w.heap.size+1+1<P:=by omega
  have X1:Ext w w1:=X.trans hx1;replace q0:=hx1.keep q0;replace q1:=hx1.keep q1;replace q2:=hx1.keep q2;replace q3:=hx1.keep q3;replace t0:=hx1.keep t0;have hR1:RowF (w.heap.size+1+1) (fun _=>Fd.zero) w1:=hR0.kp (p:=fun _=>False) hx1.kp id;have hwP:w.heap.size≤P:=by omega
  have hB0:¬(w.heap.size=P∨w.heap.size=w.heap.size+1+1):=by omega
  have hB1:¬(w.heap.size+1=P∨w.heap.size+1=w.heap.size+1+1):=by omega
  have HKB:Hid (∀w',KP (fun j=>j=P∨j=w.heap.size+1+1) w1 w'→(w'.cell? ⟨w.heap.size,0,none⟩=some (.int .i64 b.last)∧w'.cell? ⟨w.heap.size,1,none⟩=some (.int .i64 b.owners)∧w'.cell? ⟨w.heap.size,2,none⟩=some (.slice a1 b.pars.length c1)∧w'.cell? ⟨w.heap.size,3,none⟩=some (.slice a2 b.ents.length c2)∧w'.cell? ⟨w.heap.size+1,0,none⟩=some (.slice a5 b.ents.length c5))∧Ext w w'):=hHd (fun w' hk=>⟨⟨hk.keep hB0 q0,hk.keep hB0 q1,hk.keep hB0 q2,hk.keep hB0 q3,hk.keep hB1 t0⟩,hk.toExt X1 (fun k hk=>by rcases hk with rfl|rfl<;>omega)⟩);have HI:Hid (stateS b days sown ou 0=some (beginS b sown)∧FdsOK (beginS b sown)∧WkAt P (.int .i64 b.last) (.int .i64 b.owners) (.slice a1 b.pars.length c1) (.slice a2 b.ents.length c2) (beginS b sown) w1∧RowF (w.heap.size+1+1) (atF b days sown ou day 0) w1):=hHd ⟨rfl,HBE.out,hW,by unfold atF;rw [if_neg (by omega)];exact hR1⟩;clear hR0 hR1 hW X hx1 HBG HBE X1;(go_wp2_with fail);try rw [hDI]
  go_loopw [20] (fun s20 wr=>∃(d:Nat) (f:Fds),d≤D∧s20= .int .i64 d∧Hid (stateS b days sown ou d=some f∧FdsOK f∧WkAt P (.int .i64 b.last) (.int .i64 b.owners) (.slice a1 b.pars.length c1) (.slice a2 b.ents.length c2) f wr∧RowF (w.heap.size+1+1) (atF b days sown ou day d) wr)∧KP (fun j=>j=P∨j=w.heap.size+1+1) w1 wr) (fun s _=>D - (intOf s).toNat)
  case atStart=>exact⟨0,_,Nat.zero_le _,rfl,HI,KP.refl _⟩
  case round=>
    obtain⟨d,f,hd,rfl,HS,hk⟩:=hrel;obtain⟨wo,rfl⟩:∃x,x=wr:=⟨_,rfl⟩;clear HI;clear q0 q1 q2 q3 t0;obtain⟨⟨q0,q1,q2,q3,t0⟩,XO⟩:=HKB.out wo hk;by_cases hlt:d<D
    · have HLT := hHd hlt; (go_wp2_with fail); go_loopw [26] (fun s26 wr => ∃ (i : Nat) (g : Fds), i ≤ b.ents.length ∧ s26 = .int .i64 i ∧ Hid (dayS b days ou d i f = some g ∧ FdsOK g ∧ WkAt P (.int .i64 b.last) (.int .i64 b.owners) (.slice a1 b.pars.length c1) (.slice a2 b.ents.length c2) g wr ∧ RowF (w.heap.size + 1 + 1) (atF b days sown ou day d) wr) ∧ KP (fun j => j = P ∨ j = w.heap.size + 1 + 1) w1 wr) (fun s _ => b.ents.length - (intOf s).toNat)
      case atStart=>exact⟨0,f,Nat.zero_le _,rfl,hHd ⟨rfl,HS.out.2⟩,hk⟩
      case round =>
        obtain⟨i,g,hi,rfl,HG,hk2⟩:=hrel;obtain⟨wi,rfl⟩:∃x,x=wr:=⟨_,rfl⟩;clear q0 q1 q2 q3 t0;obtain⟨⟨q0,q1,q2,q3,t0⟩,XI⟩:=HKB.out wi hk2;by_cases hli:i<b.ents.length
        · obtain ⟨B, off, rfl, hdc⟩ := HDR.out i hli; obtain ⟨B2, off2, rfl, hek⟩ := HER.out i hli; have dc := hdc wi XI; have mk := hek wi XI; have dw := hdc w (Ext.refl w); have mw := hek w (Ext.refl w); clear hdc hek; have HCI : Hid (∀ W, Ext w W → Calls Tryz.prog 105 #[vo, .int .i64 i] W fun e w' => e = .returned (.bool (ou i)) ∧ Ext W w') := hHd (fun W hx => HOU.out i ▸ HCN.out i W hx); have HKI := hHd (HKD.out i hli); have HDY0 := hHd (fun W (hx : Ext wi W) => HACT.out P hwP i hli g (d : Int) W (XI.trans hx) HG.out.2.1 (HG.out.2.2.1.ext hx)); have hi0 : (0 : Int) ≤ (i : Int) := by omega
          have hi1:(i:Int)<(b.ents.length:Int):=by omega
          obtain⟨dy,hdy⟩:∃dy,dy=days.getD i 0:=⟨_,rfl⟩;have HDYE:=hHd hdy;rw [←hdy] at dc dw;clear hdy;generalize hkk:(b.ents[i]).kind=kk at*;clear hkk;by_cases hA:dy=(d:Int)
          · obtain ⟨oi, hoi⟩ : ∃ oi, oi = ou i := ⟨_, rfl⟩; have HOI := hHd hoi; rw [← hoi] at HCI; clear hoi; cases oi with
            | true =>
              have hdd:(dy==(d:Int))=true:=by rw [beq_iff_eq];exact hA
              clear hA HDY0;go_upto_region 8 with fail
              refine wp_region_quiet (C:=Ext wi) (by kernel_rfl) (by kernel_rfl) (Ext.drew EX) ?_
              rw [tl]
              repeat (first
                |go_big_quiet_skip
                | (go_big_quiet_want
                   first
                    |(go_big_quiet_op;go_big_quiet_on)
                    | (apply Exists.intro
                       refine⟨fun w' hxw=> ?_,?_⟩
                       focus (have q0:=hxw.keep q0;have q1:=hxw.keep q1;have q2:=hxw.keep q2;have q3:=hxw.keep q3;have t0:=hxw.keep t0;have dc:=hxw.keep dc;have mk:=hxw.keep mk;go_simp;first|exact rfl|(with_reducible refine(HCI.out w' (Ext.trans XI hxw)).mono ?_;exact fun e w'' h=>⟨h.1,hxw.trans h.2⟩))
                       simp only [Act.put,List.setIfInBounds_toArray,List.set_cons_zero,List.set_cons_succ];go_big_quiet_on)))
              refine wpQuiet_nil ?_
              intro w2 hx2
              obtain⟨wn,rfl⟩:∃x,x=w2:=⟨_,rfl⟩;have HG2:Hid (dayS b days ou d (i+1) f=some g∧FdsOK g∧WkAt P (.int .i64 b.last) (.int .i64 b.owners) (.slice a1 b.pars.length c1) (.slice (some ⟨B2,off2,none⟩) b.ents.length c2) g wn∧RowF (w.heap.size+1+1) (atF b days sown ou day d) wn):=hHd ⟨dayS_skip HG.out.1 (fun h=>by rw [←HOI.out] at h;cases h.2),HG.out.2.1,HG.out.2.2.1.ext hx2,HG.out.2.2.2.kp (p:=fun _=>False) hx2.kp id⟩;have hk3:=hk2.ext hx2;clear HG HS hk2 hx2 XI;(go_wp2_with fail);go_roundw
              case rel=>exact⟨i+1,g,by omega,by go_num,HG2,hk3⟩
              case measure=>simp [intOf];omega
            | false =>
              have HA:=hHd hA;subst hA;rcases HKI.out with rfl|rfl|rfl|rfl
              · have HDY := HDY0; simp only [actId, show ¬ (1 : Int) = 0 by decide, show ¬ (2 : Int) = 0 by decide, show ¬ (2 : Int) = 1 by decide, show ¬ (3 : Int) = 0 by decide, show ¬ (3 : Int) = 1 by decide, show ¬ (3 : Int) = 2 by decide, if_true, if_false] at HDY; clear HDY0; cases hh : happenS b i (d : Int) g with
                | none =>
                  have HHH:=hHd hh;have HDY2:=HDY.out;unfold ActQ at HDY2;rw [hh] at HDY2;simp only [Option.isSome_none] at HDY2;replace HDY:=hHd HDY2;clear HDY2 hh;have hix:=index_act0;have hfa:=field_act;have HSC:Hid (∀w',KP (fun j=>j=P) wi w'→(w'.cell? ⟨w.heap.size+1,0,none⟩=some (.slice (some ⟨B,off,none⟩) b.ents.length c5)∧w'.cell? ⟨B,off+i,none⟩=some (.int .i64 d)∧w'.cell? ⟨w.heap.size,3,none⟩=some (.slice (some ⟨B2,off2,none⟩) b.ents.length c2)∧w'.cell? ⟨B2,off2+i*8,none⟩=some (.int .i64 0))∧KP (fun j=>j=P) wi w'):=hHd (fun w' hk=>⟨⟨hk.keep (by intro e;have e':w.heap.size+1=P:=e;omega) t0,hk.keep (by have:=lt_of_cell' dw;intro e;have e':B=P:=e;omega) dc,hk.keep (by intro e;have e':w.heap.size=P:=e;omega) q3,hk.keep (by have:=lt_of_cell' mw;intro e;have e':B2=P:=e;omega) mk⟩,hk⟩);go_upto_region 8 with fail
                  go_region_held3 (fun w'=>(w'.cell? ⟨w.heap.size+1,0,none⟩=some (.slice (some ⟨B,off,none⟩) b.ents.length c5)∧w'.cell? ⟨B,off+i,none⟩=some (.int .i64 d)∧w'.cell? ⟨w.heap.size,3,none⟩=some (.slice (some ⟨B2,off2,none⟩) b.ents.length c2)∧w'.cell? ⟨B2,off2+i*8,none⟩=some (.int .i64 0))∧KP (fun j=>j=P) wi w')
                    ((refine HSC.out _ ?_;(repeat (first|exact KP.refl _|with_reducible (first|assumption|refine KP.drew ?_|refine KP.alloc ?_ _|refine KP.setCell ?_ (by assumption) _|refine KP.ext ?_ (by assumption)|refine KP.trans ?_ (by assumption)|refine Ext.kp (by assumption))))))
                    (first
                      |(go_at_call 105;(with_reducible refine(HCI.out _ (Ext.trans XI EX)).mono ?_);rintro e w5 ⟨rfl,hx5⟩)
                      |(go_at_call 179;(with_reducible refine(HAC.out _).mono ?_);rintro e w6 ⟨rfl,hx6⟩;unfold actsV)
                      |((with_reducible refine(HDY.out _ EX).mono ?_);rintro e w7 ⟨f',rfl,hf',hW7,hk7⟩))
                  all_goals
                    have hx6w:Ext wi w6:=EX;have hk8:KP (fun j=>j=P) wi w7:=hx6w.kp.trans hk7;have hrow:RowF (w.heap.size+1+1) (atF b days sown ou day d) w7:=HG.out.2.2.2.kp hk8 (by intro e;have e':w.heap.size+1+1=P:=e;omega);have hE7:Ext w w7:=hk8.toExt XI (fun k hk=>by rw [hk];omega);have HPB:=hHd (HPN.out d i f HS.out.1 (by rw [dayS_do HG.out.1 (HDYE.out.symm) HOI.out.symm];exact HHH.out) hli HLT.out);have hlF:=load_fields (w.heap.size+1+1) _ w7 hrow;have hstF:=store_fields (w.heap.size+1+1) _ (atF b days sown ou day d) w7 hrow;have HLV:=hHd (loadVar_fields (w.heap.size+1+1) _ _ (hrow.put (g:=atF b days sown ou day d)));clear hrow hW7 hk8 hk7 hf' HG HS hk2 hx5 hx6 hx6w XI q0 q1 q2 q3 t0 dc mk;go_wp2_with (first|refine step_load rfl 198 _ rfl _ _ rfl hlF ?_|refine step_store rfl 198 _ _ rfl _ _ _ rfl rfl hstF ?_)
                    exact bodyPost_ret (v:= .tuple #[.agg (fdsL (atF b days sown ou day d)).toArray,.bool false]) (results_load2 rfl _ _ _ _ _ rfl HLV.out rfl) rfl ⟨⟨_,by rw [HPB.out];rfl,fun f h=>by rw [HPB.out] at h;cases h⟩,(KP.setCells (p:=fun j=>j=w.heap.size+1+1) rfl _ _ (KP.refl w7)).toExt hE7 (fun k hk=>by rw [hk];omega)⟩
                | some g2 =>
                  have HHH:=hHd hh;have HDY2:=HDY.out;unfold ActQ at HDY2;rw [hh] at HDY2;simp only [Option.isSome_some] at HDY2;replace HDY:=hHd HDY2;clear HDY2 hh;have hix:=index_act0;have hfa:=field_act;have HSC:Hid (∀w',KP (fun j=>j=P) wi w'→(w'.cell? ⟨w.heap.size+1,0,none⟩=some (.slice (some ⟨B,off,none⟩) b.ents.length c5)∧w'.cell? ⟨B,off+i,none⟩=some (.int .i64 d)∧w'.cell? ⟨w.heap.size,3,none⟩=some (.slice (some ⟨B2,off2,none⟩) b.ents.length c2)∧w'.cell? ⟨B2,off2+i*8,none⟩=some (.int .i64 0))∧KP (fun j=>j=P) wi w'):=hHd (fun w' hk=>⟨⟨hk.keep (by intro e;have e':w.heap.size+1=P:=e;omega) t0,hk.keep (by have:=lt_of_cell' dw;intro e;have e':B=P:=e;omega) dc,hk.keep (by intro e;have e':w.heap.size=P:=e;omega) q3,hk.keep (by have:=lt_of_cell' mw;intro e;have e':B2=P:=e;omega) mk⟩,hk⟩);go_upto_region 8 with fail
                  go_region_held3 (fun w'=>(w'.cell? ⟨w.heap.size+1,0,none⟩=some (.slice (some ⟨B,off,none⟩) b.ents.length c5)∧w'.cell? ⟨B,off+i,none⟩=some (.int .i64 d)∧w'.cell? ⟨w.heap.size,3,none⟩=some (.slice (some ⟨B2,off2,none⟩) b.ents.length c2)∧w'.cell? ⟨B2,off2+i*8,none⟩=some (.int .i64 0))∧KP (fun j=>j=P) wi w')
                    ((refine HSC.out _ ?_;(repeat (first|exact KP.refl _|with_reducible (first|assumption|refine KP.drew ?_|refine KP.alloc ?_ _|refine KP.setCell ?_ (by assumption) _|refine KP.ext ?_ (by assumption)|refine KP.trans ?_ (by assumption)|refine Ext.kp (by assumption))))))
                    (first
                      |(go_at_call 105;(with_reducible refine(HCI.out _ (Ext.trans XI EX)).mono ?_);rintro e w5 ⟨rfl,hx5⟩)
                      |(go_at_call 179;(with_reducible refine(HAC.out _).mono ?_);rintro e w6 ⟨rfl,hx6⟩;unfold actsV)
                      |((with_reducible refine(HDY.out _ EX).mono ?_);rintro e w7 ⟨f',rfl,hf',hW7,hk7⟩))
                  all_goals
                    have hx6w:Ext wi w6:=EX;have hk8:KP (fun j=>j=P) wi w7:=hx6w.kp.trans hk7;have hrow:RowF (w.heap.size+1+1) (atF b days sown ou day d) w7:=HG.out.2.2.2.kp hk8 (by intro e;have e':w.heap.size+1+1=P:=e;omega);have hE7:Ext w w7:=hk8.toExt XI (fun k hk=>by rw [hk];omega);obtain rfl:f'=g2:=hf' g2 rfl;have hok:=HOK.out i hli _ _ _ HG.out.2.1 HHH.out;have HG2:Hid (dayS b days ou d (i+1) f=some f'∧FdsOK f'∧WkAt P (.int .i64 b.last) (.int .i64 b.owners) (.slice a1 b.pars.length c1) (.slice (some ⟨B2,off2,none⟩) b.ents.length c2) f' w7∧RowF (w.heap.size+1+1) (atF b days sown ou day d) w7):=hHd ⟨by rw [dayS_do HG.out.1 (HDYE.out.symm) HOI.out.symm];exact HHH.out,hok,hW7,hrow⟩;have hk9:=hk2.trans (hk8.weak (fun k hk=> .inl hk));clear hrow hE7 hok hW7 hk8 hk7 hf' HG HS hk2 hx5 hx6 hx6w XI q0 q1 q2 q3 t0 dc mk;(go_wp2_with fail);go_roundw
                    case rel=>exact⟨i+1,f',by omega,by go_num,HG2,hk9⟩
                    case measure=>simp [intOf];omega
              · have HDY := HDY0; simp only [actId, show ¬ (1 : Int) = 0 by decide, show ¬ (2 : Int) = 0 by decide, show ¬ (2 : Int) = 1 by decide, show ¬ (3 : Int) = 0 by decide, show ¬ (3 : Int) = 1 by decide, show ¬ (3 : Int) = 2 by decide, if_true, if_false] at HDY; clear HDY0; cases hh : happenS b i (d : Int) g with
                | none =>
                  have HHH:=hHd hh;have HDY2:=HDY.out;unfold ActQ at HDY2;rw [hh] at HDY2;simp only [Option.isSome_none] at HDY2;replace HDY:=hHd HDY2;clear HDY2 hh;have hix:=index_act1;have hfa:=field_act;have HSC:Hid (∀w',KP (fun j=>j=P) wi w'→(w'.cell? ⟨w.heap.size+1,0,none⟩=some (.slice (some ⟨B,off,none⟩) b.ents.length c5)∧w'.cell? ⟨B,off+i,none⟩=some (.int .i64 d)∧w'.cell? ⟨w.heap.size,3,none⟩=some (.slice (some ⟨B2,off2,none⟩) b.ents.length c2)∧w'.cell? ⟨B2,off2+i*8,none⟩=some (.int .i64 1))∧KP (fun j=>j=P) wi w'):=hHd (fun w' hk=>⟨⟨hk.keep (by intro e;have e':w.heap.size+1=P:=e;omega) t0,hk.keep (by have:=lt_of_cell' dw;intro e;have e':B=P:=e;omega) dc,hk.keep (by intro e;have e':w.heap.size=P:=e;omega) q3,hk.keep (by have:=lt_of_cell' mw;intro e;have e':B2=P:=e;omega) mk⟩,hk⟩);go_upto_region 8 with fail
                  go_region_held3 (fun w'=>(w'.cell? ⟨w.heap.size+1,0,none⟩=some (.slice (some ⟨B,off,none⟩) b.ents.length c5)∧w'.cell? ⟨B,off+i,none⟩=some (.int .i64 d)∧w'.cell? ⟨w.heap.size,3,none⟩=some (.slice (some ⟨B2,off2,none⟩) b.ents.length c2)∧w'.cell? ⟨B2,off2+i*8,none⟩=some (.int .i64 1))∧KP (fun j=>j=P) wi w')
                    ((refine HSC.out _ ?_;(repeat (first|exact KP.refl _|with_reducible (first|assumption|refine KP.drew ?_|refine KP.alloc ?_ _|refine KP.setCell ?_ (by assumption) _|refine KP.ext ?_ (by assumption)|refine KP.trans ?_ (by assumption)|refine Ext.kp (by assumption))))))
                    (first
                      |(go_at_call 105;(with_reducible refine(HCI.out _ (Ext.trans XI EX)).mono ?_);rintro e w5 ⟨rfl,hx5⟩)
                      |(go_at_call 179;(with_reducible refine(HAC.out _).mono ?_);rintro e w6 ⟨rfl,hx6⟩;unfold actsV)
                      |((with_reducible refine(HDY.out _ EX).mono ?_);rintro e w7 ⟨f',rfl,hf',hW7,hk7⟩))
                  all_goals
                    have hx6w:Ext wi w6:=EX;have hk8:KP (fun j=>j=P) wi w7:=hx6w.kp.trans hk7;have hrow:RowF (w.heap.size+1+1) (atF b days sown ou day d) w7:=HG.out.2.2.2.kp hk8 (by intro e;have e':w.heap.size+1+1=P:=e;omega);have hE7:Ext w w7:=hk8.toExt XI (fun k hk=>by rw [hk];omega);have HPB:=hHd (HPN.out d i f HS.out.1 (by rw [dayS_do HG.out.1 (HDYE.out.symm) HOI.out.symm];exact HHH.out) hli HLT.out);have hlF:=load_fields (w.heap.size+1+1) _ w7 hrow;have hstF:=store_fields (w.heap.size+1+1) _ (atF b days sown ou day d) w7 hrow;have HLV:=hHd (loadVar_fields (w.heap.size+1+1) _ _ (hrow.put (g:=atF b days sown ou day d)));clear hrow hW7 hk8 hk7 hf' HG HS hk2 hx5 hx6 hx6w XI q0 q1 q2 q3 t0 dc mk;go_wp2_with (first|refine step_load rfl 198 _ rfl _ _ rfl hlF ?_|refine step_store rfl 198 _ _ rfl _ _ _ rfl rfl hstF ?_)
                    exact bodyPost_ret (v:= .tuple #[.agg (fdsL (atF b days sown ou day d)).toArray,.bool false]) (results_load2 rfl _ _ _ _ _ rfl HLV.out rfl) rfl ⟨⟨_,by rw [HPB.out];rfl,fun f h=>by rw [HPB.out] at h;cases h⟩,(KP.setCells (p:=fun j=>j=w.heap.size+1+1) rfl _ _ (KP.refl w7)).toExt hE7 (fun k hk=>by rw [hk];omega)⟩
                | some g2 =>
                  have HHH:=hHd hh;have HDY2:=HDY.out;unfold ActQ at HDY2;rw [hh] at HDY2;simp only [Option.isSome_some] at HDY2;replace HDY:=hHd HDY2;clear HDY2 hh;have hix:=index_act1;have hfa:=field_act;have HSC:Hid (∀w',KP (fun j=>j=P) wi w'→(w'.cell? ⟨w.heap.size+1,0,none⟩=some (.slice (some ⟨B,off,none⟩) b.ents.length c5)∧w'.cell? ⟨B,off+i,none⟩=some (.int .i64 d)∧w'.cell? ⟨w.heap.size,3,none⟩=some (.slice (some ⟨B2,off2,none⟩) b.ents.length c2)∧w'.cell? ⟨B2,off2+i*8,none⟩=some (.int .i64 1))∧KP (fun j=>j=P) wi w'):=hHd (fun w' hk=>⟨⟨hk.keep (by intro e;have e':w.heap.size+1=P:=e;omega) t0,hk.keep (by have:=lt_of_cell' dw;intro e;have e':B=P:=e;omega) dc,hk.keep (by intro e;have e':w.heap.size=P:=e;omega) q3,hk.keep (by have:=lt_of_cell' mw;intro e;have e':B2=P:=e;omega) mk⟩,hk⟩);go_upto_region 8 with fail
                  go_region_held3 (fun w'=>(w'.cell? ⟨w.heap.size+1,0,none⟩=some (.slice (some ⟨B,off,none⟩) b.ents.length c5)∧w'.cell? ⟨B,off+i,none⟩=some (.int .i64 d)∧w'.cell? ⟨w.heap.size,3,none⟩=some (.slice (some ⟨B2,off2,none⟩) b.ents.length c2)∧w'.cell? ⟨B2,off2+i*8,none⟩=some (.int .i64 1))∧KP (fun j=>j=P) wi w')
                    ((refine HSC.out _ ?_;(repeat (first|exact KP.refl _|with_reducible (first|assumption|refine KP.drew ?_|refine KP.alloc ?_ _|refine KP.setCell ?_ (by assumption) _|refine KP.ext ?_ (by assumption)|refine KP.trans ?_ (by assumption)|refine Ext.kp (by assumption))))))
                    (first
                      |(go_at_call 105;(with_reducible refine(HCI.out _ (Ext.trans XI EX)).mono ?_);rintro e w5 ⟨rfl,hx5⟩)
                      |(go_at_call 179;(with_reducible refine(HAC.out _).mono ?_);rintro e w6 ⟨rfl,hx6⟩;unfold actsV)
                      |((with_reducible refine(HDY.out _ EX).mono ?_);rintro e w7 ⟨f',rfl,hf',hW7,hk7⟩))
                  all_goals
                    have hx6w:Ext wi w6:=EX;have hk8:KP (fun j=>j=P) wi w7:=hx6w.kp.trans hk7;have hrow:RowF (w.heap.size+1+1) (atF b days sown ou day d) w7:=HG.out.2.2.2.kp hk8 (by intro e;have e':w.heap.size+1+1=P:=e;omega);have hE7:Ext w w7:=hk8.toExt XI (fun k hk=>by rw [hk];omega);obtain rfl:f'=g2:=hf' g2 rfl;have hok:=HOK.out i hli _ _ _ HG.out.2.1 HHH.out;have HG2:Hid (dayS b days ou d (i+1) f=some f'∧FdsOK f'∧WkAt P (.int .i64 b.last) (.int .i64 b.owners) (.slice a1 b.pars.length c1) (.slice (some ⟨B2,off2,none⟩) b.ents.length c2) f' w7∧RowF (w.heap.size+1+1) (atF b days sown ou day d) w7):=hHd ⟨by rw [dayS_do HG.out.1 (HDYE.out.symm) HOI.out.symm];exact HHH.out,hok,hW7,hrow⟩;have hk9:=hk2.trans (hk8.weak (fun k hk=> .inl hk));clear hrow hE7 hok hW7 hk8 hk7 hf' HG HS hk2 hx5 hx6 hx6w XI q0 q1 q2 q3 t0 dc mk;(go_wp2_with fail);go_roundw
                    case rel=>exact⟨i+1,f',by omega,by go_num,HG2,hk9⟩
                    case measure=>simp [intOf];omega
              · have HDY := HDY0; simp only [actId, show ¬ (1 : Int) = 0 by decide, show ¬ (2 : Int) = 0 by decide, show ¬ (2 : Int) = 1 by decide, show ¬ (3 : Int) = 0 by decide, show ¬ (3 : Int) = 1 by decide, show ¬ (3 : Int) = 2 by decide, if_true, if_false] at HDY; clear HDY0; cases hh : happenS b i (d : Int) g with
                | none =>
                  have HHH:=hHd hh;have HDY2:=HDY.out;unfold ActQ at HDY2;rw [hh] at HDY2;simp only [Option.isSome_none] at HDY2;replace HDY:=hHd HDY2;clear HDY2 hh;have hix:=index_act2;have hfa:=field_act;have HSC:Hid (∀w',KP (fun j=>j=P) wi w'→(w'.cell? ⟨w.heap.size+1,0,none⟩=some (.slice (some ⟨B,off,none⟩) b.ents.length c5)∧w'.cell? ⟨B,off+i,none⟩=some (.int .i64 d)∧w'.cell? ⟨w.heap.size,3,none⟩=some (.slice (some ⟨B2,off2,none⟩) b.ents.length c2)∧w'.cell? ⟨B2,off2+i*8,none⟩=some (.int .i64 2))∧KP (fun j=>j=P) wi w'):=hHd (fun w' hk=>⟨⟨hk.keep (by intro e;have e':w.heap.size+1=P:=e;omega) t0,hk.keep (by have:=lt_of_cell' dw;intro e;have e':B=P:=e;omega) dc,hk.keep (by intro e;have e':w.heap.size=P:=e;omega) q3,hk.keep (by have:=lt_of_cell' mw;intro e;have e':B2=P:=e;omega) mk⟩,hk⟩);go_upto_region 8 with fail
                  go_region_held3 (fun w'=>(w'.cell? ⟨w.heap.size+1,0,none⟩=some (.slice (some ⟨B,off,none⟩) b.ents.length c5)∧w'.cell? ⟨B,off+i,none⟩=some (.int .i64 d)∧w'.cell? ⟨w.heap.size,3,none⟩=some (.slice (some ⟨B2,off2,none⟩) b.ents.length c2)∧w'.cell? ⟨B2,off2+i*8,none⟩=some (.int .i64 2))∧KP (fun j=>j=P) wi w')
                    ((refine HSC.out _ ?_;(repeat (first|exact KP.refl _|with_reducible (first|assumption|refine KP.drew ?_|refine KP.alloc ?_ _|refine KP.setCell ?_ (by assumption) _|refine KP.ext ?_ (by assumption)|refine KP.trans ?_ (by assumption)|refine Ext.kp (by assumption))))))
                    (first
                      |(go_at_call 105;(with_reducible refine(HCI.out _ (Ext.trans XI EX)).mono ?_);rintro e w5 ⟨rfl,hx5⟩)
                      |(go_at_call 179;(with_reducible refine(HAC.out _).mono ?_);rintro e w6 ⟨rfl,hx6⟩;unfold actsV)
                      |((with_reducible refine(HDY.out _ EX).mono ?_);rintro e w7 ⟨f',rfl,hf',hW7,hk7⟩))
                  all_goals
                    have hx6w:Ext wi w6:=EX;have hk8:KP (fun j=>j=P) wi w7:=hx6w.kp.trans hk7;have hrow:RowF (w.heap.size+1+1) (atF b days sown ou day d) w7:=HG.out.2.2.2.kp hk8 (by intro e;have e':w.heap.size+1+1=P:=e;omega);have hE7:Ext w w7:=hk8.toExt XI (fun k hk=>by rw [hk];omega);have HPB:=hHd (HPN.out d i f HS.out.1 (by rw [dayS_do HG.out.1 (HDYE.out.symm) HOI.out.symm];exact HHH.out) hli HLT.out);have hlF:=load_fields (w.heap.size+1+1) _ w7 hrow;have hstF:=store_fields (w.heap.size+1+1) _ (atF b days sown ou day d) w7 hrow;have HLV:=hHd (loadVar_fields (w.heap.size+1+1) _ _ (hrow.put (g:=atF b days sown ou day d)));clear hrow hW7 hk8 hk7 hf' HG HS hk2 hx5 hx6 hx6w XI q0 q1 q2 q3 t0 dc mk;go_wp2_with (first|refine step_load rfl 198 _ rfl _ _ rfl hlF ?_|refine step_store rfl 198 _ _ rfl _ _ _ rfl rfl hstF ?_)
                    exact bodyPost_ret (v:= .tuple #[.agg (fdsL (atF b days sown ou day d)).toArray,.bool false]) (results_load2 rfl _ _ _ _ _ rfl HLV.out rfl) rfl ⟨⟨_,by rw [HPB.out];rfl,fun f h=>by rw [HPB.out] at h;cases h⟩,(KP.setCells (p:=fun j=>j=w.heap.size+1+1) rfl _ _ (KP.refl w7)).toExt hE7 (fun k hk=>by rw [hk];omega)⟩
                | some g2 =>
                  have HHH:=hHd hh;have HDY2:=HDY.out;unfold ActQ at HDY2;rw [hh] at HDY2;simp only [Option.isSome_some] at HDY2;replace HDY:=hHd HDY2;clear HDY2 hh;have hix:=index_act2;have hfa:=field_act;have HSC:Hid (∀w',KP (fun j=>j=P) wi w'→(w'.cell? ⟨w.heap.size+1,0,none⟩=some (.slice (some ⟨B,off,none⟩) b.ents.length c5)∧w'.cell? ⟨B,off+i,none⟩=some (.int .i64 d)∧w'.cell? ⟨w.heap.size,3,none⟩=some (.slice (some ⟨B2,off2,none⟩) b.ents.length c2)∧w'.cell? ⟨B2,off2+i*8,none⟩=some (.int .i64 2))∧KP (fun j=>j=P) wi w'):=hHd (fun w' hk=>⟨⟨hk.keep (by intro e;have e':w.heap.size+1=P:=e;omega) t0,hk.keep (by have:=lt_of_cell' dw;intro e;have e':B=P:=e;omega) dc,hk.keep (by intro e;have e':w.heap.size=P:=e;omega) q3,hk.keep (by have:=lt_of_cell' mw;intro e;have e':B2=P:=e;omega) mk⟩,hk⟩);go_upto_region 8 with fail
                  go_region_held3 (fun w'=>(w'.cell? ⟨w.heap.size+1,0,none⟩=some (.slice (some ⟨B,off,none⟩) b.ents.length c5)∧w'.cell? ⟨B,off+i,none⟩=some (.int .i64 d)∧w'.cell? ⟨w.heap.size,3,none⟩=some (.slice (some ⟨B2,off2,none⟩) b.ents.length c2)∧w'.cell? ⟨B2,off2+i*8,none⟩=some (.int .i64 2))∧KP (fun j=>j=P) wi w')
                    ((refine HSC.out _ ?_;(repeat (first|exact KP.refl _|with_reducible (first|assumption|refine KP.drew ?_|refine KP.alloc ?_ _|refine KP.setCell ?_ (by assumption) _|refine KP.ext ?_ (by assumption)|refine KP.trans ?_ (by assumption)|refine Ext.kp (by assumption))))))
                    (first
                      |(go_at_call 105;(with_reducible refine(HCI.out _ (Ext.trans XI EX)).mono ?_);rintro e w5 ⟨rfl,hx5⟩)
                      |(go_at_call 179;(with_reducible refine(HAC.out _).mono ?_);rintro e w6 ⟨rfl,hx6⟩;unfold actsV)
                      |((with_reducible refine(HDY.out _ EX).mono ?_);rintro e w7 ⟨f',rfl,hf',hW7,hk7⟩))
                  all_goals
                    have hx6w:Ext wi w6:=EX;have hk8:KP (fun j=>j=P) wi w7:=hx6w.kp.trans hk7;have hrow:RowF (w.heap.size+1+1) (atF b days sown ou day d) w7:=HG.out.2.2.2.kp hk8 (by intro e;have e':w.heap.size+1+1=P:=e;omega);have hE7:Ext w w7:=hk8.toExt XI (fun k hk=>by rw [hk];omega);obtain rfl:f'=g2:=hf' g2 rfl;have hok:=HOK.out i hli _ _ _ HG.out.2.1 HHH.out;have HG2:Hid (dayS b days ou d (i+1) f=some f'∧FdsOK f'∧WkAt P (.int .i64 b.last) (.int .i64 b.owners) (.slice a1 b.pars.length c1) (.slice (some ⟨B2,off2,none⟩) b.ents.length c2) f' w7∧RowF (w.heap.size+1+1) (atF b days sown ou day d) w7):=hHd ⟨by rw [dayS_do HG.out.1 (HDYE.out.symm) HOI.out.symm];exact HHH.out,hok,hW7,hrow⟩;have hk9:=hk2.trans (hk8.weak (fun k hk=> .inl hk));clear hrow hE7 hok hW7 hk8 hk7 hf' HG HS hk2 hx5 hx6 hx6w XI q0 q1 q2 q3 t0 dc mk;(go_wp2_with fail);go_roundw
                    case rel=>exact⟨i+1,f',by omega,by go_num,HG2,hk9⟩
                    case measure=>simp [intOf];omega
              · have HDY := HDY0; simp only [actId, show ¬ (1 : Int) = 0 by decide, show ¬ (2 : Int) = 0 by decide, show ¬ (2 : Int) = 1 by decide, show ¬ (3 : Int) = 0 by decide, show ¬ (3 : Int) = 1 by decide, show ¬ (3 : Int) = 2 by decide, if_true, if_false] at HDY; clear HDY0; cases hh : happenS b i (d : Int) g with
                | none =>
                  have HHH:=hHd hh;have HDY2:=HDY.out;unfold ActQ at HDY2;rw [hh] at HDY2;simp only [Option.isSome_none] at HDY2;replace HDY:=hHd HDY2;clear HDY2 hh;have hix:=index_act3;have hfa:=field_act;have HSC:Hid (∀w',KP (fun j=>j=P) wi w'→(w'.cell? ⟨w.heap.size+1,0,none⟩=some (.slice (some ⟨B,off,none⟩) b.ents.length c5)∧w'.cell? ⟨B,off+i,none⟩=some (.int .i64 d)∧w'.cell? ⟨w.heap.size,3,none⟩=some (.slice (some ⟨B2,off2,none⟩) b.ents.length c2)∧w'.cell? ⟨B2,off2+i*8,none⟩=some (.int .i64 3))∧KP (fun j=>j=P) wi w'):=hHd (fun w' hk=>⟨⟨hk.keep (by intro e;have e':w.heap.size+1=P:=e;omega) t0,hk.keep (by have:=lt_of_cell' dw;intro e;have e':B=P:=e;omega) dc,hk.keep (by intro e;have e':w.heap.size=P:=e;omega) q3,hk.keep (by have:=lt_of_cell' mw;intro e;have e':B2=P:=e;omega) mk⟩,hk⟩);go_upto_region 8 with fail
                  go_region_held3 (fun w'=>(w'.cell? ⟨w.heap.size+1,0,none⟩=some (.slice (some ⟨B,off,none⟩) b.ents.length c5)∧w'.cell? ⟨B,off+i,none⟩=some (.int .i64 d)∧w'.cell? ⟨w.heap.size,3,none⟩=some (.slice (some ⟨B2,off2,none⟩) b.ents.length c2)∧w'.cell? ⟨B2,off2+i*8,none⟩=some (.int .i64 3))∧KP (fun j=>j=P) wi w')
                    ((refine HSC.out _ ?_;(repeat (first|exact KP.refl _|with_reducible (first|assumption|refine KP.drew ?_|refine KP.alloc ?_ _|refine KP.setCell ?_ (by assumption) _|refine KP.ext ?_ (by assumption)|refine KP.trans ?_ (by assumption)|refine Ext.kp (by assumption))))))
                    (first
                      |(go_at_call 105;(with_reducible refine(HCI.out _ (Ext.trans XI EX)).mono ?_);rintro e w5 ⟨rfl,hx5⟩)
                      |(go_at_call 179;(with_reducible refine(HAC.out _).mono ?_);rintro e w6 ⟨rfl,hx6⟩;unfold actsV)
                      |((with_reducible refine(HDY.out _ EX).mono ?_);rintro e w7 ⟨f',rfl,hf',hW7,hk7⟩))
                  all_goals
                    have hx6w:Ext wi w6:=EX;have hk8:KP (fun j=>j=P) wi w7:=hx6w.kp.trans hk7;have hrow:RowF (w.heap.size+1+1) (atF b days sown ou day d) w7:=HG.out.2.2.2.kp hk8 (by intro e;have e':w.heap.size+1+1=P:=e;omega);have hE7:Ext w w7:=hk8.toExt XI (fun k hk=>by rw [hk];omega);have HPB:=hHd (HPN.out d i f HS.out.1 (by rw [dayS_do HG.out.1 (HDYE.out.symm) HOI.out.symm];exact HHH.out) hli HLT.out);have hlF:=load_fields (w.heap.size+1+1) _ w7 hrow;have hstF:=store_fields (w.heap.size+1+1) _ (atF b days sown ou day d) w7 hrow;have HLV:=hHd (loadVar_fields (w.heap.size+1+1) _ _ (hrow.put (g:=atF b days sown ou day d)));clear hrow hW7 hk8 hk7 hf' HG HS hk2 hx5 hx6 hx6w XI q0 q1 q2 q3 t0 dc mk;go_wp2_with (first|refine step_load rfl 198 _ rfl _ _ rfl hlF ?_|refine step_store rfl 198 _ _ rfl _ _ _ rfl rfl hstF ?_)
                    exact bodyPost_ret (v:= .tuple #[.agg (fdsL (atF b days sown ou day d)).toArray,.bool false]) (results_load2 rfl _ _ _ _ _ rfl HLV.out rfl) rfl ⟨⟨_,by rw [HPB.out];rfl,fun f h=>by rw [HPB.out] at h;cases h⟩,(KP.setCells (p:=fun j=>j=w.heap.size+1+1) rfl _ _ (KP.refl w7)).toExt hE7 (fun k hk=>by rw [hk];omega)⟩
                | some g2 =>
                  have HHH:=hHd hh;have HDY2:=HDY.out;unfold ActQ at HDY2;rw [hh] at HDY2;simp only [Option.isSome_some] at HDY2;replace HDY:=hHd HDY2;clear HDY2 hh;have hix:=index_act3;have hfa:=field_act;have HSC:Hid (∀w',KP (fun j=>j=P) wi w'→(w'.cell? ⟨w.heap.size+1,0,none⟩=some (.slice (some ⟨B,off,none⟩) b.ents.length c5)∧w'.cell? ⟨B,off+i,none⟩=some (.int .i64 d)∧w'.cell? ⟨w.heap.size,3,none⟩=some (.slice (some ⟨B2,off2,none⟩) b.ents.length c2)∧w'.cell? ⟨B2,off2+i*8,none⟩=some (.int .i64 3))∧KP (fun j=>j=P) wi w'):=hHd (fun w' hk=>⟨⟨hk.keep (by intro e;have e':w.heap.size+1=P:=e;omega) t0,hk.keep (by have:=lt_of_cell' dw;intro e;have e':B=P:=e;omega) dc,hk.keep (by intro e;have e':w.heap.size=P:=e;omega) q3,hk.keep (by have:=lt_of_cell' mw;intro e;have e':B2=P:=e;omega) mk⟩,hk⟩);go_upto_region 8 with fail
                  go_region_held3 (fun w'=>(w'.cell? ⟨w.heap.size+1,0,none⟩=some (.slice (some ⟨B,off,none⟩) b.ents.length c5)∧w'.cell? ⟨B,off+i,none⟩=some (.int .i64 d)∧w'.cell? ⟨w.heap.size,3,none⟩=some (.slice (some ⟨B2,off2,none⟩) b.ents.length c2)∧w'.cell? ⟨B2,off2+i*8,none⟩=some (.int .i64 3))∧KP (fun j=>j=P) wi w')
                    ((refine HSC.out _ ?_;(repeat (first|exact KP.refl _|with_reducible (first|assumption|refine KP.drew ?_|refine KP.alloc ?_ _|refine KP.setCell ?_ (by assumption) _|refine KP.ext ?_ (by assumption)|refine KP.trans ?_ (by assumption)|refine Ext.kp (by assumption))))))
                    (first
                      |(go_at_call 105;(with_reducible refine(HCI.out _ (Ext.trans XI EX)).mono ?_);rintro e w5 ⟨rfl,hx5⟩)
                      |(go_at_call 179;(with_reducible refine(HAC.out _).mono ?_);rintro e w6 ⟨rfl,hx6⟩;unfold actsV)
                      |((with_reducible refine(HDY.out _ EX).mono ?_);rintro e w7 ⟨f',rfl,hf',hW7,hk7⟩))
                  all_goals
                    have hx6w:Ext wi w6:=EX;have hk8:KP (fun j=>j=P) wi w7:=hx6w.kp.trans hk7;have hrow:RowF (w.heap.size+1+1) (atF b days sown ou day d) w7:=HG.out.2.2.2.kp hk8 (by intro e;have e':w.heap.size+1+1=P:=e;omega);have hE7:Ext w w7:=hk8.toExt XI (fun k hk=>by rw [hk];omega);obtain rfl:f'=g2:=hf' g2 rfl;have hok:=HOK.out i hli _ _ _ HG.out.2.1 HHH.out;have HG2:Hid (dayS b days ou d (i+1) f=some f'∧FdsOK f'∧WkAt P (.int .i64 b.last) (.int .i64 b.owners) (.slice a1 b.pars.length c1) (.slice (some ⟨B2,off2,none⟩) b.ents.length c2) f' w7∧RowF (w.heap.size+1+1) (atF b days sown ou day d) w7):=hHd ⟨by rw [dayS_do HG.out.1 (HDYE.out.symm) HOI.out.symm];exact HHH.out,hok,hW7,hrow⟩;have hk9:=hk2.trans (hk8.weak (fun k hk=> .inl hk));clear hrow hE7 hok hW7 hk8 hk7 hf' HG HS hk2 hx5 hx6 hx6w XI q0 q1 q2 q3 t0 dc mk;(go_wp2_with fail);go_roundw
                    case rel=>exact⟨i+1,f',by omega,by go_num,HG2,hk9⟩
                    case measure=>simp [intOf];omega
          · have hdd : (dy == (d : Int)) = false := by rw [beq_eq_false_iff_ne]; exact hA
            have HA:=hHd hA;clear hA HDY0;go_upto_region 8 with fail
            refine wp_region_quiet (C:=Ext wi) (by kernel_rfl) (by kernel_rfl) (Ext.drew EX) ?_
            rw [tl]
            repeat (first
              |go_big_quiet_skip
              | (go_big_quiet_want
                 first
                  |(go_big_quiet_op;go_big_quiet_on)
                  | (apply Exists.intro
                     refine⟨fun w' hxw=> ?_,?_⟩
                     focus (have q0:=hxw.keep q0;have q1:=hxw.keep q1;have q2:=hxw.keep q2;have q3:=hxw.keep q3;have t0:=hxw.keep t0;have dc:=hxw.keep dc;have mk:=hxw.keep mk;go_simp;first|exact rfl|fail)
                     simp only [Act.put,List.setIfInBounds_toArray,List.set_cons_zero,List.set_cons_succ];go_big_quiet_on)))
            refine wpQuiet_nil ?_
            intro w2 hx2
            obtain⟨wn,rfl⟩:∃x,x=w2:=⟨_,rfl⟩;have HG2:Hid (dayS b days ou d (i+1) f=some g∧FdsOK g∧WkAt P (.int .i64 b.last) (.int .i64 b.owners) (.slice a1 b.pars.length c1) (.slice (some ⟨B2,off2,none⟩) b.ents.length c2) g wn∧RowF (w.heap.size+1+1) (atF b days sown ou day d) wn):=hHd ⟨dayS_skip HG.out.1 (fun h=>HA.out (HDYE.out.trans h.1)),HG.out.2.1,HG.out.2.2.1.ext hx2,HG.out.2.2.2.kp (p:=fun _=>False) hx2.kp id⟩;have hk3:=hk2.ext hx2;clear HG HS hk2 hx2 XI;(go_wp2_with fail);go_roundw
            case rel=>exact⟨i+1,g,by omega,by go_num,HG2,hk3⟩
            case measure=>simp [intOf];omega
        · obtain rfl : i = b.ents.length := by omega
          have HSN:=hHd (state_next HS.out.1 HG.out.1);have hlt3:=HLT.out;by_cases hdd:d=day
          · have hq : ((d : Int) == (day : Int)) = true := by simp [hdd]
            have HDD:=hHd hdd;clear hdd;have hlF:=load_work P _ _ _ _ g wi HG.out.2.2.1;have hstF:=store_fields (w.heap.size+1+1) _ g wi HG.out.2.2.2;go_wp2_with (first|refine step_load rfl 198 _ rfl _ _ rfl hlF ?_|refine step_store rfl 198 _ _ rfl _ _ _ rfl rfl hstF ?_)
            go_roundw
            case rel=>exact⟨d+1,g,by have:=HLT.out;omega,by go_num,hHd ⟨HSN.out,HG.out.2.1,HG.out.2.2.1.kp (p:=fun j=>j=w.heap.size+1+1) (KP.setCells (p:=fun j=>j=w.heap.size+1+1) rfl _ _ (KP.refl _)) (by intro e;have e':P=w.heap.size+1+1:=e;omega),by rw [←HDD.out,atF_here HSN.out];exact HG.out.2.2.2.put⟩,KP.setCells (.inr rfl) _ _ hk2⟩
            case measure=>have:=HLT.out;simp [intOf];omega
          · have hq : ((d : Int) == (day : Int)) = false := by rw [beq_eq_false_iff_ne]; omega
            have HDD:=hHd hdd;clear hdd;(go_wp2_with fail);go_roundw
            case rel=>exact⟨d+1,g,by have:=HLT.out;omega,by go_num,hHd ⟨HSN.out,HG.out.2.1,HG.out.2.2.1,by rw [atF_else HDD.out];exact HG.out.2.2.2⟩,hk2⟩
            case measure=>have:=HLT.out;simp [intOf];omega
    · obtain rfl : d = D := by omega
      have hrf:=HS.out.2.2.2;have hlF:=load_fields (w.heap.size+1+1) _ wo hrf;have hstF:=store_fields (w.heap.size+1+1) _ (atF b days sown ou day d) wo hrf;have HLV:=hHd (loadVar_fields (w.heap.size+1+1) _ _ (hrf.put (g:=atF b days sown ou day d)));have HPB:=hHd (HPS.out _ HS.out.1);clear hrf;go_wp2_with (first|refine step_load rfl 198 _ rfl _ _ rfl hlF ?_|refine step_store rfl 198 _ _ rfl _ _ _ rfl rfl hstF ?_)
      exact bodyPost_ret (v:= .tuple #[.agg (fdsL (atF b days sown ou day d)).toArray,.bool true]) (results_load2 rfl _ _ _ _ _ rfl HLV.out rfl) rfl ⟨⟨_,by rw [HPB.out];rfl,fun f h=>by rw [HPB.out] at h;cases h;rfl⟩,(KP.setCells (p:=fun j=>j=w.heap.size+1+1) rfl _ _ (KP.refl wo)).toExt XO (fun k hk=>by rw [hk];omega)⟩
end Go.Proofs.YtegkdnfeceomdaaGreat
