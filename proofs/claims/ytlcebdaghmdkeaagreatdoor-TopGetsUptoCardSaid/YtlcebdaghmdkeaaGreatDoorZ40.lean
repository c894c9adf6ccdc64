import Derived.Test.YtlcebdaghmdkeaaGreatDoorZ23
import Derived.Test.YtlcebdaghmdkeaaGreatDoorZ38
set_option linter.all false
set_option maxRecDepth 100000
set_option maxHeartbeats 64000000
namespace Go.Proofs.YtlcebdaghmdkeaaGreatDoor
open Go.RowKit
def gQ (l:List Th) (name:ah):Option Th:=l.find? fun t=>decide (t.name=name)
theorem uC {l:List Th} {name:ah} {t:Th} (h:gQ l name=some t):t∈l/\t.name=name:=
 ⟨List.mem_of_find?_eq_some h,by have:=List.find?_some h;simpa using this⟩
theorem VG {l:List Th} {name:ah} (h:gQ l name=none):∀t∈l,t.name≠name:=fun t ht=>by
 have:=List.find?_eq_none.1 h t ht;simpa using this
theorem Wj {l:List Th} (hr:cn (l.map Th.name)) {t u:Th} (ht:t∈l) (hu:u∈l) (h:t.name=u.name):t=u:=by
 obtain⟨i,hi,rfl⟩:=List.getElem_of_mem ht;obtain⟨j,hj,rfl⟩:=List.getElem_of_mem hu;obtain rfl:i=j:=Wb hr hi hj h;rfl
theorem lL {l:List Th} (hr:cn (l.map Th.name)) {t:Th} (ht:t∈l):gQ l t.name=some t:=by
 cases h:gQ l t.name with
 |none=>exact absurd rfl (VG h t ht)
 |some u=>obtain⟨h1,h2⟩:=uC h;rw [Wj hr h1 ht h2]
theorem agq {l:List Th} {name:ah} (h:∀t∈l,t.name≠name):gQ l name=none:=
 List.find?_eq_none.2 fun t ht=>by simpa using h t ht
theorem afL {s s':Sv} {a:Ac} {r:Rp} (h:Step s a s' r):r.c=0\/ (r.n=0/\r.b=⟨#[]⟩/\s'.ay=s.ay/\s'.time=s.time):=by
 cases h with
 |full h=>exact .inr ⟨rfl,rfl,rfl,rfl⟩
 |no e h he=>exact .inr ⟨rfl,rfl,rfl,rfl⟩
 |tick=>exact .inl rfl
 |del=>exact .inl rfl
 |get=>exact .inl rfl
 |ord=>exact .inl rfl
 |keep=>exact .inl rfl
 |zQ=>exact .inl rfl
def Og (s:Sv) (a:Ac):Prop:=2<=a.k/\a.k<=4/\∃t,gQ s.ay a.name=some t/\a.ver≠0/\a.ver≠t.ver
theorem agr {s:Sv} {a:Ac} (hr:cn (s.ay.map Th.name)) (h:Og s a) {k:Nat} (hk:k<s.ay.length) (hn:s.ay[k].name=a.name):a.ver≠0/\a.ver≠s.ay[k].ver:=by
 obtain⟨-,-,t,ht,h0,h1⟩:=h;obtain⟨hm,hn'⟩:=uC ht;rw [<-Wj hr hm (List.getElem_mem hk) (by rw [hn',hn])];exact⟨h0,h1⟩
theorem afD {s s':Sv} {a:Ac} {r:Rp} (hr:cn (s.ay.map Th.name)) (ha:s.acts<300) (h:Step s a s' r):(Og s a->r.c=7/\s'.ay=s.ay)/\ (¬Og s a->r.c≠7):=by
 cases h with
 |full h=>omega
 |no e h he h7=>
  refine⟨fun ho=>⟨h7.2 ?_,rfl⟩,fun ho hc=>ho ?_⟩
  ·obtain⟨h2,h4,t,ht,h0,h1⟩:=ho
   obtain⟨hm,hn⟩:=uC ht;obtain⟨i,hi,rfl⟩:=List.getElem_of_mem hm;exact⟨h2,h4,i,hi,hn,h0,h1⟩
  ·obtain⟨h2,h4,k,hk,hn,h0,h1⟩:=h7.1 hc
   exact⟨h2,h4,s.ay[k],by rw [<-hn];exact lL hr (List.getElem_mem hk),h0,h1⟩
 |tick h hk=>exact⟨fun ho=>by have:=ho.2.1;omega,fun _=>by decide⟩
 |del h hk=>exact⟨fun ho=>by have:=ho.2.1;omega,fun _=>by simp [Rp.num]⟩
 |get h hk=>exact⟨fun ho=>by have:=ho.2.1;omega,fun _=>by simp⟩
 |ord h hk=>exact⟨fun ho=>by have:=ho.2.1;omega,fun _=>by simp [Rp.num]⟩
 |keep h hk k hl hn hv=>
  refine⟨fun ho=> ?_,fun _=>by simp [Rp.num]⟩;obtain⟨h0,h1⟩:=agr hr ho hl hn;have:=ho.2.1;rcases hv with hv|hv|hv
  ·omega
  ·exact absurd hv h0
  ·exact absurd hv h1
 |zQ h hk hh=>
  refine⟨fun ho=> ?_,fun _=>by simp [Rp.num]⟩;obtain⟨-,-,t,ht,-⟩:=ho;obtain⟨hm,hn⟩:=uC ht;exact absurd hn (Od hr hh t hm)
theorem I0 {l:List Th} {k:Nat} {t u:Th} (hk:k<l.length) (hu:u∈l) (hn:u≠l[k]):u∈l.set k t:=by
 obtain⟨i,hi,rfl⟩:=List.getElem_of_mem hu;have hik:k≠i:=fun e=>hn (by subst e;rfl);have:(l.set k t)[i]'(by simpa using hi)=l[i]:=by rw [List.getElem_set_ne hik]
 rw [<-this];exact List.getElem_mem _
theorem ags {l:List Th} {k:Nat} {u:Th} (hk:k<l.length) (hu:u∈l) (hn:u≠l[k]):u∈l.take k++l.drop (k+1):=by
 rw [<-List.take_append_drop k l,List.drop_eq_getElem_cons hk] at hu;rcases List.mem_append.1 hu with h|h
 ·exact List.mem_append.2 (.inl h)
 ·rcases List.mem_cons.1 h with h|h
  ·exact absurd h hn
  ·exact List.mem_append.2 (.inr h)
theorem Wk {l:List Th} {k:Nat} {t u:Th} (hu:u∈l):u∈l.take k++t::l.drop k:=by
 rw [<-List.take_append_drop k l] at hu;rcases List.mem_append.1 hu with h|h
 ·exact List.mem_append.2 (.inl h)
 ·exact List.mem_append.2 (.inr (List.mem_cons_of_mem _ h))
theorem Wl {l:List Th} {k:Nat} {t:Th} (hk:k<l.length):t∈l.set k t:=by
 have h:(l.set k t)[k]'(by simpa using hk)=t:=by simp
 have h2:(l.set k t)[k]'(by simpa using hk)∈l.set k t:=List.getElem_mem _
 rwa [h] at h2
theorem afI {s s':Sv} {a:Ac} {r:Rp} (ho:Ok s) (h:Step s a s' r) (h8:a.k≠8) {o:Th} (hm:o∈s.ay):
 (o.name≠a.name->gQ s'.ay o.name=some o)/\ (gQ s'.ay o.name=none->a.k=6/\r.c=0):=by
 have hr:=ho.dO;have hr':=(ho.step h).dO
 cases h with
 |full h=>exact⟨fun _=>lL hr hm,fun e=>by rw [lL hr hm] at e;cases e⟩
 |no e h he=>exact⟨fun _=>lL hr hm,fun e=>by rw [show gQ s.on.ay o.name=some o from lL hr hm] at e;cases e⟩
 |get h hk k hl hn hp=>exact⟨fun _=>lL hr hm,fun e=>by rw [show gQ s.on.ay o.name=some o from lL hr hm] at e;cases e⟩
 |tick h hk=>exact absurd hk h8
 |del h hk k hl hn=>exact⟨fun hne=>lL hr' (ags hl hm fun e=>hne (by rw [e,hn])),fun _=>⟨hk,rfl⟩⟩
 |ord h hk k hl hn h0=>
  refine⟨fun hne=>lL hr' (I0 hl hm fun e=>hne (by rw [e,hn])),fun e=> ?_⟩;by_cases he:o=s.ay[k]
  ·have h1:=lL hr' (Wl (t:=s.ay[k].ord s.time a.ord) hl)
   rw [IX,show s.ay[k].name=o.name by rw [he],e] at h1;cases h1
  ·rw [lL hr' (I0 hl hm he)] at e;cases e
 |keep h hk k hl hn hv v ows hc hs=>
  refine⟨fun hne=>lL hr' (I0 hl hm fun e=>hne (by rw [e,hn])),fun e=> ?_⟩;by_cases he:o=s.ay[k]
  ·have h1:=lL hr' (Wl (t:=s.ay[k].kept v ows s.time s.last) hl)
   rw [show (s.ay[k].kept v ows s.time s.last).name=o.name by rw [he];rfl,e] at h1;cases h1
  ·rw [lL hr' (I0 hl hm he)] at e;cases e
 |zQ h hk hh hn hl v ows hc hs=>exact⟨fun hne=>lL hr' (Wk hm),fun e=>by rw [lL hr' (Wk hm)] at e;cases e⟩
theorem afH {s s':Sv} {a:Ac} {r:Rp} (h:Step s a s' r):s'.ay.length<=s.ay.length+1:=by
 cases h with
 |full h=>omega
 |no e h he=>simp only [Sv.on];omega
 |get h hk k hl hn hp=>simp only [Sv.on];omega
 |tick h hk=>simp
 |del h hk k hl hn=>simp only [List.length_append,List.length_take,List.length_drop];omega
 |ord h hk k hl hn h0=>simp
 |keep h hk k hl hn hv v ows hc hs=>simp
 |zQ h hk hh hn hl v ows hc hs=>simp only [List.length_append,List.length_take,List.length_cons,List.length_drop];omega
inductive From (s:Sv) (a:Ac) (t:Th):Prop
 |same (h:t∈s.ay)
 |ord (u:Th) (h:u∈s.ay) (time o:Int) (e:t=u.ord time o)
 |kept (u:Th) (h:u∈s.ay) (v:V) (ows:List Ow) (hs:cy v≠none) (e:t=u.kept v ows s.time s.last)
 |new (hh:fL s.ay a.name=false) (v:V) (ows:List Ow) (hs:cy v≠none) (e:t=(nR a.name v).kept v ows s.time s.last)
theorem From.there {s:Sv} {a:Ac} {t:Th} (hr:cn (s.ay.map Th.name)) (h:From s a t):
 (gQ s.ay t.name=none/\t.gen=1/\t.ver=s.last+1)\/
 ∃u,gQ s.ay t.name=some u/\ ((t.v=u.v/\t.ows=u.ows/\t.ver=u.ver/\t.gen=u.gen)\/ (∃v ows,cy v≠none/\t=u.kept v ows s.time s.last)):=by
 cases h with
 |same h=>exact .inr ⟨t,lL hr h, .inl ⟨rfl,rfl,rfl,rfl⟩⟩
 |ord u h time o e=>
  subst e;refine .inr ⟨u,by rw [IX];exact lL hr h, .inl ?_⟩;unfold Th.ord
  split<;>exact⟨rfl,rfl,rfl,rfl⟩
 |kept u h v ows hs e=>subst e;exact .inr ⟨u,lL hr h, .inr ⟨v,ows,hs,rfl⟩⟩
 |new hh v ows hs e=>
  subst e;refine .inl ⟨agq (Od hr hh),rfl,rfl⟩
end Go.Proofs.YtlcebdaghmdkeaaGreatDoor
namespace Go.Proofs.YtlcebdaghmdkeaaGreatDoor
open Go.Proofs.Tryz
open Go.RowKit
attribute [local go_sem↓] Go.wp_at_zero Go.wp_at_succ
theorem Vy (t:Th) (ka:aq) (kc:Nat) (la:aq) (lc:Nat) (oa:aq) (oc:Nat) (kb:aq) (kd:Nat) (lb:aq) (ld:Nat) (ob:aq) (od:Nat) (S T:aA) (w:World)
 (h1:kG w S t ka kc la lc oa oc) (h2:kG w T t kb kd lb ld ob od) (hz:t.v.size<=1073741824) (ji:cN t.ows<=1073741824):
 Calls prog 18 #[.agg #[.string t.name, .int .i64 t.v.k, .int .i64 t.v.n, .string t.v.s, .slice ka t.v.keys.length kc, .slice la t.v.l.length lc, .slice oa t.ows.length oc, .int .i64 t.ver, .int .i64 t.gen, .string t.st.sb, .string t.st.cm, .int .i64 t.st.ph, .int .i64 t.st.sp, .int .i64 t.st.wt, .int .i64 t.st.si], .agg #[.string t.name, .int .i64 t.v.k, .int .i64 t.v.n, .string t.v.s, .slice kb t.v.keys.length kd, .slice lb t.v.l.length ld, .slice ob t.ows.length od, .int .i64 t.ver, .int .i64 t.gen, .string t.st.sb, .string t.st.cm, .int .i64 t.st.ph, .int .i64 t.st.sp, .int .i64 t.st.wt, .int .i64 t.st.si]] w fun e w'=>e= .returned (.bool true)/\Ext w w':=by
 have H1:=ae h1;have H2:=ae h2;clear h1 h2;have z7:=ae ((Cz t.v t.v).2 rfl);go_enter func18,ntmps18;go_upto_region 1 with fail
 refine aI (R:=fun wx=>fx wx w.heap.size t ka kc la lc oa oc/\fx wx (w.heap.size+1) t kb kd lb ld ob od/\Ext w wx) ⟨aR,aR,Xt⟩ ?_;rintro wa ⟨ag,ai,aF⟩;obtain⟨hc0,aw,hl0⟩:=ag.see;obtain⟨hc1,aB,az⟩:=ai.see;go_wp2_with fail;(refine(Dz t.v t.v ka kc la lc S kb kd lb ld T _ hz hz (H1.out.v.ext Xt) (H2.out.v.ext Xt)).mono ?_);rw [z7.out];rintro e w1 ⟨rfl,Bq⟩;have hx1:Ext wa w1:=Xt;have ak:=ag.ext hx1;have bK:=ai.ext hx1;have cX:Ext w w1:=aF.trans hx1;clear Bq hc0 aw hl0 hc1 aB az ag ai;obtain⟨hc2,hf2,hl2⟩:=ak.see;obtain⟨hc3,hf3,aS⟩:=bK.see;go_wp2_with fail;(refine(agw t.ows t.ows oa ob _ _ oc od S T _ (H1.out.ows.ext Xt) (H2.out.ows.ext Xt) rfl rfl ji).mono ?_);rintro e w2 ⟨b,rfl,hr,Wu⟩;obtain rfl:b=true:=hr.2 rfl;go_wp2_with fail;go_ret;exact⟨rfl,Xt⟩
theorem fT.cells {w:World} {S:aA} {l:List Th} {a:aq} (h:fT w S l a) {i:Nat} (hi:i<l.length):∃b ka kc la lc oa oc,a=some ⟨b,0,none⟩/\S b/\b<w.heap.size/\kG w S l[i] ka kc la lc oa oc/\
 w.cell? ⟨b,i*15,none⟩=some (.string l[i].name)/\
 w.cell? ⟨b,i*15+1,none⟩=some (.int .i64 l[i].v.k)/\
 w.cell? ⟨b,i*15+2,none⟩=some (.int .i64 l[i].v.n)/\
 w.cell? ⟨b,i*15+3,none⟩=some (.string l[i].v.s)/\
 w.cell? ⟨b,i*15+4,none⟩=some (.slice ka l[i].v.keys.length kc)/\
 w.cell? ⟨b,i*15+5,none⟩=some (.slice la l[i].v.l.length lc)/\
 w.cell? ⟨b,i*15+6,none⟩=some (.slice oa l[i].ows.length oc)/\
 w.cell? ⟨b,i*15+7,none⟩=some (.int .i64 l[i].ver)/\
 w.cell? ⟨b,i*15+8,none⟩=some (.int .i64 l[i].gen)/\
 w.cell? ⟨b,i*15+9,none⟩=some (.string l[i].st.sb)/\
 w.cell? ⟨b,i*15+10,none⟩=some (.string l[i].st.cm)/\
 w.cell? ⟨b,i*15+11,none⟩=some (.int .i64 l[i].st.ph)/\
 w.cell? ⟨b,i*15+12,none⟩=some (.int .i64 l[i].st.sp)/\
 w.cell? ⟨b,i*15+13,none⟩=some (.int .i64 l[i].st.wt)/\
 w.cell? ⟨b,i*15+14,none⟩=some (.int .i64 l[i].st.si):=by
 obtain⟨b,ka,kc,la,lc,oa,oc,h1,h2,h3,h4,h5⟩:=h.at hi;exact⟨b,ka,kc,la,lc,oa,oc,h1,h2,h3,h5,h4 0 _ rfl,h4 1 _ rfl,h4 2 _ rfl,h4 3 _ rfl,h4 4 _ rfl,h4 5 _ rfl,h4 6 _ rfl,h4 7 _ rfl,h4 8 _ rfl,h4 9 _ rfl,h4 10 _ rfl,h4 11 _ rfl,h4 12 _ rfl,h4 13 _ rfl,h4 14 _ rfl⟩
theorem BK (l:List Th) (a1 a2:aq) (n1 n2 c1 c2:Nat) (S T:aA) (w:World) (h1:fT w S l a1) (h2:fT w T l a2) (e1:l.length=n1) (e2:l.length=n2) (hl:l.length<=1048576) (hz:∀t∈l,t.v.size<=14640/\cN t.ows<=1800000):
 Calls prog 14 #[.slice a1 n1 c1, .slice a2 n2 c2] w fun e w'=>e= .returned (.bool true)/\Ext w w':=by
 subst e1;subst e2;have H1:=ae h1;have H2:=ae h2;have Hz:=ae hz;clear h1 h2 hz;go_enter func14,ntmps14;go_wp2_with fail
 go_loopg [5,13] l.length (fun g _ i wr=>∃k:Nat,k<=l.length/\i= .int .i64 k/\g=l.length-k/\Ext w wr)
 case atStart=>exact⟨0,by omega,rfl,rfl,Ext.refl _⟩
 case round=>
  obtain⟨k,hk,rfl,rfl,hx⟩:=hrel;by_cases hlt:k<l.length
  ·obtain⟨b1,ka,kc,la,lc,oa,oc,rfl,hS1,hb1,hi1,d0,d1,d2,d3,d4,d5,d6,d7,d8,d9,d10,d11,d12,d13,d14⟩:=(H1.out.ext hx).cells hlt
   obtain⟨b2,kb,kd,lb,ld,ob,od,rfl,uP,hb2,hi2,f0,f1,f2,f3,f4,f5,f6,f7,f8,f9,f10,f11,f12,f13,f14⟩:=(H2.out.ext hx).cells hlt;obtain⟨hz1,hz2⟩:=Hz.out _ (List.getElem_mem hlt);have mh:(0:Int)<= (k:Int):=by omega
   have ml:(k:Int)<(l.length:Int):=by omega
   obtain⟨z,tB⟩:∃z,l[k]=z:=⟨_,rfl⟩;rw [tB] at d0 f0 d1 f1 d2 f2 d3 f3 d4 f4 d5 f5 d6 f6 d7 f7 d8 f8 d9 f9 d10 f10 d11 f11 d12 f12 d13 f13 d14 f14 hi1 hi2 hz1 hz2;have zN:=ae hi1;have Hi2:=ae hi2;clear hi1 hi2 tB;go_upto_region 6 with fail
   have au:∀w',Ext wr w'-> (w'.cell? ⟨b1,k*15,none⟩=some (.string z.name)/\w'.cell? ⟨b1,k*15+1,none⟩=some (.int .i64 z.v.k)/\w'.cell? ⟨b1,k*15+2,none⟩=some (.int .i64 z.v.n)/\w'.cell? ⟨b1,k*15+3,none⟩=some (.string z.v.s)/\w'.cell? ⟨b1,k*15+4,none⟩=some (.slice ka z.v.keys.length kc)/\w'.cell? ⟨b1,k*15+5,none⟩=some (.slice la z.v.l.length lc)/\w'.cell? ⟨b1,k*15+6,none⟩=some (.slice oa z.ows.length oc)/\w'.cell? ⟨b1,k*15+7,none⟩=some (.int .i64 z.ver)/\w'.cell? ⟨b1,k*15+8,none⟩=some (.int .i64 z.gen)/\w'.cell? ⟨b1,k*15+9,none⟩=some (.string z.st.sb)/\w'.cell? ⟨b1,k*15+10,none⟩=some (.string z.st.cm)/\w'.cell? ⟨b1,k*15+11,none⟩=some (.int .i64 z.st.ph)/\w'.cell? ⟨b1,k*15+12,none⟩=some (.int .i64 z.st.sp)/\w'.cell? ⟨b1,k*15+13,none⟩=some (.int .i64 z.st.wt)/\w'.cell? ⟨b1,k*15+14,none⟩=some (.int .i64 z.st.si)/\w'.cell? ⟨b2,k*15,none⟩=some (.string z.name)/\w'.cell? ⟨b2,k*15+1,none⟩=some (.int .i64 z.v.k)/\w'.cell? ⟨b2,k*15+2,none⟩=some (.int .i64 z.v.n)/\w'.cell? ⟨b2,k*15+3,none⟩=some (.string z.v.s)/\w'.cell? ⟨b2,k*15+4,none⟩=some (.slice kb z.v.keys.length kd)/\w'.cell? ⟨b2,k*15+5,none⟩=some (.slice lb z.v.l.length ld)/\w'.cell? ⟨b2,k*15+6,none⟩=some (.slice ob z.ows.length od)/\w'.cell? ⟨b2,k*15+7,none⟩=some (.int .i64 z.ver)/\w'.cell? ⟨b2,k*15+8,none⟩=some (.int .i64 z.gen)/\w'.cell? ⟨b2,k*15+9,none⟩=some (.string z.st.sb)/\w'.cell? ⟨b2,k*15+10,none⟩=some (.string z.st.cm)/\w'.cell? ⟨b2,k*15+11,none⟩=some (.int .i64 z.st.ph)/\w'.cell? ⟨b2,k*15+12,none⟩=some (.int .i64 z.st.sp)/\w'.cell? ⟨b2,k*15+13,none⟩=some (.int .i64 z.st.wt)/\w'.cell? ⟨b2,k*15+14,none⟩=some (.int .i64 z.st.si)):=fun w' e=>⟨e.cell (d0),e.cell (d1),e.cell (d2),e.cell (d3),e.cell (d4),e.cell (d5),e.cell (d6),e.cell (d7),e.cell (d8),e.cell (d9),e.cell (d10),e.cell (d11),e.cell (d12),e.cell (d13),e.cell (d14),e.cell (f0),e.cell (f1),e.cell (f2),e.cell (f3),e.cell (f4),e.cell (f5),e.cell (f6),e.cell (f7),e.cell (f8),e.cell (f9),e.cell (f10),e.cell (f11),e.cell (f12),e.cell (f13),e.cell (f14)⟩;refine pk au (by kernel_rfl) (au _ Xt) (fun hHeld=> ?_);refine aK 0 (h:= ?_);refine aK 1 (h:= ?_);refine aK 2 (h:= ?_);refine aK 3 (h:= ?_);refine aK 4 (h:= ?_);refine aK 5 (h:= ?_);refine aK 6 (h:= ?_);refine aK 7 (h:= ?_);(try simp only [rl]);refine kv 8 (h:=fun K hK=> ?_);(try simp only [rl]);(try go_simp);(refine(Vy z ka kc la lc oa oc kb kd lb ld ob od S T _ (zN.out.ext Xt) (Hi2.out.ext Xt) (by omega) (by omega)).mono ?_);rintro e w2 ⟨rfl,Wu⟩;(try go_simp);refine hK.out _ _ (au _ Xt) (fun hHeld=> ?_);clear hK K;(try simp only [rl]);refine aK 9 (h:= ?_);(try simp only [rl]);refine wpAnyH_done (by kernel_rfl) ?_ _;go_wp2_with fail;go_roundg (l.length-(k+1))
   case measure=>omega
   case rel=>exact⟨k+1,by omega,by go_num,rfl,Xt⟩
  ·go_wp2_with fail
   go_ret;exact⟨rfl,Xt⟩
def agx (S:aA) (l:List Th) (name:ah) (w:World) (e:Ending) (w':World):Prop:=
 Ext w w'/\ ((∃t ka kc la lc oa oc,gQ l name=some t/\e= .returned (.tuple #[.agg #[.string t.name, .int .i64 t.v.k, .int .i64 t.v.n, .string t.v.s, .slice ka t.v.keys.length kc, .slice la t.v.l.length lc, .slice oa t.ows.length oc, .int .i64 t.ver, .int .i64 t.gen, .string t.st.sb, .string t.st.cm, .int .i64 t.st.ph, .int .i64 t.st.sp, .int .i64 t.st.wt, .int .i64 t.st.si], .bool true])/\kG w' S t ka kc la lc oa oc)\/ (gQ l name=none/\e= .returned (.tuple #[.agg #[.string ⟨#[]⟩, .int .i64 0, .int .i64 0, .string ⟨#[]⟩, .slice none 0 0, .slice none 0 0, .slice none 0 0, .int .i64 0, .int .i64 0, .string ⟨#[]⟩, .string ⟨#[]⟩, .int .i64 0, .int .i64 0, .int .i64 0, .int .i64 0], .bool false])))
theorem agy {l:List Th} {name:ah} {k:Nat} (h:k<l.length):gQ (l.drop k) name=if l[k].name=name then some l[k] else gQ (l.drop (k+1)) name:=by
 rw [List.drop_eq_getElem_cons h];unfold gQ;rw [List.find?_cons];by_cases he:l[k].name=name
 ·rw [decide_eq_true he,if_pos he]
 ·rw [decide_eq_false he,if_neg he]
theorem NR (l:List Th) (a:aq) (n c:Nat) (name:ah) (S:aA) (w:World) (h:fT w S l a) (e1:l.length=n) (hl:l.length<=1048576):
 Calls prog 16 #[.slice a n c, .string name] w (agx S l name w):=by
 subst e1;have H:=ae h;clear h;go_enter func16,ntmps16;go_wp2_with fail
 go_loopg [7,10] l.length (fun g _ i wr=>∃k:Nat,k<=l.length/\i= .int .i64 k/\g=l.length-k/\Hid (gQ (l.drop k) name=gQ l name)/\af wr w.heap.size #[.string ⟨#[]⟩, .int .i64 0, .int .i64 0, .string ⟨#[]⟩, .slice none 0 0, .slice none 0 0, .slice none 0 0, .int .i64 0, .int .i64 0, .string ⟨#[]⟩, .string ⟨#[]⟩, .int .i64 0, .int .i64 0, .int .i64 0, .int .i64 0] 46/\Ext w wr)
 case atStart=>exact⟨0,by omega,rfl,rfl,ae rfl,aR,Xt⟩
 case round=>
  obtain⟨k,hk,rfl,rfl,Hf,hBr,hx⟩:=hrel;have hBl:=hBr.lt;by_cases hlt:k<l.length
  ·obtain⟨b1,ka,kc,la,lc,oa,oc,rfl,hS1,hb1,hi1,d0,d1,d2,d3,d4,d5,d6,d7,d8,d9,d10,d11,d12,d13,d14⟩:=H.out.cells hlt
   have d0:=hx.cell d0;have d1:=hx.cell d1;have d2:=hx.cell d2;have d3:=hx.cell d3;have d4:=hx.cell d4;have d5:=hx.cell d5;have d6:=hx.cell d6;have d7:=hx.cell d7;have d8:=hx.cell d8;have d9:=hx.cell d9;have d10:=hx.cell d10;have d11:=hx.cell d11;have d12:=hx.cell d12;have d13:=hx.cell d13;have d14:=hx.cell d14;have Hd:=ae (agy (name:=name) hlt);have mh:(0:Int)<= (k:Int):=by omega
   have ml:(k:Int)<(l.length:Int):=by omega
   obtain⟨z,tB⟩:∃z,l[k]=z:=⟨_,rfl⟩;rw [tB] at d0 d1 d2 d3 d4 d5 d6 d7 d8 d9 d10 d11 d12 d13 d14 hi1 Hd;have zN:=ae hi1;clear hi1 tB;go_upto_region 4 with fail
   refine aI (R:=fun wx=>af wx w.heap.size #[.string ⟨#[]⟩, .int .i64 0, .int .i64 0, .string ⟨#[]⟩, .slice none 0 0, .slice none 0 0, .slice none 0 0, .int .i64 0, .int .i64 0, .string ⟨#[]⟩, .string ⟨#[]⟩, .int .i64 0, .int .i64 0, .int .i64 0, .int .i64 0] 46/\fx wx wr.heap.size z ka kc la lc oa oc/\Ext w wx) ⟨aR,aR,Xt⟩ ?_;clear d0 d1 d2 d3 d4 d5 d6 d7 d8 d9 d10 d11 d12 d13 d14 hBr;rintro wb ⟨ag,ai,aP⟩;obtain⟨hc0,aw,hl0⟩:=ag.see;obtain⟨hc1,aB,az⟩:=ai.see;by_cases he:z.name=name
   ·have hb:=qA he
    have Hr:=ae (show gQ l name=some z by rw [<-Hf.out,Hd.out,if_pos he]);clear he;go_wp2_with fail;refine aG (h:= ?_);exact⟨Xt, .inl ⟨z,ka,kc,la,lc,oa,oc,Hr.out,rfl,zN.out.ext Xt⟩⟩
   ·have hb:=tP he
    have Hr:=ae (show gQ (l.drop (k+1)) name=gQ l name by rw [<-Hf.out,Hd.out,if_neg he]);clear he;go_wp2_with fail;go_roundg (l.length-(k+1))
    case measure=>omega
    case rel=>exact⟨k+1,by omega,by go_num,rfl,Hr,aR,Xt⟩
  ·have Hr:=ae (show gQ l name=none by rw [<-Hf.out,List.drop_eq_nil_of_le (by omega)];rfl)
   obtain⟨hc0,aw,hl0⟩:=hBr.see;go_wp2_with fail;refine aG (h:= ?_);exact⟨Xt, .inr ⟨Hr.out,rfl⟩⟩
end Go.Proofs.YtlcebdaghmdkeaaGreatDoor
