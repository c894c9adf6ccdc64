import Derived.Lib.AppendStr
import Derived.Lib.OthersKept
import Derived.Test.YtlcebdaghmdkeaaGreatDoorZ7
import Derived.Test.YtlcebdaghmdkeaaGreatDoorZ12
import Derived.Test.YtlcebdaghmdkeaaGreatDoorZ13
set_option linter.all false
set_option maxRecDepth 100000
set_option maxHeartbeats 64000000
namespace Go.Proofs.YtlcebdaghmdkeaaGreatDoor
open Go.Proofs.Tryz
open Go.RowKit
theorem Tryz.Jg:(prog.info? 5).map (fun i=>(i.zero,i.size,i.bytes))=some (some (.int .u8 0),1,1):=by kernel_rfl
def dt (w:World) (B:Nat) (v:Value) (l:Bytes):Prop:=w.ownsRow B 5 1 v l.length (Lib.byteCells l)
structure Wrote (B:Nat) (w w':World):Prop where
 below:Below B w w'
 others:Lib.OthersKept 5 none w w'
theorem Wrote.refl (B:Nat) (w:World):Wrote B w w:=⟨Below.refl _ _,Lib.OthersKept.refl _ _ _⟩
theorem Wrote.trans {B:Nat} {a b c:World} (h:Wrote B a b) (k:Wrote B b c):Wrote B a c:=⟨h.below.trans k.below,h.others.trans k.others⟩
theorem WM {b c:World} (e:Ext b c):Lib.OthersKept 5 none b c:=by
 intro k o hk _ _;rw [Below.block e k (Array.getElem?_eq_some_iff.1 hk).1];exact hk
theorem Wrote.ext {B:Nat} {a b c:World} (h:Wrote B a b) (hB:B<=a.heap.size) (e:Ext b c):Wrote B a c:=
 ⟨h.below.trans (Below.mono e (Nat.le_trans hB (Below.size h.below))),h.others.trans (WM e)⟩
theorem Wrote.size {B:Nat} {a b:World} (h:Wrote B a b):a.heap.size<=b.heap.size:=Below.size h.below
theorem af.wrote {B:Nat} {w w':World} {n:Nat} {vs:Array Value} {T:TypeId} (e:Wrote B w w') (h:af w n vs T) (hT:T≠5):af w' n vs T:=
 e.others n _ h (by simp) (fun c fz he=>hT (by cases he;rfl))
theorem zY {w:World} {B:Nat} {v:Value} {n:Nat} {xs:List Value} {e s:Nat} (h:w.ownsRow B e s v n xs):∀g,v.ownBlock=some g->∃c fz,w.heap[g]? =some (.cells c e fz):=by
 intro g hg;rcases h.2 with⟨rfl,-⟩|⟨g',cap,cur,rfl,-,hgg,-⟩
 ·simp [Value.ownBlock] at hg
 ·simp [Value.ownBlock] at hg
  subst hg;exact⟨cur,_,hgg⟩
theorem Wrote.grown {B:Nat} {a w w':World} (h:Wrote B a w) (hB:B<=a.heap.size) {v:Value} {n:Nat} {xs:List Value} (hown:w.ownsRow B 5 1 v n xs) (g:w.grownBy w' v.ownBlock):Wrote B a w':=
 ⟨Below.grown h.below g (Nat.le_trans hB h.size) (fun k hk=>(hown.lt k hk).1),h.others.grown g (zY hown)⟩
theorem dt.nil (w:World) (B:Nat):dt w B (.slice none 0 0) []:=World.ownsRow_nil _ _ _ _
theorem dt.ext {w w':World} {B:Nat} {v:Value} {l:Bytes} (h:dt w B v l) (e:Ext w w'):dt w' B v l:=eT h e
theorem dt.form {w:World} {B:Nat} {v:Value} {l:Bytes} (h:dt w B v l):∃a c,v= .slice a l.length c/\aO a l.length c:=gU h
theorem byteCells_one (l:Bytes):∀u∈Lib.byteCells l,u.oneCell'=true:=by
 intro u hu;simp only [Lib.byteCells,List.mem_map] at hu;obtain⟨b,-,rfl⟩:=hu;rfl
theorem nU {w:World} {ops:Array Oper} {rest:List Oper} {o:Oper} {a:Act} {Q:Exit->Act->World->Prop} (hgd:o.guard=none) (s x:Operand) (t:TypeId)
 (ho:o.op= .call {callee:= .builtin .append,args:= #[s,x],argTypes:= #[t,t]}) (ht:prog.underlying t=some (.slice 5))
 (B:Nat) (v:Value) (l:Bytes) (hs:a.eval s=v) (hown:dt w B v l) (ad:Addr) (m c:Nat) (news:Bytes) (hx:a.eval x= .slice (some ad) m c) (hm:news.length=m)
 (hnews:∀j u,(Lib.byteCells news)[j]? =some u->w.cell? (ad.add j)=some u) (hlim:l.length+m<=140737488355328) (hB:B<=w.heap.size)
 (h:∀v' w',dt w' B v' (l++news)->w.grownBy w' v.ownBlock->wpList prog ops Q rest (a.put o.dst v') w'):wpList prog ops Q (o::rest) a w:=by
 obtain⟨i0,hi,hz0,hz1,hz2⟩:=info_parts Tryz.Jg;refine wpList_append_own _ hgd s x t ho B 5 i0 _ 1 1 ht hi hz0 hz1 hz2 rfl (by decide) v l.length _ hs hown ad m c (Lib.byteCells news) hx (by rw [Lib.byteCells_length,hm];omega) hnews (byteCells_one _) (by unfold maxLen;omega) (by omega) hB ?_;intro v' w' h1 h2 _;refine h v' w' ?_ h2;unfold dt;rw [List.length_append,Lib.byteCells_append,hm];exact h1
theorem tF {w:World} {ops:Array Oper} {rest:List Oper} {o:Oper} {a:Act} {Q:Exit->Act->World->Prop} (hgd:o.guard=none) (sl x:Operand) (t u:TypeId)
 (ho:o.op= .call {callee:= .builtin .append,args:= #[sl,x],argTypes:= #[t,u]}) (ht:prog.underlying t=some (.slice 5)) (hu:prog.underlying u=some .string)
 (B:Nat) (v:Value) (l:Bytes) (hs:a.eval sl=v) (hown:dt w B v l) (s:ah) (hx:a.eval x= .string s) (hlim:l.length+s.size<=140737488355328) (hB:B<=w.heap.size)
 (h:∀v' w',dt w' B v' (l++s.data.toList)->w.grownBy w' v.ownBlock->wpList prog ops Q rest (a.put o.dst v') w'):wpList prog ops Q (o::rest) a w:=by
 obtain⟨i0,hi,hz0,hz1,hz2⟩:=info_parts Tryz.Jg;refine Lib.wpList_append_own_string _ hgd sl x t u ho B 5 i0 ht hu hi hz0 hz1 hz2 v l.length _ hs hown s hx (by unfold maxLen;omega) hlim hB ?_;intro v' w' h1 h2 _;refine h v' w' ?_ h2;unfold dt;rw [List.length_append,Lib.byteCells_append,Array.length_toList];exact h1
theorem Ox {w:World} {ops:Array Oper} {o:Oper} {a:Act} {K:Act->World->Prop} {Q:Exit->Act->World->Prop} {E:Prop} (hgd:o.guard=none) (s x:Operand) (t:TypeId)
 (ho:o.op= .call {callee:= .builtin .append,args:= #[s,x],argTypes:= #[t,t]}) (ht:prog.underlying t=some (.slice 5))
 (B:Nat) (v:Value) (l:Bytes) (hs:a.eval s=v) (hown:dt w B v l) (ad:Addr) (m c:Nat) (news:Bytes) (hx:a.eval x= .slice (some ad) m c) (hm:news.length=m) (hm0:0<m)
 (hnews:∀j u,(Lib.byteCells news)[j]? =some u->w.cell? (ad.add j)=some u) (hlim:l.length+m<=140737488355328) (hB:B<=w.heap.size)
 (h:∀g cap w',dt w' B (.slice (some ⟨g,0,none⟩) (l.length+m) cap) (l++news)->w.grownBy w' v.ownBlock->K (a.put o.dst (.slice (some ⟨g,0,none⟩) (l.length+m) cap)) w'):
 if Region.wanted o (yielded ops a.tmps)=true then Oper.wp prog o a w K Q else E:=by
 obtain⟨i0,hi,hz0,hz1,hz2⟩:=info_parts Tryz.Jg;refine step_append_lies _ hgd s x t ho B 5 i0 _ 1 1 ht hi hz0 hz1 hz2 rfl (by decide) v l.length _ hs hown ad m c (Lib.byteCells news) hx (by rw [Lib.byteCells_length,hm];omega) hnews (byteCells_one _) hm0 (by unfold maxLen;omega) (by omega) hB _ rfl ?_;intro g cap w' h1 h2 _ _;refine h g cap w' ?_ h2;unfold dt;rw [List.length_append,Lib.byteCells_append,hm];exact h1
theorem Tryz.Xr:(prog.info? 146).map (fun i=>(i.zero,i.size,i.bytes))=some (some (.agg #[.int .i64 0, .string ⟨#[]⟩, .string ⟨#[]⟩, .int .i64 0, .int .i64 0, .string ⟨#[]⟩, .slice none 0 0, .slice none 0 0]),8,120):=by kernel_rfl
def bM.eight (o:bM) (ka:aq) (kc:Nat) (la:aq) (lc:Nat):List Value:= [.int .i64 o.k, .string o.p, .string o.f, .int .i64 o.v.k, .int .i64 o.v.n, .string o.v.s, .slice ka o.v.keys.length kc, .slice la o.v.l.length lc]
def pS (w:World) (T:aA):List bM->List Value->Prop
 | [],xs=>xs= []
 |x::r,xs=>∃ka kc la lc t,xs=x.eight ka kc la lc++t/\x.v.In w T ka kc la lc/\pS w T r t
theorem pS.keep {S T:aA} {w w':World} {l:List bM} {xs:List Value} (h:pS w S l xs) (hk:Kept S w w') (hT:∀b,S b->b<w.heap.size->T b):pS w' T l xs:=by
 induction l generalizing xs with
 |nil=>exact h
 |cons x r ih=>
  obtain⟨ka,kc,la,lc,t,rfl,h1,h2⟩:=h;exact⟨ka,kc,la,lc,t,rfl,h1.keep hk hT,ih h2⟩
theorem pS.one {w:World} {T:aA} {l:List bM} {xs:List Value} (h:pS w T l xs):∀u∈xs,u.oneCell'=true:=by
 induction l generalizing xs with
 |nil=>subst h;simp
 |cons y r ih=>
  obtain⟨a,b,c,d,t,rfl,h1,h2⟩:=h;intro u hu;rcases List.mem_append.1 hu with hu|hu
  ·simp only [bM.eight,List.mem_cons,List.not_mem_nil,or_false] at hu
   rcases hu with rfl|rfl|rfl|rfl|rfl|rfl|rfl|rfl<;>rfl
  ·exact ih h2 u hu
theorem pS.item {w:World} {T:aA} {l:List bM} {xs:List Value} (h:pS w T l xs):∀i (hi:i<l.length),∃ka kc la lc,(∀q u,(l[i].eight ka kc la lc)[q]? =some u->xs[i*8+q]? =some u)/\l[i].v.In w T ka kc la lc:=by
 induction l generalizing xs with
 |nil=>intro i hi;simp at hi
 |cons y r ih=>
  obtain⟨a,b,c,d,t,rfl,h1,h2⟩:=h;intro i hi
  match i with
  |0=>
   refine⟨a,b,c,d,fun q u hq=> ?_,by simpa using h1⟩;have hlt:q<(y.eight a b c d).length:=by have:=(List.getElem?_eq_some_iff.1 hq).1;simpa using this
   simp only [List.getElem_cons_zero] at hq;rw [Nat.zero_mul,Nat.zero_add,List.getElem?_append_left hlt];exact hq
  |i+1=>
   obtain⟨ka,kc,la,lc,hc,hin⟩:=ih h2 i (by simpa using hi);refine⟨ka,kc,la,lc,fun q u hq=> ?_,by simpa using hin⟩;have:=hc q u (by simpa using hq);rw [List.getElem?_append_right (by simp [bM.eight];omega)];rw [show (i+1)*8+q-(y.eight a b c d).length=i*8+q from by simp [bM.eight];omega];exact this
theorem Xu {w:World} {base n c:Nat} {T:aA} {a:aq} {l:List bM} {xs:List Value} (hn:l.length=n) (h:w.ownsRow base 146 8 (.slice a n c) n xs) (hc:pS w T l xs):pg w (fun q=>T q\/base<=q) a l:=by
 obtain⟨hl,h1⟩:=h;rcases h1 with⟨hv,hn0⟩|⟨g,cap,cur,hv,hb,hg,hnc,hcm,hcs,ht⟩
 ·exact .inl (List.length_eq_zero_iff.1 (by omega))
 ·simp only [Value.slice.injEq,true_and] at hv
  obtain⟨rfl,rfl⟩:=hv;refine .inr ⟨g,0,rfl, .inr hb,?_⟩;intro i hi;obtain⟨ka,kc,la,lc,hq,hin⟩:=hc.item i hi;have hx:∀j u,xs[j]? =some u->w.cell? ⟨g,j,none⟩=some u:=by
   intro j u hj;rw [cell_of_row w g j cur _ _ hg];rw [<-ht] at hj;rw [List.getElem?_take] at hj
   split at hj
   ·simpa using hj
   ·cases hj
  rw [Nat.zero_add];exact⟨hx _ _ (hq 0 _ rfl),hx _ _ (hq 1 _ rfl),hx _ _ (hq 2 _ rfl),ka,kc,la,lc,⟨hx _ _ (hq 3 _ rfl),hx _ _ (hq 4 _ rfl),hx _ _ (hq 5 _ rfl),hx _ _ (hq 6 _ rfl),hx _ _ (hq 7 _ rfl)⟩,hin.mono (fun b hb _=> .inl hb)⟩
end Go.Proofs.YtlcebdaghmdkeaaGreatDoor
namespace Go.Proofs.YtlcebdaghmdkeaaGreatDoor
open Go.RowKit
def qD (w:World) (base:Nat) (S:aA) (v:Value) (n:Nat) (l:List V):Prop:=
 l.length=n/\∃xs,w.ownsRow base 41 5 v n xs/\cV w (fun b=>b<base/\S b) l xs
theorem qD.nil (w:World) (base:Nat) (S:aA):qD w base S (.slice none 0 0) 0 []:=⟨rfl, [],World.ownsRow_nil _ _ _ _,rfl⟩
theorem qD.keep {w w':World} {base:Nat} {S:aA} {v:Value} {n:Nat} {l:List V} (h:qD w base S v n l) (e:∀b,b<w.heap.size-> (b<base/\S b)\/v.ownBlock=some b->w'.heap[b]? =w.heap[b]?):qD w' base S v n l:=by
 obtain⟨h0,xs,h1,h2⟩:=h;exact⟨h0,xs,eo h1 (fun b hb he=>e b hb (.inr he)),h2.keep (fun b hb hl=>e b hl (.inl hb)) (fun _ h _=>h)⟩
theorem qD.ext {w w':World} {base:Nat} {S:aA} {v:Value} {n:Nat} {l:List V} (h:qD w base S v n l) (e:Ext w w'):qD w' base S v n l:=h.keep (fun b hb _=>Below.block e b hb)
theorem qD.push {w w1:World} {base:Nat} {S:aA} {v':Value} {n:Nat} {l:List V} {xs:List Value} (h0:l.length=n) (hc:cV w (fun b=>b<base/\S b) l xs)
 {x:V} {ka:aq} {kc:Nat} {la:aq} {lc:Nat} (hx:x.In w (fun b=>b<base/\S b) ka kc la lc)
 (hown:w1.ownsRow base 41 5 v' (n+1) (xs++ [.int .i64 x.k, .int .i64 x.n, .string x.s, .slice ka x.keys.length kc, .slice la x.l.length lc])) (hk:Kept (fun b=>b<base/\S b) w w1):qD w1 base S v' (n+1) (l++ [x]):=
 ⟨by simp [h0],_,hown,(hc.keep hk (fun _ h _=>h)).snoc (hx.keep hk (fun _ h _=>h))⟩
theorem qD.lt {w:World} {base:Nat} {S:aA} {v:Value} {n:Nat} {l:List V} (h:qD w base S v n l):∀g,v.ownBlock=some g->base<=g/\g<w.heap.size:=by
 obtain⟨_,xs,h1,_⟩:=h;exact h1.lt
theorem ek.lt {w:World} {base:Nat} {v:Value} {n:Nat} {ks:List ah} (h:ek w base v n ks):∀g,v.ownBlock=some g->base<=g/\g<w.heap.size:=h.2.lt
theorem ek.keep {w w':World} {base:Nat} {v:Value} {n:Nat} {ks:List ah} (h:ek w base v n ks) (e:∀b,b<w.heap.size->v.ownBlock=some b->w'.heap[b]? =w.heap[b]?):ek w' base v n ks:=⟨h.1,eo h.2 e⟩
theorem ek.push {w1:World} {base:Nat} {v':Value} {n:Nat} {ks:List ah} {k:ah} (h0:ks.length=n) (hown:w1.ownsRow base 9 1 v' (n+1) (ks.map Value.string++ [.string k])):ek w1 base v' (n+1) (ks++ [k]):=
 ⟨by simp [h0],by simpa using hown⟩
end Go.Proofs.YtlcebdaghmdkeaaGreatDoor
namespace Go.Proofs.YtlcebdaghmdkeaaGreatDoor
open Go.Proofs.Tryz
open Go.RowKit
attribute [local go_sem↓] Go.wp_at_zero Go.wp_at_succ
theorem MS (x:V) (ka:aq) (kc:Nat) (la:aq) (lc:Nat) (S:aA) (key:ah) (w:World) (hsz:x.size<=1073741824) (hin:x.In w S ka kc la lc):
 Calls prog 127 #[x.val ka kc la lc, .string key] w fun e w'=>e= .returned (.tuple #[.string (x.txt key).1, .bool (x.txt key).2])/\Ext w w':=by
 have aJ:=ae hin;unfold V.txt;obtain⟨z,hz⟩:∃z,x.iG key=z:=⟨_,rfl⟩;obtain⟨b3,hb3⟩:∃b,(z.k==3)=b:=⟨_,rfl⟩;have Hz:=ae hz;rw [hz,hb3];clear hin hz
 cases hm:(x.member key).isSome with
 |true=>
  have Hm:=ae hm;clear hm;go_enter func127,ntmps127;go_upto_region 1 with fail
  refine aI (R:=fun wx=>aD wx w.heap.size x ka kc la lc/\Ext w wx) ⟨aj,Xt⟩ ?_;rintro wa ⟨ag,aF⟩;obtain⟨hc0,aw,hl0⟩:=ag.see;go_wp2_with fail;(refine(qq x key ka kc la lc S _ hsz (aJ.out.ext Xt)).mono ?_);rw [Hz.out,Hm.out];rintro e w1 ⟨iW,iX,iY,iZ,rfl,fA,h1⟩;have hx1:Ext w w1:=Xt;clear h1 fA ag hc0 aw hl0 aF;go_upto_region 2 with fail
  refine aI (R:=fun wx=>aD wx w1.heap.size z iW iX iY iZ/\Ext w wx) ⟨aj,Xt⟩ ?_;clear hx1;rintro wb ⟨hB,hx⟩;have au:∀w',Ext wb w'-> (w'.cell? ⟨w1.heap.size,0,none⟩=some (.int .i64 z.k)/\w'.cell? ⟨w1.heap.size,2,none⟩=some (.string z.s)):=fun w' e=>⟨e.cell (hB.cells 0),e.cell (hB.cells 2)⟩;refine pk au (by kernel_rfl) (au _ Xt) (fun hHeld=> ?_);refine aK 0 (h:= ?_);refine aK 1 (h:= ?_);refine aK 2 (h:= ?_);refine aK 3 (h:= ?_);refine aK 4 (h:= ?_);refine aK 5 (h:= ?_);refine aK 6 (h:= ?_);refine aK 7 (h:= ?_);refine aK 8 (h:= ?_);refine aK 9 (h:= ?_);(try simp only [rl]);refine wpAnyH_done (by kernel_rfl) ?_ _;go_wp2_with fail;go_ret2;exact⟨rfl,Xt⟩
 |false=>
  have Hm:=ae hm;clear hm;go_enter func127,ntmps127;go_upto_region 1 with fail
  refine aI (R:=fun wx=>aD wx w.heap.size x ka kc la lc/\Ext w wx) ⟨aj,Xt⟩ ?_;rintro wa ⟨ag,aF⟩;obtain⟨hc0,aw,hl0⟩:=ag.see;go_wp2_with fail;(refine(qq x key ka kc la lc S _ hsz (aJ.out.ext Xt)).mono ?_);rw [Hz.out,Hm.out];rintro e w1 ⟨iW,iX,iY,iZ,rfl,fA,h1⟩;have hx1:Ext w w1:=Xt;clear h1 fA ag hc0 aw hl0 aF;go_upto_region 2 with fail
  refine aI (R:=fun wx=>aD wx w1.heap.size z iW iX iY iZ/\Ext w wx) ⟨aj,Xt⟩ ?_;clear hx1;rintro wb ⟨hB,hx⟩;have au:∀w',Ext wb w'-> (w'.cell? ⟨w1.heap.size,0,none⟩=some (.int .i64 z.k)/\w'.cell? ⟨w1.heap.size,2,none⟩=some (.string z.s)):=fun w' e=>⟨e.cell (hB.cells 0),e.cell (hB.cells 2)⟩;refine pk au (by kernel_rfl) (au _ Xt) (fun hHeld=> ?_);refine aK 0 (h:= ?_);refine aK 1 (h:= ?_);refine aK 2 (h:= ?_);refine aK 3 (h:= ?_);refine cO 4 (h:= ?_);refine cO 5 (h:= ?_);refine cO 6 (h:= ?_);refine aK 7 (h:= ?_);refine aK 8 (h:= ?_);refine aK 9 (h:= ?_);(try simp only [rl]);refine wpAnyH_done (by kernel_rfl) ?_ _;go_wp2_with fail;go_ret2;exact⟨rfl,Xt⟩
def rC (w:World):Prop:=∀i,i<7->w.cell? ⟨1,i,none⟩=some (.string (qj i))
theorem rC.ext {w w':World} (h:rC w) (e:Ext w w'):rC w':=fun i hi=>e.cell (h i hi)
def ac7 (S:aA) (x:V) (w:World) (e:Ending) (w':World):Prop:=
 ∃(o:bM) (ka:aq) (kc:Nat) (la:aq) (lc:Nat) (b:Bool),e= .returned (.tuple #[.agg #[.int .i64 o.k, .string o.p, .string o.f, .int .i64 (o.v).k, .int .i64 (o.v).n, .string (o.v).s, .slice ka (o.v).keys.length kc, .slice la (o.v).l.length lc], .bool b])/\o.v.In w' (aW S w) ka kc la lc/\x.iT=(if b=true then some o else none)/\Ext w w'
theorem ac8 {s:ah} {k:Nat} (hk:1<=k) (h:qj k=s):oP s true (k+1)=k:=by unfold oP;rw [if_pos ⟨hk,rfl,h⟩]
theorem TV {s:ah} {ok:Bool} {k:Nat} (h:ok=false\/qj k≠s):oP s ok (k+1)=oP s ok k:=by
 rw [oP,if_neg];rintro⟨_,h1,h2⟩;rcases h with h|h
 ·rw [h] at h1;cases h1
 ·exact h h2
section
variable {x:V}
theorem ac9 (h:x.kd=0):x.iT=none:=by unfold V.iT;rw [if_pos h]
theorem ada (h:x.kd≠0) (hp:(x.txt nK).2=false):x.iT=none:=by unfold V.iT;rw [if_neg h,if_pos hp]
theorem adb (h:x.kd=1\/x.kd=3\/x.kd=6) (hp:(x.txt nK).2=true):x.iT=if(x.member xt).isSome=true then some ⟨x.kd,(x.txt nK).1,⟨#[]⟩,x.iG xt⟩ else none:=by
 unfold V.iT;rw [if_neg (by omega),if_neg (by rw [hp];decide),if_pos h]
theorem ade (h:x.kd=4\/x.kd=5) (hp:(x.txt nK).2=true):x.iT=if(x.txt vH).2=true then some ⟨x.kd,(x.txt nK).1,(x.txt vH).1,V.zero⟩ else none:=by
 unfold V.iT;rw [if_neg (by omega),if_neg (by rw [hp];decide),if_neg (by omega),if_pos h]
theorem adf (h:x.kd=2) (hp:(x.txt nK).2=true):x.iT=some ⟨x.kd,(x.txt nK).1,⟨#[]⟩,V.zero⟩:=by
 unfold V.iT;rw [if_neg (by omega),if_neg (by rw [hp];decide),if_neg (by omega),if_neg (by omega)]
end
theorem adg (x:V) (ka:aq) (kc:Nat) (la:aq) (lc:Nat) (S:aA) (w:World) (hsz:x.size<=1073741824) (eG:rC w) (hin:x.In w S ka kc la lc):
 Calls prog 92 #[x.val ka kc la lc] w (ac7 S x w):=by
 obtain⟨SS,bk⟩:∃SS:aA,SS=fun b=>(S b/\b<w.heap.size)\/w.heap.size+3<=b:=⟨_,rfl⟩
 have aJ:=ae (show x.In w SS ka kc la lc from hin.mono fun b h hl=>by rw [bk];exact .inl ⟨h,hl⟩);have cw:=ae (show∀b,w.heap.size+3<=b->SS b from fun b h=>by rw [bk];exact .inr h);have bP:=ae (show∀b,SS b->b≠w.heap.size+1/\b≠w.heap.size+2 from fun b h=>by rw [bk] at h;rcases h with h|h<;>omega);have bL:=ae (show∀b,SS b->aW S w b from fun b h=>by rw [bk] at h;exact h.elim (fun h=> .inl h.1) (fun h=> .inr (by omega)));clear bk hin;obtain⟨s,hs⟩:∃s,(x.txt Eb).1=s:=⟨_,rfl⟩;obtain⟨ok,hok⟩:∃b,(x.txt Eb).2=b:=⟨_,rfl⟩;obtain⟨p,hp⟩:∃p,(x.txt nK).1=p:=⟨_,rfl⟩;obtain⟨okp,TW⟩:∃b,(x.txt nK).2=b:=⟨_,rfl⟩;have Hs:=ae hs;have dv:=ae hok;have Hp:=ae hp;have Ec:=ae TW;have MR:=ae (show x.kd=oP s ok 7 by unfold V.kd;rw [hs,hok]);have jf:=ae eG;clear hs hok hp TW eG;go_enter func92,ntmps92;go_upto_region 2 with fail
 refine aI (R:=fun wx=>aD wx w.heap.size x ka kc la lc/\af wx (w.heap.size+1) #[.int .i64 0, .string ⟨#[]⟩, .string ⟨#[]⟩, .int .i64 0, .int .i64 0, .string ⟨#[]⟩, .slice none 0 0, .slice none 0 0] 146/\af wx (w.heap.size+2) #[.int .i64 0, .string ⟨#[]⟩, .string ⟨#[]⟩, .int .i64 0, .int .i64 0, .string ⟨#[]⟩, .slice none 0 0, .slice none 0 0] 146/\Ext w wx) ⟨aj,aj,aj,Xt⟩ ?_;rintro wa ⟨ag,ai,ak,aF⟩;have hz2:=ak.lt;obtain⟨hc0,aw,hl0⟩:=ag.see;go_wp2_with fail;(refine(MS x ka kc la lc SS Eb _ hsz (aJ.out.ext Xt)).mono ?_);rw [Hs.out,dv.out];rintro e w1 ⟨rfl,h1⟩;have ag:=af.ext (w':=w1) Xt ag;have ai:=af.ext (w':=w1) Xt ai;have ak:=af.ext (w':=w1) Xt ak;have hx1:Ext w w1:=Xt;clear h1 aF hc0 aw hl0;go_wp2_with fail
 go_loopg [7] 6 (fun g i wr=>∃k:Nat,1<=k/\k<=7/\i= .int .i64 k/\g=7-k/\aD wr w.heap.size x ka kc la lc/\af wr (w.heap.size+1) #[.int .i64 0, .string ⟨#[]⟩, .string ⟨#[]⟩, .int .i64 0, .int .i64 0, .string ⟨#[]⟩, .slice none 0 0, .slice none 0 0] 146/\af wr (w.heap.size+2) #[.int .i64 (oP s ok k), .string ⟨#[]⟩, .string ⟨#[]⟩, .int .i64 0, .int .i64 0, .string ⟨#[]⟩, .slice none 0 0, .slice none 0 0] 146/\Ext w wr)
 case atStart=>exact⟨1,by omega,by omega,rfl,rfl,ag,ai,by rw [adh];exact ak,hx1⟩
 case round=>
  clear ag ai ak hx1;obtain⟨k,hk1,hk7,rfl,rfl,ag,ai,ak,hx⟩:=hrel;obtain⟨hc2,hf2,hl2⟩:=ak.see;by_cases hlt:k<7
  ·have hle:(k:Int)<=6:=by omega
   have gh:(0:Int)<= (k:Int):=by omega
   have ahq:(k:Int)<7:=by omega
   have e0:=hx.cell (jf.out k hlt);obtain⟨nk,qT⟩:∃q,qj k=q:=⟨_,rfl⟩;have D8:=ae qT;rw [qT] at e0;clear qT;by_cases hq:nk=s
   ·have yg:(nk.toList==s.toList)=true:=by rw [hq];simp
    cases ok with
    |true=>
     have Hk:=ae (ac8 hk1 (D8.out.trans hq));clear hq;go_wp2_with fail;go_roundg (7-(k+1))
     case measure=>omega
     case rel=>exact⟨k+1,by omega,by omega,by go_num,rfl,aj,aj,by rw [Hk.out];exact aj,Xt⟩
    |false=>
     have Hk:=ae (TV (s:=s) (ok:=false) (k:=k) (.inl rfl));clear hq;go_wp2_with fail;go_roundg (7-(k+1))
     case measure=>omega
     case rel=>exact⟨k+1,by omega,by omega,by go_num,rfl,aj,aj,by rw [Hk.out];exact aj,Xt⟩
   ·have yg:(nk.toList==s.toList)=false:=by simpa using fun h=>hq (ln h)
    have Hk:=ae (TV (ok:=ok) (k:=k) (.inr (fun h=>hq (D8.out.symm.trans h))));clear hq;go_wp2_with fail;go_roundg (7-(k+1))
    case measure=>omega
    case rel=>exact⟨k+1,by omega,by omega,by go_num,rfl,aj,aj,by rw [Hk.out];exact aj,Xt⟩
  ·obtain rfl:k=7:=by omega
   rw [<-MR.out] at ak;obtain⟨kd,Aj⟩:∃q,x.kd=q:=⟨_,rfl⟩;have adi:=adj s ok 7;rw [<-MR.out,Aj] at adi;rw [Aj] at ak;have Hq:=ae Aj;clear MR Aj hc2 hf2 hl2;obtain⟨hc1,aB,az⟩:=ai.see;obtain⟨hc2,hf2,hl2⟩:=ak.see;by_cases h0:kd=0
   ·have b0:(kd==0)=true:=by simpa using h0
    have Hr:=ae (ac9 (Hq.out.trans h0));clear h0;go_wp2_with fail;refine aG (h:= ?_);exact⟨⟨kd,⟨#[]⟩,⟨#[]⟩,V.zero⟩,none,0,none,0,false,rfl,V.nX _ _,Hr.out,Xt⟩
   have b0:(kd==0)=false:=by simpa using h0
   have H0:=ae h0;clear h0;obtain⟨hc0,aw,hl0⟩:=ag.see;go_wp2_with fail;(refine(MS x ka kc la lc SS nK _ hsz (aJ.out.ext Xt)).mono ?_);rw [Hp.out,Ec.out];rintro e w2 ⟨rfl,h2⟩;have ag:=af.ext (w':=w2) Xt ag;have ai:=af.ext (w':=w2) Xt ai;have ak:=af.ext (w':=w2) Xt ak;have hx2:Ext w w2:=Xt;clear h2 hx hc0 aw hl0 hc1 aB az hc2 hf2 hl2;obtain⟨hc2,hf2,hl2⟩:=ak.see;go_upto_region 11 with fail
   refine aI (R:=fun wx=>aD wx w.heap.size x ka kc la lc/\af wx (w.heap.size+1) #[.int .i64 0, .string ⟨#[]⟩, .string ⟨#[]⟩, .int .i64 0, .int .i64 0, .string ⟨#[]⟩, .slice none 0 0, .slice none 0 0] 146/\af wx (w.heap.size+2) #[.int .i64 kd, .string p, .string ⟨#[]⟩, .int .i64 0, .int .i64 0, .string ⟨#[]⟩, .slice none 0 0, .slice none 0 0] 146/\Ext w wx) ⟨aj,aj,aj,Xt⟩ ?_;clear ag ai ak hx2 hc2 hf2 hl2;rintro wb ⟨ag,ai,ak,hx⟩;have hz3:=ak.lt;obtain⟨hc0,aw,hl0⟩:=ag.see;obtain⟨hc1,aB,az⟩:=ai.see;obtain⟨hc2,hf2,hl2⟩:=ak.see
   cases okp with
   |false=>
    have Hr:=ae (ada (by rw [Hq.out];exact H0.out) Ec.out);go_wp2_with fail;refine aG (h:= ?_);exact⟨⟨kd,p,⟨#[]⟩,V.zero⟩,none,0,none,0,false,rfl,V.nX _ _,Hr.out,Xt⟩
   |true=>
    by_cases hv:kd=1\/kd=3\/kd=6
    ·obtain⟨z,hz⟩:∃z,x.iG xt=z:=⟨_,rfl⟩
     obtain⟨ms,vq⟩:∃b,(x.member xt).isSome=b:=⟨_,rfl⟩;have Hr:=ae (show x.iT=if ms=true then some ⟨kd,p,⟨#[]⟩,z⟩ else none by rw [adb (by rw [Hq.out];exact hv) Ec.out,Hq.out,Hp.out,hz,vq]);have Hz:=ae hz;have uM:=ae vq;clear hz vq;rcases hv with rfl|rfl|rfl
     all_goals
      go_wp2_with fail;(refine(qq x xt ka kc la lc SS _ hsz (aJ.out.ext Xt)).mono ?_);rw [Hz.out,uM.out];rintro e w3 ⟨aZ,bf,bg,bh,rfl,bj,h3⟩;have ai:=af.ext (w':=w3) Xt ai;have ak:=af.ext (w':=w3) Xt ak;have hx3:Ext w w3:=Xt;have bN:=ae (show z.In w3 SS aZ bf bg bh from bj.mono fun q h _=>h.elim id (fun h=>cw.out q (by(try simp at h);omega)));clear h3 hx bj ag hc0 aw hl0 hc1 aB az hc2 hf2 hl2;obtain⟨hc1,aB,az⟩:=ai.see;obtain⟨hc2,hf2,hl2⟩:=ak.see;go_wp2_with fail;refine aG (h:= ?_);exact⟨⟨_,p,⟨#[]⟩,z⟩,aZ,bf,bg,bh,ms,rfl,bN.out.keep (Held.kept (Held.mono (a:=w3) (S:=fun b=>b≠w.heap.size+1/\b≠w.heap.size+2) aC bP.out)) (fun b hb _=>bL.out b hb),Hr.out,Xt⟩
    ·by_cases hf:kd=4\/kd=5
     ·obtain⟨f,MT⟩:∃f,(x.txt vH).1=f:=⟨_,rfl⟩
      obtain⟨TX,MU⟩:∃b,(x.txt vH).2=b:=⟨_,rfl⟩;have Hr:=ae (show x.iT=if TX=true then some ⟨kd,p,f,V.zero⟩ else none by rw [ade (by rw [Hq.out];exact hf) Ec.out,Hq.out,Hp.out,MT,MU]);have Hff:=ae MT;have adk:=ae MU;clear MT MU hv;rcases hf with rfl|rfl
      all_goals
       go_wp2_with fail;(refine(MS x ka kc la lc SS vH _ hsz (aJ.out.ext Xt)).mono ?_);rw [Hff.out,adk.out];rintro e w3 ⟨rfl,h3⟩;have ai:=af.ext (w':=w3) Xt ai;have ak:=af.ext (w':=w3) Xt ak;have hx3:Ext w w3:=Xt;clear h3 hx ag hc0 aw hl0 hc1 aB az hc2 hf2 hl2;obtain⟨hc1,aB,az⟩:=ai.see;obtain⟨hc2,hf2,hl2⟩:=ak.see;go_wp2_with fail;refine aG (h:= ?_);exact⟨⟨_,p,f,V.zero⟩,none,0,none,0,TX,rfl,V.nX _ _,Hr.out,Xt⟩
     ·have h2:kd=2:=by have:=H0.out;omega
      have Hr:=ae (show x.iT=some ⟨kd,p,⟨#[]⟩,V.zero⟩ by rw [adf (by rw [Hq.out];exact h2) Ec.out,Hq.out,Hp.out]);subst h2;clear hv hf;go_wp2_with fail;refine aG (h:= ?_);exact⟨⟨_,p,⟨#[]⟩,V.zero⟩,none,0,none,0,true,rfl,V.nX _ _,Hr.out,Xt⟩
end Go.Proofs.YtlcebdaghmdkeaaGreatDoor
