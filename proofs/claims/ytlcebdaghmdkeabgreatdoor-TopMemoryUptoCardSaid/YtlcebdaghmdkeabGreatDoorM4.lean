import Derived.Lib.AppendIntMem
import Derived.Lib.SmallJoins
import Derived.Lib.AppendStr
import Derived.Lib.OthersKept
import Derived.Shelf.Strings.SlTrimAscii
import Derived.Test.YtlcebdaghmdkeabGreatDoorM3
set_option linter.all false
set_option maxRecDepth 100000
set_option maxHeartbeats 64000000
namespace Go.Proofs.YtlcebdaghmdkeabGreatDoor
open Go.Proofs.Tryz
open Go.RowKit
structure cS (w:World):Prop where
 max:fL w
 es:∃ev,w.cell? ⟨4,0,none⟩=some ev/\ (ev= .nilIface\/∃te pe,ev= .iface te pe)
 er:∃ev,w.cell? ⟨5,0,none⟩=some ev/\ (ev= .nilIface\/∃te pe,ev= .iface te pe)
 tab:Lib.TabIs prog w "internal/strconv.uint64pow10" .u64 Lib.pow10Tab
theorem Vz {P:Program} {w w':World} {name:String} {k:IntKind} {zs:List Int} (h:Lib.TabIs P w name k zs) (e:Ext w w'):Lib.TabIs P w' name k zs:=by
 unfold Lib.TabIs World.var? at*
 cases hg:P.globalNamed name with
 |none=>simp [hg] at h
 |some g=>
  simp only [hg,Option.bind_some] at h⊢;have hlt:g<w.heap.size:=by
   rcases Nat.lt_or_ge g w.heap.size with h'|h'
   ·exact h'
   ·rw [Array.getElem?_eq_none h'] at h;simp at h
  rw [Below.block e g hlt];exact h
theorem cS.ext {w w':World} (h:cS w) (e:Ext w w'):cS w':=by
 obtain⟨h1,⟨ev,h2,h2'⟩,⟨er,h3,h3'⟩,h4⟩:=h;exact⟨h1.ext e,⟨ev,e.cell h2,h2'⟩,⟨er,e.cell h3,h3'⟩,Vz h4 e⟩
theorem xm {l:List UInt8} {v:Int} (h:Lib.atoiAll l= .ok v): -9223372036854775808<=v/\v<=9223372036854775807:=by
 unfold Lib.atoiAll at h
 split at h
 ·cases h
 ·simp only at h
  split at h
  ·cases h
  ·cases h
  ·split at h
   ·cases h
   ·split at h
    ·cases h
    ·cases h
     split<;>omega
theorem sy (s:ah) (hs:s.size<=1073741824) (v:Int) (h:Lib.atoiAll s.data.toList= .ok v) (w:World):
 Calls prog 100 #[.string s] w fun e w'=>e= .returned (.tuple #[.int .i64 v, .nilIface])/\Ext w w':=by
 refine(Tryz.strconv_Atoi_ok s (by omega) v h w).mono ?_;rintro e w' ⟨rfl,h|⟨t,h⟩⟩
 ·subst h;exact⟨rfl,Ext.refl _⟩
 ·subst h;exact⟨rfl,Go.Joins.below_bytesWorld _ _ _ _ (Nat.le_refl _)⟩
theorem xn (s:ah) (hs:s.size<=1073741824) (h:∀v,Lib.atoiAll s.data.toList≠ .ok v) (w:World) (hl:cS w):
 Calls prog 100 #[.string s] w fun e w'=>∃n N,e= .returned (.tuple #[.int .i64 n, .iface 239 (.pointer (some ⟨N,0,none⟩))])/\Ext w w':=by
 obtain⟨ev,h2,h2'⟩:=hl.es;obtain⟨er,h3,h3'⟩:=hl.er
 cases hq:Lib.atoiAll s.data.toList
 ·rename_i v;exact absurd hq (h v)
 ·refine(Any.strconv_Atoi_syntax Tryz.G8 s (by omega) hq ev w h2 h2').mono ?_
  rintro e w' ⟨N,rfl,-,-,h4⟩;exact⟨_,N,rfl,h4⟩
 ·refine(Any.strconv_Atoi_range Tryz.G8 s (by omega) hq er w h3 h3').mono ?_
  rintro e w' ⟨N,rfl,-,-,h4⟩;exact⟨_,N,rfl,h4⟩
theorem gS (n:Int) (h0: -9223372036854775808<=n) (h1:n<=9223372036854775807) (q:ah) (hq:Lib.itoa n=q.data.toList) (w:World) (hl:cS w):
 Calls prog 101 #[.int .i64 n] w fun e w'=>e= .returned (.string q)/\Ext w w':=by
 refine(Tryz.strconv_Itoa n h0 h1 w hl.tab).mono ?_;rintro e w' ⟨rfl,k,os,rfl⟩;refine⟨?_,Lib.below_grow _ _ (Nat.le_refl _) _ _⟩;rw [hq]
theorem VA (n:Nat):jm ⟨#[45]⟩ n=some n:=by unfold jm;rw [if_pos rfl]
theorem A1 (name:ah) (n:Nat) (hs:name.size<=1073741824) (hn:n<=1073741824) (w:World) (hl:cS w):
 Calls prog 69 #[.string name, .int .i64 n] w fun e w'=>e= .returned (.tuple #[.int .i64 ((jm name n).getD 0:Nat), .bool (jm name n).isSome])/\Ext w w':=by
 by_cases hd:name.data.toList= [45]
 ·obtain rfl:name=⟨#[45]⟩:=kK (by rw [ByteArray.toList_eq,ByteArray.toList_eq,hd])
  rw [VA];go_enter func69,ntmps69;go_wp2_with fail;go_ret2;exact⟨rfl,Xt⟩
 ·have hb1:(name.toList== [45])=false:=by rw [ByteArray.toList_eq];simpa using hd
  have hb2:¬name.toList= [45]:=by rw [ByteArray.toList_eq];exact hd
  have hi:jm name n=(match Lib.atoiAll name.data.toList with| .ok k=>if name.size<=4/\0<=k/\Lib.itoa k=name.data.toList then some k.toNat else none|_=>none):=by unfold jm;rw [if_neg hd];cases Lib.atoiAll name.data.toList<;>rfl
  by_cases hok:∃v,Lib.atoiAll name.data.toList= .ok v
  ·obtain⟨v,hv⟩:=hok
   obtain⟨r0,r1⟩:=xm hv;rw [hv] at hi;simp only at hi;have Hv:=ae hv;clear hv hd;by_cases h4:name.size<=4
   ·have VB:¬(4:Int)<(name.size:Int):=by omega
    have h4j:(name.size:Int)<=4:=by omega
    by_cases h0:0<=v
    ·obtain⟨u,rfl⟩:=Int.eq_ofNat_of_zero_le h0
     rw [Int.toNat_natCast] at hi;have A5:¬(u:Int)<0:=by omega
     obtain⟨q,hq⟩:∃q:ah,Lib.itoa (u:Int)=q.data.toList:=⟨⟨(Lib.itoa (u:Int)).toArray⟩,rfl⟩;have Hq:=ae hq;by_cases he:q=name
     ·rw [if_pos ⟨h4,h0,by rw [hq,he]⟩] at hi
      subst he;rw [hi];clear hi hq;go_enter func69,ntmps69;go_wp2_with fail;(with_reducible refine(sy q hs (u:Int) Hv.out _).mono ?_);rintro e w1 ⟨rfl,h1⟩;obtain⟨mZ,ng,ij⟩:=bZ h1;(try simp at ij);have hx1:Ext w w1:=Xt;clear h1;go_wp2_with fail;(with_reducible refine(gS (u:Int) r0 r1 q Hq.out _ (hl.ext Xt)).mono ?_);rintro e w2 ⟨rfl,h2⟩;obtain⟨qG,qH,lJ⟩:=bZ h2;(try simp at lJ);go_wp2_with fail;go_ret2;exact⟨rfl,Xt⟩
     ·rw [if_neg (fun h=>he (kK (by rw [ByteArray.toList_eq,ByteArray.toList_eq,<-hq,h.2.2])))] at hi
      have MW:(q.toList==name.toList)=false:=by simpa using fun h=>he (kK h)
      have xo:(q.toList !=name.toList)=true:=by simpa using fun h=>he (kK h)
      rw [hi];clear hi hq he;go_enter func69,ntmps69;go_wp2_with fail;(with_reducible refine(sy name hs (u:Int) Hv.out _).mono ?_);rintro e w1 ⟨rfl,h1⟩;obtain⟨mZ,ng,ij⟩:=bZ h1;(try simp at ij);have hx1:Ext w w1:=Xt;clear h1;go_wp2_with fail;(with_reducible refine(gS (u:Int) r0 r1 q Hq.out _ (hl.ext Xt)).mono ?_);rintro e w2 ⟨rfl,h2⟩;obtain⟨qG,qH,lJ⟩:=bZ h2;(try simp at lJ);go_wp2_with fail;go_ret2;exact⟨rfl,Xt⟩
    ·have A5:v<0:=by omega
     rw [if_neg (fun h=>h0 h.2.1)] at hi;rw [hi];clear hi;go_enter func69,ntmps69;go_wp2_with fail;(with_reducible refine(sy name hs v Hv.out _).mono ?_);rintro e w1 ⟨rfl,h1⟩;obtain⟨mZ,ng,ij⟩:=bZ h1;(try simp at ij);go_wp2_with fail;go_ret2;exact⟨rfl,Xt⟩
   ·have VB:(4:Int)<(name.size:Int):=by omega
    rw [if_neg (fun h=>h4 h.1)] at hi;rw [hi];clear hi;go_enter func69,ntmps69;go_wp2_with fail;(with_reducible refine(sy name hs v Hv.out _).mono ?_);rintro e w1 ⟨rfl,h1⟩;obtain⟨mZ,ng,ij⟩:=bZ h1;(try simp at ij);go_wp2_with fail;go_ret2;exact⟨rfl,Xt⟩
  ·have hbad:∀v,Lib.atoiAll name.data.toList≠ .ok v:=fun v h=>hok ⟨v,h⟩
   have hi2:jm name n=none:=by
    rw [hi]
    cases hq:Lib.atoiAll name.data.toList
    ·rename_i v;exact absurd hq (hbad v)
    ·rfl
    ·rfl
   have qI:=ae hbad;rw [hi2];clear hi hi2 hbad hok hd;go_enter func69,ntmps69;go_wp2_with fail;(refine(xn name hs qI.out _ (hl.ext Xt)).mono ?_);rintro e w1 ⟨n1,N1,rfl,h1⟩;go_wp2_with fail;go_ret2;exact⟨rfl,Xt⟩
def MX (r:Option Nat) (w:World) (e:Ending) (w':World):Prop:=∃q:Nat,e= .returned (.tuple #[.int .i64 q, .bool r.isSome])/\ (∀i,r=some i->q=i)/\Ext w w'
theorem tP (x:V) (ka:aq) (kc:Nat) (la:aq) (lc:Nat) (S:aw) (name:ah) (w:World) (hx:x.sound) (hsz:x.size<=1073741824) (hs:name.size<=1073741824) (hin:x.In w S ka kc la lc) (hl:cS w):
 Calls prog 46 #[x.val ka kc la lc, .string name] w (MX (x.child name) w):=by
 have hll:=x.jO;have hf:=hx.flat;by_cases h5:x.k=5
 ·have mU:(x.k==5)=true:=by simpa using h5
  have hlen:=hf.len h5;have bs:=fun w' (e:Ext w w')=>zw ka x.keys.length kc x.keys S name w' rfl (((V.df ..).1 (hin.ext e)).2.2.1) hf.eG (by omega);have Bs:=ae bs;have hc:x.child name=if hasB x.keys name=true then some (posOf x.keys name) else none:=by unfold V.child;rw [if_pos h5]
  have Hc:=ae hc;clear bs hf hc hlen h5;go_enter func46,ntmps46;go_wp2_with fail;(refine(Bs.out _ Xt).mono ?_);rintro e w1 ⟨rfl,h1⟩;go_wp2_with fail;go_ret2;refine⟨posOf x.keys name,?_,?_,Xt⟩
  ·rw [Hc.out]
   cases hasB x.keys name<;>rfl
  ·rw [Hc.out]
   intro i h
   split at h
   ·exact Option.some.inj h
   ·cases h
 ·have mU:(x.k==5)=false:=by simpa using h5
  by_cases h4:x.k=4
  ·have hk4:(x.k==4)=true:=by simpa using h4
   have hc:x.child name=(jm name x.l.length).bind fun k=>if k<x.l.length then some k else none:=by unfold V.child;rw [if_neg h5,if_pos h4]
   have Hc:=ae hc;clear hf hc h5 h4
   cases hi:jm name x.l.length with
   |none=>
    have Hi:=ae hi;have idx:=fun w' (e:Ext w w')=>A1 name x.l.length hs (by omega) w' (hl.ext e);rw [hi] at idx;have DZ:=ae idx;clear hi idx;go_enter func46,ntmps46;go_wp2_with fail;(refine(DZ.out _ Xt).mono ?_);rintro e w1 ⟨rfl,h1⟩;obtain⟨mZ,ng,ij⟩:=bZ h1;(try simp at ij);go_wp2_with fail
    go_quiet (fail)
    go_wp2_with fail;go_ret2;refine⟨0,?_,?_,Xt⟩
    ·rw [Hc.out,Hi.out];rfl
    ·rw [Hc.out,Hi.out];intro i h;cases h
   |some q=>
    have Hi:=ae hi;have idx:=fun w' (e:Ext w w')=>A1 name x.l.length hs (by omega) w' (hl.ext e);rw [hi] at idx;have DZ:=ae idx;clear hi idx;by_cases hlt:q<x.l.length
    ·have dA:(q:Int)<(x.l.length:Int):=by omega
     go_enter func46,ntmps46;go_wp2_with fail;(refine(DZ.out _ Xt).mono ?_);rintro e w1 ⟨rfl,h1⟩;obtain⟨mZ,ng,ij⟩:=bZ h1;(try simp at ij);go_wp2_with fail
     go_quiet (fail)
     go_wp2_with fail;go_ret2;refine⟨q,?_,?_,Xt⟩
     ·rw [Hc.out,Hi.out,Option.bind_some,if_pos hlt];simp
     ·rw [Hc.out,Hi.out,Option.bind_some,if_pos hlt];intro i h;exact Option.some.inj h
    ·have dA:(x.l.length:Int)<= (q:Int):=by omega
     go_enter func46,ntmps46;go_wp2_with fail;(refine(DZ.out _ Xt).mono ?_);rintro e w1 ⟨rfl,h1⟩;obtain⟨mZ,ng,ij⟩:=bZ h1;(try simp at ij);go_wp2_with fail
     go_quiet (fail)
     go_wp2_with fail;go_ret2;refine⟨q,?_,?_,Xt⟩
     ·rw [Hc.out,Hi.out,Option.bind_some,if_neg hlt];simp
     ·rw [Hc.out,Hi.out,Option.bind_some,if_neg hlt];intro i h;cases h
  ·have hk4:(x.k==4)=false:=by simpa using h4
   have hc:x.child name=none:=by unfold V.child;rw [if_neg h5,if_neg h4]
   rw [hc];clear hf hc h5 h4;go_enter func46,ntmps46;go_wp2_with fail;go_ret2;exact⟨0,rfl,(fun i h=>by cases h),Xt⟩
theorem Tryz.GY:(prog.info? 5).map (fun i=>(i.zero,i.size,i.bytes))=some (some (.int .u8 0),1,1):=by kernel_rfl
def cW (w:World) (B:Nat) (v:Value) (l:Bytes):Prop:=w.ownsRow B 5 1 v l.length (Lib.byteCells l)
structure Wrote (B:Nat) (w w':World):Prop where
 below:Below B w w'
 others:Lib.OthersKept 5 none w w'
theorem Wrote.refl (B:Nat) (w:World):Wrote B w w:=⟨Below.refl _ _,Lib.OthersKept.refl _ _ _⟩
theorem Wrote.trans {B:Nat} {a b c:World} (h:Wrote B a b) (k:Wrote B b c):Wrote B a c:=⟨h.below.trans k.below,h.others.trans k.others⟩
theorem Vr {b c:World} (e:Ext b c):Lib.OthersKept 5 none b c:=by
 intro k o hk _ _;rw [Below.block e k (Array.getElem?_eq_some_iff.1 hk).1];exact hk
theorem Wrote.ext {B:Nat} {a b c:World} (h:Wrote B a b) (hB:B<=a.heap.size) (e:Ext b c):Wrote B a c:=
 ⟨h.below.trans (Below.mono e (Nat.le_trans hB (Below.size h.below))),h.others.trans (Vr e)⟩
theorem Wrote.size {B:Nat} {a b:World} (h:Wrote B a b):a.heap.size<=b.heap.size:=Below.size h.below
theorem af.wrote {B:Nat} {w w':World} {n:Nat} {vs:Array Value} {T:TypeId} (e:Wrote B w w') (h:af w n vs T) (hT:T≠5):af w' n vs T:=
 e.others n _ h (by simp) (fun c fz he=>hT (by cases he;rfl))
theorem zo {w:World} {B:Nat} {v:Value} {n:Nat} {xs:List Value} {e s:Nat} (h:w.ownsRow B e s v n xs):∀g,v.ownBlock=some g->∃c fz,w.heap[g]? =some (.cells c e fz):=by
 intro g hg;rcases h.2 with⟨rfl,-⟩|⟨g',cap,cur,rfl,-,hgg,-⟩
 ·simp [Value.ownBlock] at hg
 ·simp [Value.ownBlock] at hg
  subst hg;exact⟨cur,_,hgg⟩
theorem Wrote.grown {B:Nat} {a w w':World} (h:Wrote B a w) (hB:B<=a.heap.size) {v:Value} {n:Nat} {xs:List Value} (hown:w.ownsRow B 5 1 v n xs) (g:w.grownBy w' v.ownBlock):Wrote B a w':=
 ⟨Below.grown h.below g (Nat.le_trans hB h.size) (fun k hk=>(hown.lt k hk).1),h.others.grown g (zo hown)⟩
theorem cW.nil (w:World) (B:Nat):cW w B (.slice none 0 0) []:=World.ownsRow_nil _ _ _ _
theorem cW.ext {w w':World} {B:Nat} {v:Value} {l:Bytes} (h:cW w B v l) (e:Ext w w'):cW w' B v l:=eu h e
theorem cW.form {w:World} {B:Nat} {v:Value} {l:Bytes} (h:cW w B v l):∃a c,v= .slice a l.length c/\aM a l.length c:=fG h
theorem byteCells_one (l:Bytes):∀u∈Lib.byteCells l,u.oneCell'=true:=by
 intro u hu;simp only [Lib.byteCells,List.mem_map] at hu;obtain⟨b,-,rfl⟩:=hu;rfl
theorem mV {w:World} {ops:Array Oper} {rest:List Oper} {o:Oper} {a:Act} {Q:Exit->Act->World->Prop} (hgd:o.guard=none) (s x:Operand) (t:TypeId)
 (ho:o.op= .call {callee:= .builtin .append,args:= #[s,x],argTypes:= #[t,t]}) (ht:prog.underlying t=some (.slice 5))
 (B:Nat) (v:Value) (l:Bytes) (hs:a.eval s=v) (hown:cW w B v l) (ad:Addr) (m c:Nat) (news:Bytes) (hx:a.eval x= .slice (some ad) m c) (hm:news.length=m)
 (hnews:∀j u,(Lib.byteCells news)[j]? =some u->w.cell? (ad.add j)=some u) (hlim:l.length+m<=140737488355328) (hB:B<=w.heap.size)
 (h:∀v' w',cW w' B v' (l++news)->w.grownBy w' v.ownBlock->wpList prog ops Q rest (a.put o.dst v') w'):wpList prog ops Q (o::rest) a w:=by
 obtain⟨i0,hi,hz0,hz1,hz2⟩:=info_parts Tryz.GY;refine wpList_append_own _ hgd s x t ho B 5 i0 _ 1 1 ht hi hz0 hz1 hz2 rfl (by decide) v l.length _ hs hown ad m c (Lib.byteCells news) hx (by rw [Lib.byteCells_length,hm];omega) hnews (byteCells_one _) (by unfold maxLen;omega) (by omega) hB ?_;intro v' w' h1 h2 _;refine h v' w' ?_ h2;unfold cW;rw [List.length_append,Lib.byteCells_append,hm];exact h1
theorem sw {w:World} {ops:Array Oper} {rest:List Oper} {o:Oper} {a:Act} {Q:Exit->Act->World->Prop} (hgd:o.guard=none) (sl x:Operand) (t u:TypeId)
 (ho:o.op= .call {callee:= .builtin .append,args:= #[sl,x],argTypes:= #[t,u]}) (ht:prog.underlying t=some (.slice 5)) (hu:prog.underlying u=some .string)
 (B:Nat) (v:Value) (l:Bytes) (hs:a.eval sl=v) (hown:cW w B v l) (s:ah) (hx:a.eval x= .string s) (hlim:l.length+s.size<=140737488355328) (hB:B<=w.heap.size)
 (h:∀v' w',cW w' B v' (l++s.data.toList)->w.grownBy w' v.ownBlock->wpList prog ops Q rest (a.put o.dst v') w'):wpList prog ops Q (o::rest) a w:=by
 obtain⟨i0,hi,hz0,hz1,hz2⟩:=info_parts Tryz.GY;refine Lib.wpList_append_own_string _ hgd sl x t u ho B 5 i0 ht hu hi hz0 hz1 hz2 v l.length _ hs hown s hx (by unfold maxLen;omega) hlim hB ?_;intro v' w' h1 h2 _;refine h v' w' ?_ h2;unfold cW;rw [List.length_append,Lib.byteCells_append,Array.length_toList];exact h1
theorem MS {w:World} {ops:Array Oper} {o:Oper} {a:Act} {K:Act->World->Prop} {Q:Exit->Act->World->Prop} {E:Prop} (hgd:o.guard=none) (s x:Operand) (t:TypeId)
 (ho:o.op= .call {callee:= .builtin .append,args:= #[s,x],argTypes:= #[t,t]}) (ht:prog.underlying t=some (.slice 5))
 (B:Nat) (v:Value) (l:Bytes) (hs:a.eval s=v) (hown:cW w B v l) (ad:Addr) (m c:Nat) (news:Bytes) (hx:a.eval x= .slice (some ad) m c) (hm:news.length=m) (hm0:0<m)
 (hnews:∀j u,(Lib.byteCells news)[j]? =some u->w.cell? (ad.add j)=some u) (hlim:l.length+m<=140737488355328) (hB:B<=w.heap.size)
 (h:∀g cap w',cW w' B (.slice (some ⟨g,0,none⟩) (l.length+m) cap) (l++news)->w.grownBy w' v.ownBlock->K (a.put o.dst (.slice (some ⟨g,0,none⟩) (l.length+m) cap)) w'):
 if Region.wanted o (yielded ops a.tmps)=true then Oper.wp prog o a w K Q else E:=by
 obtain⟨i0,hi,hz0,hz1,hz2⟩:=info_parts Tryz.GY;refine step_append_lies _ hgd s x t ho B 5 i0 _ 1 1 ht hi hz0 hz1 hz2 rfl (by decide) v l.length _ hs hown ad m c (Lib.byteCells news) hx (by rw [Lib.byteCells_length,hm];omega) hnews (byteCells_one _) hm0 (by unfold maxLen;omega) (by omega) hB _ rfl ?_;intro g cap w' h1 h2 _ _;refine h g cap w' ?_ h2;unfold cW;rw [List.length_append,Lib.byteCells_append,hm];exact h1
end Go.Proofs.YtlcebdaghmdkeabGreatDoor
namespace Go.Proofs.YtlcebdaghmdkeabGreatDoor
open Go.RowKit
def pW (w:World) (base:Nat) (S:aw) (v:Value) (n:Nat) (l:List V):Prop:=
 l.length=n/\∃xs,w.ownsRow base 36 5 v n xs/\cH w (fun b=>b<base/\S b) l xs
theorem pW.nil (w:World) (base:Nat) (S:aw):pW w base S (.slice none 0 0) 0 []:=⟨rfl, [],World.ownsRow_nil _ _ _ _,rfl⟩
theorem pW.keep {w w':World} {base:Nat} {S:aw} {v:Value} {n:Nat} {l:List V} (h:pW w base S v n l) (e:∀b,b<w.heap.size-> (b<base/\S b)\/v.ownBlock=some b->w'.heap[b]? =w.heap[b]?):pW w' base S v n l:=by
 obtain⟨h0,xs,h1,h2⟩:=h;exact⟨h0,xs,dL h1 (fun b hb he=>e b hb (.inr he)),h2.keep (fun b hb hl=>e b hl (.inl hb)) (fun _ h _=>h)⟩
theorem pW.ext {w w':World} {base:Nat} {S:aw} {v:Value} {n:Nat} {l:List V} (h:pW w base S v n l) (e:Ext w w'):pW w' base S v n l:=h.keep (fun b hb _=>Below.block e b hb)
theorem pW.push {w w1:World} {base:Nat} {S:aw} {v':Value} {n:Nat} {l:List V} {xs:List Value} (h0:l.length=n) (hc:cH w (fun b=>b<base/\S b) l xs)
 {x:V} {ka:aq} {kc:Nat} {la:aq} {lc:Nat} (hx:x.In w (fun b=>b<base/\S b) ka kc la lc)
 (hown:w1.ownsRow base 36 5 v' (n+1) (xs++ [.int .i64 x.k, .int .i64 x.n, .string x.s, .slice ka x.keys.length kc, .slice la x.l.length lc])) (hk:Kept (fun b=>b<base/\S b) w w1):pW w1 base S v' (n+1) (l++ [x]):=
 ⟨by simp [h0],_,hown,(hc.keep hk (fun _ h _=>h)).snoc (hx.keep hk (fun _ h _=>h))⟩
theorem pW.lt {w:World} {base:Nat} {S:aw} {v:Value} {n:Nat} {l:List V} (h:pW w base S v n l):∀g,v.ownBlock=some g->base<=g/\g<w.heap.size:=by
 obtain⟨_,xs,h1,_⟩:=h;exact h1.lt
theorem dK.lt {w:World} {base:Nat} {v:Value} {n:Nat} {ks:List ah} (h:dK w base v n ks):∀g,v.ownBlock=some g->base<=g/\g<w.heap.size:=h.2.lt
theorem dK.keep {w w':World} {base:Nat} {v:Value} {n:Nat} {ks:List ah} (h:dK w base v n ks) (e:∀b,b<w.heap.size->v.ownBlock=some b->w'.heap[b]? =w.heap[b]?):dK w' base v n ks:=⟨h.1,dL h.2 e⟩
theorem dK.push {w1:World} {base:Nat} {v':Value} {n:Nat} {ks:List ah} {k:ah} (h0:ks.length=n) (hown:w1.ownsRow base 9 1 v' (n+1) (ks.map Value.string++ [.string k])):dK w1 base v' (n+1) (ks++ [k]):=
 ⟨by simp [h0],by simpa using hown⟩
end Go.Proofs.YtlcebdaghmdkeabGreatDoor
namespace Go.Proofs.YtlcebdaghmdkeabGreatDoor
open Go.Proofs.Tryz
open Go.RowKit
attribute [local go_sem↓] Go.wp_at_zero Go.wp_at_succ
structure Rd (r:Nat) (w w':World):Prop where
 below:Below r w w'
 held:Held (fun b=>b≠r) w w'
theorem Rd.refl (r:Nat) (w:World):Rd r w w:=⟨Below.refl _ _,Held.refl _ _⟩
theorem Rd.trans {r:Nat} {a b c:World} (h:Rd r a b) (k:Rd r b c):Rd r a c:=⟨h.below.trans k.below,h.held.trans k.held⟩
theorem Rd.size {r:Nat} {a b:World} (h:Rd r a b):a.heap.size<=b.heap.size:=h.held.size
theorem Rd.ext {r:Nat} {a b c:World} (h:Rd r a b) (hr:r<a.heap.size) (e:Ext b c):Rd r a c:=
 ⟨h.below.trans (Below.mono e (by have:=h.size;omega)),h.held.ext e⟩
theorem Rd.of {r:Nat} {a b:World} (hr:r<a.heap.size) (e:Ext a b):Rd r a b:=(Rd.refl r a).ext hr e
theorem Rd.set {r:Nat} {a b:World} (h:Rd r a b) (i:Nat) (v:Value):Rd r a (b.setCell ⟨r,i,none⟩ v):=
 ⟨h.below.setCell (Nat.le_refl _) v,h.held.set (by simp) v⟩
theorem af.rd {r:Nat} {w w':World} {n:Nat} {vs:Array Value} {T:TypeId} (e:Rd r w w') (h:af w n vs T) (hn:n≠r):af w' n vs T:=af.held e.held h hn
theorem In.rd {r:Nat} {w w':World} (e:Rd r w w') {x:V} {S:aw} {ka:aq} {kc:Nat} {la:aq} {lc:Nat} (h:x.In w S ka kc la lc) (hS:∀b,S b->b≠r):x.In w' S ka kc la lc:=
 h.keep (fun b hb hl=>e.held.block b (hS b hb) hl) (fun _ h _=>h)
abbrev Sr (w:World) (r:Nat) (s:ah) (bad:Bool):Prop:=af w r #[.string s, .bool bad] 94
theorem Sr.ext {w w':World} {r:Nat} {s:ah} {bad:Bool} (h:Sr w r s bad) (e:Ext w w'):Sr w' r s bad:=af.ext e h
theorem Sr.lt {w:World} {r:Nat} {s:ah} {bad:Bool} (h:Sr w r s bad):r<w.heap.size:=af.lt h
theorem aaR (s:Bytes):Lib.trimLeftS s [32,9,10,13]=dG s:=by
 unfold Lib.trimLeftS dG;congr 1;funext c;rw [Bool.eq_iff_iff];simp [isSp,or_assoc]
theorem KL {P:Program} {fn:Func} {R:Ending->World->Prop} {tmps:Array Value} {w:World} (hr:fn.results= #[]) (hR:R (.returned (.tuple #[])) w):
 bodyPost P fn R .normal {tmps:=tmps,defers:= []} w:=bodyPost_end (results_none hr _ _ _) rfl hR
theorem dz (r:Nat) (s:ah) (bad:Bool) (w:World) (hr:Sr w r s bad):
 Calls prog 70 #[.pointer (some ⟨r,0,none⟩)] w fun e w'=>e= .returned (.tuple #[])/\Sr w' r ⟨#[]⟩ true/\Rd r w w':=by
 obtain⟨hc0,ax,hl0⟩:=hr.see;go_enter func70,ntmps70;go_wp2_with fail;(with_reducible apply KL);(focus(rfl));exact⟨rfl,aj,((Rd.refl _ _).set _ _).set _ _⟩
theorem Ak (r:Nat) (s:ah) (bad:Bool) (w:World) (hr:Sr w r s bad):
 Calls prog 48 #[.pointer (some ⟨r,0,none⟩)] w fun e w'=>e= .returned (.tuple #[])/\ (∃s',s'.data.toList=dG s.data.toList/\Sr w' r s' bad)/\Rd r w w':=by
 have hlt:=hr.lt;obtain⟨hc0,ax,hl0⟩:=hr.see;go_enter func48,ntmps48;go_wp2_with fail;(refine(Any.strings_TrimLeft_laid Tryz.aaS (by kernel_rfl) s ⟨#[32,9,10,13]⟩ _ (by decide) (ascii_of_all (by decide))).mono ?_);rintro e w1 ⟨rfl,h1⟩;have h1:Ext w w1:=h1;have hr1:=hr.ext h1;obtain⟨s1,hs1⟩:∃s1:ah,(⟨(Lib.trimLeftS s.data.toList [32,9,10,13]).toArray⟩:ah)=s1:=⟨_,rfl⟩;have hs2:s1.data.toList=dG s.data.toList:=by rw [<-hs1,<-aaR]
 have je:=ae hs2;clear hc0 ax hl0 hs2;obtain⟨hc1,aA,ay⟩:=hr1.see;have e1:(⟨(Lib.trimLeftS s.data.toList (⟨#[32,9,10,13]⟩:ah).data.toList).toArray⟩:ah)=s1:=hs1;rw [e1];clear e1 hs1;go_wp2_with fail;(with_reducible apply KL);(focus(rfl));exact⟨rfl,⟨s1,je.out,aj⟩,(Rd.of hlt h1).set _ _⟩
def fZ (l:Bytes):UInt8:=l.headD 0
theorem aaT {s:ah} (h:0<s.size):s[0]=fZ s.data.toList:=by
 have h':0<s.data.toList.length:=by rw [Array.length_toList];exact h
 unfold fZ
 cases hc:s.data.toList with
 |nil=>rw [hc] at h';simp at h'
 |cons c t=>
  have:s.data.toList[0]'h'=c:=by simp [hc]
  rw [List.headD_cons,<-this];rfl
theorem lC (r:Nat) (s:ah) (bad:Bool) (w:World) (hr:Sr w r s bad):
 Calls prog 71 #[.pointer (some ⟨r,0,none⟩)] w fun e w'=>e= .returned (.int .u8 (fZ s.data.toList).toNat)/\w'=w:=by
 obtain⟨hc0,ax,hl0⟩:=hr.see;by_cases hz:s.data.toList= []
 ·have hz1:s.toList= []:=by rw [ByteArray.toList_eq,hz]
  have hz2:(s.toList== [])=true:=by rw [hz1];rfl
  have hz3:s.toList.isEmpty=true:=by rw [hz1];rfl
  rw [hz];clear hz;go_enter func71,ntmps71;go_wp2_with fail;refine aF (h:= ?_);exact⟨rfl,rfl⟩
 ·have hz1:¬s.toList= []:=by rw [ByteArray.toList_eq];exact hz
  have hz2:(s.toList== [])=false:=by simpa using hz1
  have hz3:s.toList.isEmpty=false:=by cases h:s.toList with|nil=>exact absurd h hz1|cons=>rfl
  have hsz:0<s.size:=by have:=List.length_pos_iff.2 hz;rw [Array.length_toList] at this;exact this
  have Hh:=ae (aaT hsz);clear hz;go_enter func71,ntmps71;go_wp2_with fail;refine aF (h:= ?_);refine⟨?_,rfl⟩;rw [<-Hh.out]
theorem wA (r:Nat) (s:ah) (bad:Bool) (p:ah) (w:World) (hr:Sr w r s bad):
 Calls prog 72 #[.pointer (some ⟨r,0,none⟩), .string p] w fun e w'=>e= .returned (.tuple #[])/\Rd r w w'/\
  ((p.data.toList.isPrefixOf s.data.toList=true/\∃s',s'.data.toList=s.data.toList.drop p.data.toList.length/\Sr w' r s' bad)\/ (p.data.toList.isPrefixOf s.data.toList=false/\Sr w' r ⟨#[]⟩ true)):=by
 obtain⟨hc0,ax,hl0⟩:=hr.see;obtain⟨s1,hs1⟩:∃s1:ah,(⟨(Lib.trimPrefix s.data.toList p.data.toList).toArray⟩:ah)=s1:=⟨_,rfl⟩;have hs2:s1.data.toList=Lib.trimPrefix s.data.toList p.data.toList:=by rw [<-hs1]
 have dU:=ae hs1;have je:=ae hs2;clear hs1 hs2
 cases hp:Lib.hasPrefix s.data.toList p.data.toList with
 |true=>
  have Hp:=ae hp;have hp2:p.data.toList.isPrefixOf s.data.toList=true:=hp;clear hp;have KM:=ae hp2;clear hp2;go_enter func72,ntmps72;go_wp2_with fail;(refine(Tryz.strings_CutPrefix s p _).mono ?_);rintro e w1 ⟨rfl,rfl⟩;rw [dU.out,Hp.out];go_wp2_with fail;(with_reducible apply KL);(focus(rfl));refine⟨rfl,(Rd.refl _ _).set _ _, .inl ⟨KM.out,s1,?_,aj⟩⟩;rw [je.out];unfold Lib.trimPrefix;rw [if_pos Hp.out]
 |false=>
  have Hp:=ae hp;have hp2:p.data.toList.isPrefixOf s.data.toList=false:=hp;clear hp;have KM:=ae hp2;clear hp2;go_enter func72,ntmps72;go_wp2_with fail;(refine(Tryz.strings_CutPrefix s p _).mono ?_);rintro e w1 ⟨rfl,rfl⟩;rw [dU.out,Hp.out];go_wp2_with fail;(refine(dz r s bad _ hr).mono ?_);rintro e w2 ⟨rfl,hr2,h2⟩;go_wp2_with fail;refine aF (h:= ?_);exact⟨rfl,h2, .inr ⟨KM.out,hr2⟩⟩
theorem rD (s:ah) (n:Nat):(s.extract n s.size).data.toList=s.data.toList.drop n:=by
 rw [Lib.extract_data,List.take_of_length_le (by rw [List.length_drop,Array.length_toList];exact Nat.le_refl _)]
def Al (r:Nat) (t:Bytes) (bad first:Bool) (c:UInt8) (w:World) (e:Ending) (w':World):Prop:=
 Rd r w w'/\∃(s':ah) (gb:Bool),Sr w' r s' gb/\ (gb=true->s'.data.toList= [])/\
  ((∃u,t=c::u/\e= .returned (.bool false)/\gb=bad/\s'.data.toList=u)\/
   (fZ t≠c/\e= .returned (.bool (!gb))/\ ((first=true/\gb=bad/\s'.data.toList=t)\/ (first=false/\ ((∃u,t=44::u/\gb=bad/\s'.data.toList=u)\/ (fZ t≠44/\gb=true))))))
theorem KN (r:Nat) (s:ah) (bad first:Bool) (c:UInt8) (hc:c≠0) (hb:bad=true->s.data.toList= []) (w:World) (hr:Sr w r s bad):
 Calls prog 103 #[.pointer (some ⟨r,0,none⟩), .bool first, .int .u8 c.toNat] w (Al r (dG s.data.toList) bad first c w):=by
 have hlt:=hr.lt;have Hb:=ae hb;clear hb;go_enter func103,ntmps103;go_wp2_with fail;(refine(Ak r s bad _ hr).mono ?_);rintro e w1 ⟨rfl,⟨s1,hs1,hr1⟩,h1⟩;have dU:=ae hs1;have hb1:bad=true->s1.data.toList= []:=fun h=>by rw [hs1,Hb.out h];rfl
 have KO:=ae hb1;clear hs1 hb1 Hb hr;have afV:=hr1.lt;by_cases hc1:fZ s1.data.toList=c
 ·have hcb:((fZ s1.data.toList).toNat:Int)=(c.toNat:Int):=by rw [hc1]
  have hcc:(((fZ s1.data.toList).toNat:Int)==(c.toNat:Int))=true:=by rw [hcb];simp
  have hne:s1.data.toList≠ []:=fun h=>by rw [h] at hc1;exact hc hc1.symm
  have hsz:1<=s1.size:=by have:=List.length_pos_iff.2 hne;rw [Array.length_toList] at this;exact this
  have hsz1:(1:Int)<= (s1.size:Int):=by omega
  have p7:s1.data.toList=c::s1.data.toList.drop 1:=by
   cases hq:s1.data.toList with
   |nil=>exact absurd hq hne
   |cons d t=>rw [hq] at hc1;simp only [fZ,List.headD_cons] at hc1;rw [hc1];rfl
  have oJ:=ae p7;clear p7 hne hc1 hcb;obtain⟨hc1,aA,ay⟩:=hr1.see;go_wp2_with fail;(refine(lC r s1 bad _ hr1).mono ?_);rintro e w2 ⟨rfl,rfl⟩;go_wp2_with fail;refine aF (h:= ?_);rw [<-dU.out];unfold Al;refine⟨h1.set _ _,s1.extract 1 s1.size,bad,aj,fun h=>by rw [rD,KO.out h];rfl, .inl ⟨s1.data.toList.drop 1,oJ.out,rfl,rfl,rD _ _⟩⟩
 ·have hcb:¬((fZ s1.data.toList).toNat:Int)=(c.toNat:Int):=fun h=>hc1 (by apply UInt8.toNat_inj.1;omega)
  have hcc:(((fZ s1.data.toList).toNat:Int)==(c.toNat:Int))=false:=by simpa using hcb
  have KP:=ae hc1;clear hc1 hcb;obtain⟨hc1,aA,ay⟩:=hr1.see;go_wp2_with fail;(refine(lC r s1 bad _ hr1).mono ?_);rintro e w2 ⟨rfl,rfl⟩
  cases first with
  |true=>
   go_wp2_with fail;refine aF (h:= ?_);rw [<-dU.out];unfold Al;exact⟨h1,s1,bad,hr1,KO.out, .inr ⟨KP.out,rfl, .inl ⟨rfl,rfl,rfl⟩⟩⟩
  |false=>
   go_wp2_with fail;(refine(wA r s1 bad ⟨#[44]⟩ _ hr1).mono ?_);rintro e w3 ⟨rfl,h3,(⟨hp,s3,hs3,hr3⟩|⟨hp,hr3⟩)⟩
   ·have p7:s1.data.toList=44::s3.data.toList:=by
     rw [hs3]
     cases hq:s1.data.toList with
     |nil=>rw [hq] at hp;simp [List.isPrefixOf] at hp
     |cons d t=>
      rw [hq] at hp;simp only [List.isPrefixOf,Bool.and_true,beq_iff_eq] at hp;rw [<-hp];rfl
    have oJ:=ae p7;clear p7 hp hs3 hc1 aA ay;obtain⟨hc3,hf3,aS⟩:=hr3.see;go_wp2_with fail;refine aF (h:= ?_);rw [<-dU.out];unfold Al;exact⟨h1.trans h3,s3,bad,hr3,(fun h=>by have:=KO.out h;rw [oJ.out] at this;cases this), .inr ⟨KP.out,rfl, .inr ⟨rfl, .inl ⟨_,oJ.out,rfl,rfl⟩⟩⟩⟩
   ·have hne:fZ s1.data.toList≠44:=fun h=>by
     cases hq:s1.data.toList with
     |nil=>rw [hq] at h;simp [fZ] at h
     |cons d t=>
      rw [hq] at h hp;simp only [fZ,List.headD_cons] at h;rw [h] at hp;simp [List.isPrefixOf] at hp
    have dS:=ae hne;clear hne hp hc1 aA ay;obtain⟨hc3,hf3,aS⟩:=hr3.see;go_wp2_with fail;refine aF (h:= ?_);rw [<-dU.out];unfold Al;exact⟨h1.trans h3,⟨#[]⟩,true,hr3,fun _=>rfl, .inr ⟨KP.out,rfl, .inr ⟨rfl, .inr ⟨dS.out,rfl⟩⟩⟩⟩
end Go.Proofs.YtlcebdaghmdkeabGreatDoor
