import Derived.Test.YtlcebdaghmdkeabGreatDoorTpN
set_option linter.all false
set_option maxRecDepth 100000
set_option maxHeartbeats 64000000
namespace Go.Proofs.YtlcebdaghmdkeabGreatDoor
open Go.Proofs.Tryz
open Go.RowKit
attribute [local go_sem↓] Go.wp_at_zero Go.wp_at_succ
theorem afH {P:Program} {w:World} {o:Oper} {a:Act} {K:Act->World->Prop} {Q:Exit->Act->World->Prop} (s x:Operand) (t:TypeId)
 (ho:o.op= .call {callee:= .builtin .append,args:= #[s,x],argTypes:= #[t,t]})
 (base:Nat) (e:TypeId) (i:TypeInfo) (z:Value) (size bytes:Nat) (ht:P.underlying t=some (.slice e)) (hi:P.info? e=some i) (hz:i.zero=some z)
 (hsize:i.size=size) (hby:i.bytes=bytes) (hzs:z.cells.size=size) (hsz:0<size)
 (v:Value) (n:Nat) (xs:List Value) (hs:a.eval s=v) (hown:w.ownsRow base e size v n xs) (ad:au) (m c:Nat) (news:List Value) (hx:a.eval x= .slice ad m c) (hok:aM ad m c) (hl:news.length=m*size)
 (hsrc:m=0\/∃b,ad=some b/\∀j u,news[j]? =some u->w.cell? (b.add j)=some u) (h1:∀u∈news,u.oneCell'=true) (h63:n+m<=maxLen) (hbytes:(n+m)*bytes<=140737488355328) (hbase:base<=w.heap.size)
 (h:∀a' c' w',w'.ownsRow base e size (.slice a' (n+m) c') (n+m) (xs++news)->aM a' (n+m) c'->w.grownBy w' v.ownBlock->K (a.put o.dst (.slice a' (n+m) c')) w'):o.wp P a w K Q:=by
 have key:∃v' w',(Builtin.append_ #[t,t] o.type #[v, .slice ad m c]).run P w= .ok v' w'/\w'.ownsRow base e size v' (n+m) (xs++news)/\w.grownBy w' v.ownBlock:=by
  cases ad with
  |none=>
   have hc:=hok.2.2 rfl;have hm:m=0:=by have:=hok.1;omega
   subst hc hm;have hx:news= []:=List.eq_nil_of_length_eq_zero (by simpa using hl);subst hx;exact⟨_,w,run_append_owned_none (P:=P) (w:=w) base t o.type e i size ht hi v n xs hown,by simpa using hown,⟨rfl,rfl,rfl,Nat.le_refl _,fun _ _ _=>rfl⟩⟩
  |some b=>
   obtain⟨v',w',hr,h2,h3,-⟩:=run_append_own (P:=P) (w:=w) base t o.type e i z size bytes ht hi hz hsize hby hzs hsz v n xs hown b m c news hl (by
    rcases hsrc with h0|⟨K1,he,h⟩
    ·subst h0
     have hx:news= []:=List.eq_nil_of_length_eq_zero (by simpa using hl);subst hx;intro j u hj;simp at hj
    ·simp only [Option.some.injEq] at he;subst he;exact h) h1 h63 hbytes hbase
   exact⟨v',w',hr,h2,h3⟩
 obtain⟨v',w',hr,h2,h3⟩:=key;unfold Oper.wp execOp;simp only [ho,resolve,invoke,builtin,Sem.run_bind,Sem.run_pure,Result.andThen_ok,List.map_toArray,List.map_cons,List.map_nil,hs,hx,hr];obtain⟨a',c',rfl,fL⟩:=fT h2;exact h a' c' w' h2 fL h3
theorem Tryz.af7:(prog.info? 31).map (fun i=>(i.zero,i.size,i.bytes))=some (some (.agg #[.int .i64 0, .int .i64 0, .string ⟨#[]⟩]),3,32):=by kernel_rfl
theorem Tryz.afG:(prog.info? 28).map (fun i=>(i.zero,i.size,i.bytes))=some (some (.agg #[.int .i64 0, .string ⟨#[]⟩, .string ⟨#[]⟩, .string ⟨#[]⟩, .int .i64 0, .int .i64 0, .int .i64 0, .bool false]),8,88):=by kernel_rfl
def Rp.cells (y:Rp):List Value:= [.int .i64 y.c, .int .i64 y.n, .string y.b]
def Ac.cells (a:Ac):List Value:= [.int .i64 a.k, .string a.name, .string a.who, .string a.body, .int .i64 a.ver, .int .i64 a.n, .int .i64 a.ord, .bool a.force]
theorem Rp.tD (y:Rp):∀u∈y.cells,u.oneCell'=true:=by
 intro u hu;simp only [Rp.cells,List.mem_cons,List.not_mem_nil,or_false] at hu;rcases hu with rfl|rfl|rfl<;>rfl
theorem Ac.tD (a:Ac):∀u∈a.cells,u.oneCell'=true:=by
 intro u hu;simp only [Ac.cells,List.mem_cons,List.not_mem_nil,or_false] at hu;rcases hu with rfl|rfl|rfl|rfl|rfl|rfl|rfl|rfl<;>rfl
theorem Ov {α:Type} (f:α->List Value) (n:Nat) (hn:∀x,(f x).length=n):∀(l:List α) {i:Nat} (hi:i<l.length) (q:Nat) (u:Value),(f l[i])[q]? =some u-> (l.flatMap f)[i*n+q]? =some u
 | [],_,hi,_,_,_=>by simp at hi
 |x::r,0,_,q,u,h=>by have hq:q<(f x).length:=(List.getElem?_eq_some_iff.1 h).1;rw [List.flatMap_cons,Nat.zero_mul,Nat.zero_add,List.getElem?_append_left hq];exact h
 |x::r,i+1,hi,q,u,h=>by have ih:=Ov f n hn r (i:=i) (by simpa using hi) q u (by simpa using h);rw [List.flatMap_cons,List.getElem?_append_right (by rw [hn,Nat.succ_mul];omega),hn,show (i+1)*n+q-n=i*n+q by rw [Nat.succ_mul];omega];exact ih
theorem VK {α:Type} (f:α->List Value) (n:Nat) (hn:∀x,(f x).length=n):∀(l:List α),(l.flatMap f).length=l.length*n
 | []=>by simp
 |x::r=>by rw [List.flatMap_cons,List.length_append,hn,VK f n hn r,List.length_cons,Nat.succ_mul];omega
theorem afJ {α:Type} (f:α->List Value) (h:∀x,∀u∈f x,u.oneCell'=true) (l:List α):∀u∈l.flatMap f,u.oneCell'=true:=by
 intro u hu;obtain⟨x,-,hx⟩:=List.mem_flatMap.1 hu;exact h x u hx
theorem Ww {α:Type} (f:α->List Value) (n:Nat) (hn:∀x,(f x).length=n) (h0:0<n):∀(l:List α) {j:Nat} {u:Value},(l.flatMap f)[j]? =some u->∃i,∃hi:i<l.length,∃q,j=i*n+q/\ (f l[i])[q]? =some u
 | [],j,u,h=>by simp at h
 |x::r,j,u,h=>by
  rw [List.flatMap_cons] at h;by_cases hj:j<n
  ·rw [List.getElem?_append_left (by rw [hn];exact hj)] at h
   exact⟨0,by simp,j,by omega,h⟩
  ·rw [List.getElem?_append_right (by rw [hn];omega),hn] at h
   obtain⟨i,hi,q,e,hq⟩:=Ww f n hn h0 r h;exact⟨i+1,by simpa using hi,q,by rw [Nat.succ_mul];omega,hq⟩
def pQ (w:World) (base:Nat) (v:Value) (n:Nat) (l:List Rp):Prop:=l.length=n/\w.ownsRow base 31 3 v n (l.flatMap Rp.cells)
theorem pQ.nil (w:World) (base:Nat):pQ w base (.slice none 0 0) 0 []:=⟨rfl,World.ownsRow_nil _ _ _ _⟩
theorem pQ.ext {w w':World} {base:Nat} {v:Value} {n:Nat} {l:List Rp} (h:pQ w base v n l) (e:Ext w w'):pQ w' base v n l:=⟨h.1,eD h.2 e⟩
def BV (w:World) (l:List Rp) (a:au):Prop:=l= []\/∃b,a=some ⟨b,0,none⟩/\∀i (h:i<l.length),w.cell? ⟨b,i*3,none⟩=some (.int .i64 l[i].c)/\w.cell? ⟨b,i*3+1,none⟩=some (.int .i64 l[i].n)/\w.cell? ⟨b,i*3+2,none⟩=some (.string l[i].b)
theorem BV.ext {w w':World} {l:List Rp} {a:au} (h:BV w l a) (e:Ext w w'):BV w' l a:=by
 rcases h with h|⟨b,h1,h2⟩
 ·exact .inl h
 ·exact .inr ⟨b,h1,fun i hi=>⟨e.cell (h2 i hi).1,e.cell (h2 i hi).2.1,e.cell (h2 i hi).2.2⟩⟩
theorem pQ.rps {w:World} {base:Nat} {v:Value} {n:Nat} {l:List Rp} (h:pQ w base v n l):∃a c,v= .slice a n c/\BV w l a:=by
 obtain⟨h0,h1⟩:=h;obtain⟨a,c,rfl,hok⟩:=fT h1;refine⟨a,c,rfl,?_⟩;rcases h1.2 with⟨-,hn⟩|⟨g,cap,cur,hv,hb,hg,-,-,-,ht⟩
 ·exact .inl (List.length_eq_zero_iff.1 (by omega))
 ·cases hv
  refine .inr ⟨g,rfl,fun i hi=> ?_⟩;have hc:∀q u,(l[i].cells)[q]? =some u->w.cell? ⟨g,i*3+q,none⟩=some u:=fun q u hq=>by
   have:=h1.cells (g:=g) rfl (i*3+q) u (Ov Rp.cells 3 (fun _=>rfl) l hi q u hq)
   rwa [Addr.add_lit,Nat.zero_add] at this
  exact⟨hc 0 _ rfl,hc 1 _ rfl,hc 2 _ rfl⟩
theorem af8 {wr W:World} {ops:Array Oper} {rest:List Oper} {o:Oper} {a:Act} {Q:Exit->Act->World->Prop} {base n:Nat} {vl:Value} {l:List Rp} {y:Rp} (hgd:o.guard=none) (B:Nat) {s t:Operand}
 (ho:o.op= .call {callee:= .builtin .append,args:= #[s,t],argTypes:= #[65,65]}) (hs:a.eval s=vl) (hx:a.eval t= .slice (some ⟨B,0,none⟩) 1 1)
 (hI:pQ wr base vl n l) (e:Ext wr W) (hB:af W B y.cells.toArray 31) (hn:n<=1073741824) (hbase:base<=wr.heap.size)
 (h:∀g cap w',pQ w' base (.slice (some ⟨g,0,none⟩) (n+1) cap) (n+1) (l++ [y])->W.grownBy w' vl.ownBlock-> (vl.ownBlock=some g\/g=W.heap.size)->wpList prog ops Q rest (a.put o.dst (.slice (some ⟨g,0,none⟩) (n+1) cap)) w'):wpList prog ops Q (o::rest) a W:=by
 obtain⟨j0,hj,hy0,hy1,hy2⟩:=info_parts Tryz.af7;obtain⟨hl0,pk⟩:=hI;refine wpList_plain hgd fun _ hK=>wp_append_lies _ s t _ ho base 31 j0 _ 3 32 underlying65 hj hy0 hy1 hy2 rfl (by decide) vl n (l.flatMap Rp.cells) hs (eD pk e) ⟨B,0,none⟩ 1 1 y.cells hx (by rfl) (World.news_of_block (cs:=y.cells.toArray) (t:=31) (fr:=(0,0)) hB) y.tD (by omega) (by unfold maxLen;omega) (by omega) (Nat.le_trans hbase e.size) _ rfl ?_;intro g cap w' hown hgrow hat hlt;exact hK _ _ (h g cap w' ⟨by simp [hl0],by rw [List.flatMap_append];simpa using hown⟩ hgrow hat)
theorem afI {w:World} {S:az} {l:List Ac} {a:au} (h:gI w S l a):l.length=0\/∃ad,a=some ad/\∀j u,(l.flatMap Ac.cells)[j]? =some u->w.cell? (ad.add j)=some u:=by
 rcases h with rfl|⟨b,o,rfl,-,h⟩
 ·exact .inl rfl
 ·refine .inr ⟨_,rfl,fun j u hj=> ?_⟩
  obtain⟨i,hi,q,rfl,hq⟩:=Ww Ac.cells 8 (fun _=>rfl) (by omega) l hj;have hA:=h i hi;have h8:q<8:=(List.getElem?_eq_some_iff.1 hq).1;rw [Addr.add_lit,<-Nat.add_assoc];obtain⟨d0,d1,d2,d3,d4,d5,d6,d7⟩:=hA
  match q,h8,hq with
  |0,_,hq=>cases hq;exact d0
  |1,_,hq=>cases hq;exact d1
  |2,_,hq=>cases hq;exact d2
  |3,_,hq=>cases hq;exact d3
  |4,_,hq=>cases hq;exact d4
  |5,_,hq=>cases hq;exact d5
  |6,_,hq=>cases hq;exact d6
  |7,_,hq=>cases hq;exact d7
theorem afK {w:World} {base:Nat} {v:Value} {n:Nat} {l:List Ac} (hl:l.length=n) (h:w.ownsRow base 28 8 v n (l.flatMap Ac.cells)):∃a c,v= .slice a n c/\gI w (fun b=>base<=b/\b<w.heap.size) l a:=by
 obtain⟨a,c,rfl,hok⟩:=fT h;refine⟨a,c,rfl,?_⟩;rcases h.2 with⟨-,hn⟩|⟨g,cap,cur,hv,hb,hg,-,-,-,ht⟩
 ·exact .inl (List.length_eq_zero_iff.1 (by omega))
 ·cases hv
  have hB:af w g cur 28:=hg;refine .inr ⟨g,0,rfl,⟨hb,hB.lt⟩,fun i hi=> ?_⟩;have hc:∀q u,(l[i].cells)[q]? =some u->w.cell? ⟨g,0+i*8+q,none⟩=some u:=fun q u hq=>by
   have:=h.cells (g:=g) rfl (i*8+q) u (Ov Ac.cells 8 (fun _=>rfl) l hi q u hq);rw [Addr.add_lit] at this
   rwa [Nat.add_assoc]
  exact⟨hc 0 _ rfl,hc 1 _ rfl,hc 2 _ rfl,hc 3 _ rfl,hc 4 _ rfl,hc 5 _ rfl,hc 6 _ rfl,hc 7 _ rfl⟩
theorem gI.take {w:World} {S:az} {l:List Ac} {a:au} (h:gI w S l a) (k:Nat):gI w S (l.take k) a:=by
 rcases h with rfl|⟨b,o,rfl,hS,h⟩
 ·exact .inl (by simp)
 ·refine .inr ⟨b,o,rfl,hS,fun i hi=> ?_⟩
  rw [List.getElem_take];exact h i (by rw [List.length_take] at hi;omega)
end Go.Proofs.YtlcebdaghmdkeabGreatDoor
