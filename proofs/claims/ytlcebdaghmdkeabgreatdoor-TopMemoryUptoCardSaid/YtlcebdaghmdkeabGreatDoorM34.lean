import Derived.Test.YtlcebdaghmdkeabGreatDoorM32
import Derived.Test.YtlcebdaghmdkeabGreatDoorM33
set_option linter.all false
set_option maxRecDepth 100000
set_option maxHeartbeats 64000000
namespace Go.Proofs.YtlcebdaghmdkeabGreatDoor
open Go.Proofs.Tryz
open Go.RowKit
attribute [local go_sem↓] Go.wp_at_zero Go.wp_at_succ
theorem aeK {w:World} (h1:cS w) (h2:qJ w):nY (fun b=>w.heap.size<=b) w:=fun w' u=>
 have e:Ext w w':=aQ.to (Ext.refl w) (u.mono fun b h h'=>by omega)
 ⟨h1.ext e,h2.ext e⟩
theorem aem {W:World} (hsh:W.ShapedOpen prog) (D2:laidMetH prog Rows.topWeightsUptoRow.laid W):nY (fun b=>W.heap.size<=b) W:=by
 have hL:laidMet prog Rows.topWeightsUptoRow.laid W:=D2;exact aeK (VI hsh D2) (VN hL.tail.tail.tail.tail.tail.tail)
theorem Ue {w:World} {S:aw} (hz:∀b,S b->∀i,w.frozen? ⟨b,i,none⟩=false):∀(d:Nat) (x:V) (ka:aq) (kc:Nat) (la:aq) (lc:Nat),x.size<=d->x.size<=1073741824->x.In w S ka kc la lc->tL w S d ka x.keys.length la x.l.length
 |0,x,_,_,_,_,h,_,_=>by have:=x.size_pos;omega
 |d+1,x,ka,kc,la,lc,h,hs,hin=>by
  obtain⟨-,-,hks,hrs⟩:=(V.df ..).1 hin;refine⟨?_,?_⟩
  ·rcases hks with h|⟨b,o,rfl,hS,hc⟩
   ·exact .inl (by rw [h];rfl)
   ·exact .inr ⟨b,o,rfl,hS,by have:=x.xq;omega,fun i hi=>⟨⟨_,hc i hi⟩,hz b hS _⟩⟩
  ·rcases hrs with h|⟨b,o,rfl,hS,hc⟩
   ·exact .inl (by rw [h];rfl)
   ·refine .inr ⟨b,o,rfl,hS,by have:=x.jO;omega,fun i hi=> ?_⟩
    obtain⟨fI,fJ,fW,fK,⟨e0,e1,e2,e3,e4⟩,hin'⟩:=hc i hi;have:=V.oZ hi;exact⟨fI,_,fJ,fW,_,fK,⟨⟨_,e0⟩,⟨_,e1⟩,⟨_,e2⟩,e3,e4,hz b hS _,hz b hS _,hz b hS _,hz b hS _,hz b hS _⟩,Ue hz d x.l[i] fI fJ fW fK (by omega) (by omega) hin'⟩
theorem aQ.cell {T:aw} {a b:World} (h:aQ T a b) {p:Addr} {v:Value} (hT:T p.block) (hc:a.cell? p=some v):b.cell? p=some v:=h.kept.cell hT hc
def DF (bo ro:Nat) (l:List Ac) (k:Nat) (F:aw) (w:World):Prop:=
 ∃F1:aw,(∀b,F1 b->F b/\b≠bo)/\F bo/\af w bo #[.pointer (some ⟨ro,0,none⟩)] 23/\Sat w F1 ro (kG dO (l.take k))
theorem aep (s0 s':Sv) (x:Ac) (y:Rp) (P F F1 D:aw) (r ro bo:Nat) (wa:aq) (wc n:Nat) (w0 w:World) (nC:ck s0 x=(s',y)) (hok0:Ok s0) (uq:Ok s') (kM:x.name.size<=1048576) (hzb:x.body.size<=1048576) (pq:x.who.size<=1048576)
 (hD:∀b,w.heap.size<=b->D b) (hlk:nY F1 w) (hS:Sat w P r s') (hP:∀b,P b->D b/\¬F b/\b<w.heap.size) (hF:∀b,F b->D b/\b<w.heap.size) (wX:∀b,F1 b->F b/\b≠bo) (AV:F bo) (yM:af w bo #[.pointer (some ⟨ro,0,none⟩)] 23) (ry:Sat w F1 ro s0):
 Calls prog 30 #[.pointer (some ⟨r,0,none⟩), .slice wa n wc, .agg #[.int .i64 x.k, .string x.name, .string x.who, .string x.body, .int .i64 x.ver, .int .i64 x.n, .int .i64 x.ord, .bool x.force],y.val, .pointer (some ⟨bo,0,none⟩)] w fun e w2=>
  e= .returned (.bool true)/\aQ (fun b=>¬D b) w w2/\Sat w2 P r s'/\∃F3:aw,(∀b,F3 b->F1 b\/w.heap.size<=b)/\ (∀b,F3 b->b<w2.heap.size)/\Sat w2 F3 ro s'/\af w2 bo #[.pointer (some ⟨ro,0,none⟩)] 23:=by
 have sS:=yM.lt;have HS:=ae hS;have HP:=ae hP;have HF:=ae hF;have Mu:=ae wX;have HFo:=ae AV;have sY:=ae ry;have HD:=ae hD;have Bo:=ae hlk;have aeu:=ae hok0.inv;have DG:=ae uq.inv;have hlen':=uq.len;have Hxx:=ae nC;obtain⟨yc,yn,yb⟩:=y;clear hS hP hF wX AV ry hD hlk hok0 uq nC;go_enter func30,ntmps30;go_upto_region 1 with fail
 refine aI (R:=fun wx=>uS wx w.heap.size x/\af wx (w.heap.size+1) #[.int .i64 yc, .int .i64 yn, .string yb] 31/\Ext w wx) ⟨bk,bk,Xt⟩ ?_;rintro wb ⟨ag,ai,aO⟩;have ak:=af.ext aO yM;have hz1:=ai.lt;have au:∀w',Held (fun b=>b=w.heap.size\/b=w.heap.size+1\/b=bo) wb w'-> (w'.cell? ⟨w.heap.size,0,none⟩=some (.int .i64 x.k)/\w'.cell? ⟨w.heap.size,1,none⟩=some (.string x.name)/\w'.cell? ⟨w.heap.size,2,none⟩=some (.string x.who)/\w'.cell? ⟨w.heap.size,3,none⟩=some (.string x.body)/\w'.cell? ⟨w.heap.size,4,none⟩=some (.int .i64 x.ver)/\w'.cell? ⟨w.heap.size,5,none⟩=some (.int .i64 x.n)/\w'.cell? ⟨w.heap.size,6,none⟩=some (.int .i64 x.ord)/\w'.cell? ⟨w.heap.size,7,none⟩=some (.bool x.force)/\w'.cell? ⟨w.heap.size+1,0,none⟩=some (.int .i64 yc)/\w'.cell? ⟨w.heap.size+1,1,none⟩=some (.int .i64 yn)/\w'.cell? ⟨w.heap.size+1,2,none⟩=some (.string yb)/\w'.cell? ⟨bo,0,none⟩=some (.pointer (some ⟨ro,0,none⟩))):=fun w' e=>by have h0:=(af.held e ag (.inl rfl)).cells;have h1:=(af.held e ai (.inr (.inl rfl))).cells;have h2:=(af.held e ak (.inr (.inr rfl))).cells;exact⟨h0 0,h0 1,h0 2,h0 3,h0 4,h0 5,h0 6,h0 7,h1 0,h1 1,h1 2,h2 0⟩
 refine nt au (by kernel_rfl) (au _ aB) (fun hHeld=> ?_);refine aJ 0 (h:= ?_);refine aJ 1 (h:= ?_);refine aJ 3 (h:= ?_);(try simp only [rl]);refine iw 2 (h:=fun K hK=> ?_);(try simp only [rl]);(try go_simp);(refine(Dw F1 ro s0 x _ (sY.out.ext (aO.trans Xt)) aeu.out (Bo.out.next ((aO.trans Xt).upd _)) kM hzb pq).mono ?_);rw [Hxx.out];rintro e w3 ⟨he,hs3,hu3⟩;obtain rfl:e= .returned (.agg #[.int .i64 yc, .int .i64 yn, .string yb]):=he;(try go_simp);have hz3:wb.heap.size<=w3.heap.size:=by have:=hu3.size;(try simp at this);omega
 have pM:Held (fun b=>b=w.heap.size\/b=w.heap.size+1\/b=bo) wb w3:=⟨hz3,fun b hb hl=>(hu3.block b (fun hf=>by
  obtain⟨h1,h2⟩:=Mu.out b hf;have:=(HF.out b h1).2;rcases hb with hb|hb|hb
  ·omega
  ·omega
  ·exact h2 hb) (by(try simp);omega)).trans (Below.block (show Ext wb _ from Xt) b hl)⟩
 have iX:=ae (show Sat w3 P r s' from HS.out.keep fun b hb hl=>(hu3.block b (fun hf=>(HP.out b hb).2.1 (Mu.out b hf).1) (by have:=aO.size;(try simp);omega)).trans (Below.block (aO.trans Xt) b hl))
 have jd:=ae (show Sat w3 (fun b=>(F1 b\/w.heap.size+2<=b)/\b<w3.heap.size) ro s' from by
  obtain⟨v3,Mh,hs3⟩:=hs3
  exact⟨v3,Mh,hs3.old.mono fun b h=>⟨by
   rcases h.1 with h1|h1
   ·exact .inl h1
   ·exact .inr (by(try simp at h1);omega),h.2⟩⟩)
 have Uf:=ae (show aQ (fun b=>¬D b) w w3 from(((aO.trans Xt).upd _)).trans (hu3.mono fun b hb hf=>hb (HF.out b (Mu.out b hf).1).1));have Ug:=ae (af.held pM ak (.inr (.inr rfl)));clear hs3 hu3;refine hK.out _ _ (au _ pM) (fun hHeld=> ?_);clear hK K;(try simp only [rl]);refine aJ 4 (h:= ?_);refine aJ 5 (h:= ?_);refine aJ 6 (h:= ?_);refine aJ 8 (h:= ?_);(try simp only [rl]);refine iw 7 (h:=fun K hK=> ?_);(try simp only [rl]);(try go_simp);(refine(Gn P r s' _ (iX.out.ext Xt) hlen' (fun t ht=>by have h:=DG.out.size t ht;exact⟨h.1,h.2.1⟩)).mono ?_);rintro e w4 ⟨a4,c4,rfl,-,Uh,h4⟩;(try go_simp);have bP:Ext w3 w4:=Xt;refine hK.out _ _ (au _ (pM.trans (bP.held _))) (fun hHeld=> ?_);clear hK K;(try simp only [rl]);refine iw 9 (h:=fun K hK=> ?_);(try simp only [rl]);(try go_simp);(refine(Gn _ ro s' _ (jd.out.ext (bP.trans Xt)) hlen' (fun t ht=>by have h:=DG.out.size t ht;exact⟨h.1,h.2.1⟩)).mono ?_);rintro e w5 ⟨a5,c5,rfl,-,Ui,h5⟩;(try go_simp);have sO:Ext w4 w5:=Xt;have bG:Ext w3 w5:=bP.trans sO;refine hK.out _ _ (au _ (pM.trans (bG.held _))) (fun hHeld=> ?_);clear hK K;(try simp only [rl]);refine iw 10 (h:=fun K hK=> ?_);(try simp only [rl]);(try go_simp);(refine(aev s'.az a4 a5 _ _ c4 c5 _ _ _ (Uh.ext (sO.trans Xt)) (Ui.ext Xt) rfl rfl (by omega) (fun t ht=>by have h:=DG.out.size t ht;exact⟨h.1,h.2.1⟩)).mono ?_);rintro e w6 ⟨rfl,h6⟩;(try go_simp);have bS:Ext w3 w6:=bG.trans Xt;clear h6 Uh Ui h4 h5;refine hK.out _ _ (au _ (pM.trans (bS.held _))) (fun hHeld=> ?_);clear hK K;(try simp only [rl]);refine aJ 11 (h:= ?_);refine aJ 12 (h:= ?_);(try simp only [rl]);refine wpAnyH_done (by kernel_rfl) ?_ _;have yw:=ae (iX.out.ext bS);have kA:=ae (jd.out.ext bS);have Uj:=ae (Uf.out.ext bS);have Uk:=ae (Ug.out.ext bS);have vA:=bS.size;have agt:=aO.size;clear au ag ai ak pM hHeld iX jd Uf Ug bP sO bG bS aO;go_wp2_with fail;(refine(SJ P r s' _ (yw.out.ext Xt) hlen' (fun t ht=>by have h:=DG.out.size t ht;exact⟨h.1,h.2.1⟩)).mono ?_);rintro e w7 ⟨a7,c7,rfl,-,Ul,-,h7⟩;have cy:Ext w6 w7:=Xt;have IY:=cy.size;obtain⟨S,hS⟩:∃S:aw,S=fun b=>w6.heap.size<=b/\b<w7.heap.size/\Zb w7 b:=⟨_,rfl⟩
 have mI:=ae (show∀b,S b->w6.heap.size<=b/\b<w7.heap.size/\Zb w7 b from fun b h=>by rw [hS] at h;exact h);have aH:=ae (show∀b,w6.heap.size<=b->b<w7.heap.size->Zb w7 b->S b from fun b h1 h2 h3=>by rw [hS];exact⟨h1,h2,h3⟩);have aew:=ae (show uP w7 (fun b=>w6.heap.size<=b) s'.az a7 from Ul.keep (fun _ _ _=>rfl) (fun b h _=>by(try simp at h);omega) (Nat.le_refl _));have HS7:=ae (yw.out.ext cy);have lD:=ae (kA.out.ext cy);have HU7:=ae (Uj.out.ext cy);have HB7:=ae (Uk.out.ext cy);clear hS Ul h7 yw kA Uj Uk cy;go_wp2_with fail
 go_loopg [11,13,14,31] s'.az.length (fun g _ _ _ i wr=>∃q:Nat,q<=s'.az.length/\i= .int .i64 q/\g=s'.az.length-q/\Hid (aQ (fun b=>¬S b) w7 wr/\jJ S w7 wr))
 case atStart=>exact⟨0,Nat.zero_le _,rfl,rfl,ae ⟨(show Ext w7 _ from Xt).upd _,DI fun b hb=>Below.block (show Ext w7 _ from Xt) b (mI.out b hb).2.1⟩⟩
 case round=>
  obtain⟨q,hq,rfl,rfl,H⟩:=hrel;obtain⟨wi,rfl⟩:∃x,x=wr:=⟨_,rfl⟩;have Xn:=H.out.1.size;by_cases yu:q<s'.az.length
  ·obtain⟨g,rfl,fX,hg7,xE,hcells⟩:=aew.out.resolve_left (by intro h;rw [h] at yu;simp at yu)
   obtain⟨ka,kc,la,lc,oa,oc,hcs,hz⟩:=hcells q yu;have hgS:¬S g:=fun h=>xE (mI.out g h).2.2;have nj:(0:Int)<= (q:Int):=by omega
   have np:(q:Int)<(s'.az.length:Int):=by omega
   have hsz:=DG.out.size _ (List.getElem_mem yu);obtain⟨z,DJ⟩:∃z,s'.az[q]=z:=⟨_,rfl⟩;rw [DJ] at hcs hz hsz;have hc:∀j u,(z.cells ka kc la lc oa oc)[j]? =some u->wi.cell? ⟨g,q*15+j,none⟩=some u:=fun j u hj=>H.out.1.cell (p:=⟨g,q*15+j,none⟩) hgS (hcs j u hj);have d0:wi.cell? ⟨g,q*15,none⟩=some (.string z.name):=hc 0 _ rfl;have d1:wi.cell? ⟨g,q*15+1,none⟩=some (.int .i64 z.v.k):=hc 1 _ rfl;have d2:wi.cell? ⟨g,q*15+2,none⟩=some (.int .i64 z.v.n):=hc 2 _ rfl;have d3:wi.cell? ⟨g,q*15+3,none⟩=some (.string z.v.s):=hc 3 _ rfl;have d4:wi.cell? ⟨g,q*15+4,none⟩=some (.slice ka z.v.keys.length kc):=hc 4 _ rfl;have d5:wi.cell? ⟨g,q*15+5,none⟩=some (.slice la z.v.l.length lc):=hc 5 _ rfl;have d6:wi.cell? ⟨g,q*15+6,none⟩=some (.slice oa z.ows.length oc):=hc 6 _ rfl;have d7:wi.cell? ⟨g,q*15+7,none⟩=some (.int .i64 z.ver):=hc 7 _ rfl;have d8:wi.cell? ⟨g,q*15+8,none⟩=some (.int .i64 z.gen):=hc 8 _ rfl;have d9:wi.cell? ⟨g,q*15+9,none⟩=some (.string z.st.sb):=hc 9 _ rfl;have d10:wi.cell? ⟨g,q*15+10,none⟩=some (.string z.st.cm):=hc 10 _ rfl;have d11:wi.cell? ⟨g,q*15+11,none⟩=some (.int .i64 z.st.ph):=hc 11 _ rfl;have d12:wi.cell? ⟨g,q*15+12,none⟩=some (.int .i64 z.st.sp):=hc 12 _ rfl;have d13:wi.cell? ⟨g,q*15+13,none⟩=some (.int .i64 z.st.wt):=hc 13 _ rfl;have d14:wi.cell? ⟨g,q*15+14,none⟩=some (.int .i64 z.st.si):=hc 14 _ rfl;have Hz:=ae hz;have jt:z.v.size<=1073741824:=by have:=hsz.1;omega
   have iz:=vw z.ows;have agu:=hsz.2.1
   have xO:=ae (fun(j:Nat) (hj:j<z.ows.length)=>show (z.ows[j]).paths.length<=1800000 from by
    have h1:=Ow.qO z.ows[j];have h2:=qN (List.getElem_mem hj)
    omega)
   clear hcells hcs DJ hc hz hsz;go_upto_region 6 with fail
   refine aI (R:=fun wx=>lG wx wi.heap.size z ka kc la lc oa oc/\Ext wi wx) ⟨bk,Xt⟩ ?_;clear d0 d1 d2 d3 d4 d5 d6 d7 d8 d9 d10 d11 d12 d13 d14;rintro wd ⟨bK,iB⟩;have gB:=bK.lt;have Hd:=ae (show aQ (fun b=>¬S b) w7 wd/\jJ S w7 wd from⟨H.out.1.ext iB,H.out.2.trans (DI fun b hb=>Below.block iB b (by have:=(mI.out b hb).2.1;omega))⟩);clear H iB;obtain⟨hc3,hf3,aS⟩:=bK.see;go_wp2_with fail;(refine(aex S z.v.size z.v.k z.v.n z.v.s ka _ kc la _ lc _ (Hd.out.2.DK _ _ _ _ _ (Ue (fun b hb i=>(mI.out b hb).2.2.free i) z.v.size z.v ka kc la lc (Nat.le_refl _) jt (Hz.out.v.mono fun b h hl=>aH.out b h.1 hl h.2))) (fun b hb=>by have:=(mI.out b hb).2.1;omega)).mono ?_);rintro e w8 ⟨rfl,Gw,Um⟩;have hB4:=af.held (T:=fun b=>¬S b) ⟨Gw.size,fun b hb hl=>Gw.block b hb hl⟩ bK (fun h=>by have:=(mI.out _ h).2.1;omega);have H8:=ae (show aQ (fun b=>¬S b) w7 w8/\jJ S w7 w8 from⟨Hd.out.1.trans Gw,Hd.out.2.trans Um⟩);clear Gw Um bK hc3 hf3 aS Hd;obtain⟨rh,vY,hl4⟩:=hB4.see;go_wp2_with fail
   go_loopg [13,14,41] z.ows.length (fun g _ _ i wx=>∃j:Nat,j<=z.ows.length/\i= .int .i64 j/\g=z.ows.length-j/\Hid (aQ (fun b=>¬S b) w7 wx/\jJ S w7 wx))
   case atStart=>exact⟨0,Nat.zero_le _,rfl,rfl,H8⟩
   case round=>
    clear hB4 rh vY hl4 H8 gB;obtain⟨j,hj,rfl,rfl,H⟩:=hrel;obtain⟨wj,rfl⟩:∃x,x=wr:=⟨_,rfl⟩;have hzj:=H.out.1.size;by_cases hjl:j<z.ows.length
    ·obtain⟨g2,rfl,agv,agw,aey,ho⟩:=Hz.out.ows.resolve_left (by intro h;rw [h] at hjl;simp at hjl)
     obtain⟨pa,pc,f0,f1,-,hst⟩:=ho j hjl;have Un:¬S g2:=fun h=>aey (mI.out g2 h).2.2;have SU:(0:Int)<= (j:Int):=by omega
     have SV:(j:Int)<(z.ows.length:Int):=by omega
     have hpl:=xO.out j hjl;obtain⟨ow,how⟩:∃ow,z.ows[j]=ow:=⟨_,rfl⟩;rw [how] at f0 f1 hst hpl;have f0:=H.out.1.cell (p:=⟨g2,j*2,none⟩) Un f0;have f1:=H.out.1.cell (p:=⟨g2,j*2+1,none⟩) Un f1;have aP:=ae hst;clear ho hst how;go_upto_region 10 with fail
     refine aI (R:=fun wx=>af wx wj.heap.size #[.string ow.name, .slice pa ow.paths.length pc] 58/\Ext wj wx) ⟨bk,Xt⟩ ?_;clear f0 f1;rintro we ⟨gT,iR⟩;have gB:=gT.lt;have He:=ae (show aQ (fun b=>¬S b) w7 we/\jJ S w7 we from⟨H.out.1.ext iR,H.out.2.trans (DI fun b hb=>Below.block iR b (by have:=(mI.out b hb).2.1;omega))⟩);clear H iR;obtain⟨td,Gk,Gl⟩:=gT.see;go_wp2_with fail
     go_loopg [14,48] ow.paths.length (fun g _ i wx=>∃m:Nat,m<=ow.paths.length/\i= .int .i64 m/\g=ow.paths.length-m/\af wx wj.heap.size #[.string ow.name, .slice pa ow.paths.length pc] 58/\Hid (aQ (fun b=>¬S b) w7 wx/\jJ S w7 wx))
     case atStart=>exact⟨0,Nat.zero_le _,rfl,rfl,bk,He⟩
     case round=>
      clear gT td Gk Gl He gB;obtain⟨m,hm,rfl,rfl,gT,H⟩:=hrel;have gB:=gT.lt;obtain⟨td,Gk,Gl⟩:=gT.see;by_cases tY:m<ow.paths.length
      ·obtain⟨b9,o9,rfl,Gx,Mv⟩:=aP.out.resolve_left (by intro h;rw [h] at tY;simp at tY)
       have Mw:=ku (Mv m tY);have iA:=aH.out b9 Gx.1 Mw Gx.2;have hT:=H.out.2.txt b9 _ iA ⟨⟨_,Mv m tY⟩,Gx.2.free _⟩;have HT:=ae hT;obtain⟨⟨t0,g0⟩,g1⟩:=hT;have eB:b9<w7.heap.size:=Mw;have aez:(0:Int)<= (m:Int):=by omega
       have aeA:(m:Int)<(ow.paths.length:Int):=by omega
       have aeB:=ae iA;clear Mv iA Mw Gx;go_wp2_with fail;go_roundg (ow.paths.length-(m+1))
       case measure=>omega
       case rel=>exact⟨m+1,by omega,by go_num,rfl,bk,ae ⟨H.out.1.set (fun h=>absurd aeB.out h) _,H.out.2.trans (Uo HT.out _)⟩⟩
      ·go_wp2_with fail
       go_roundg (z.ows.length-(j+1))
       case measure=>omega
       case rel=>exact⟨j+1,by omega,by go_num,rfl,H⟩
    ·go_wp2_with fail
     go_roundg (s'.az.length-(q+1))
     case measure=>omega
     case rel=>exact⟨q+1,by omega,by go_num,rfl,H⟩
  ·go_wp2_with fail
   go_ret;have Gy:∀b,S b->w6.heap.size<=b:=fun b h=>(mI.out b h).1
   refine⟨rfl,(HU7.out.trans (H.out.1.mono fun b hb hs=>hb (HD.out b (by have:=Gy b hs;omega)))).ext Xt,(HS7.out.keep (H.out.1.kept.mono fun b hb hs=>by have:=(HP.out b hb).2.2;have:=Gy b hs;omega)).ext Xt,
    fun b=>(F1 b\/w.heap.size+2<=b)/\b<w3.heap.size,fun b h=>by rcases h.1 with h|h;exact .inl h;exact .inr (by omega),fun b h=>by have:=h.2;(try simp);omega,
    (lD.out.keep (H.out.1.kept.mono fun b hb hs=>by have:=hb.2;have:=Gy b hs;omega)).ext Xt,(af.held (T:=fun b=>¬S b) ⟨H.out.1.size,fun b hb hl=>H.out.1.block b hb hl⟩ HB7.out (fun h=>by have:=Gy _ h;omega)).ext Xt⟩
theorem aeo (bo ro:Nat) (l:List Ac) (W:World) (D:aw) (hz:∀x∈l,x.name.size<=1048576/\x.body.size<=1048576/\x.who.size<=1048576) (hD:∀b,W.heap.size<=b->D b) (hl:nY D W):
 Ua 30 #[.pointer (some ⟨bo,0,none⟩)] l W D (DF bo ro l):=by
 refine⟨enters_of func30 (by kernel_rfl) rfl,?_⟩;intro k hk P F T r wa wc w1 hk1 hu hS hP hK hF hsl hT Tn;obtain⟨F1,wX,AV,yM,ry⟩:=hK;have Ub:=Ok.Uc .new (l.take k);have hx:=hz l[k] (List.getElem_mem hk);have hw:=hu.size
 refine(aep (kG dO (l.take k)) (ck (kG dO (l.take k)) l[k]).1 l[k] (ck (kG dO (l.take k)) l[k]).2 P F F1 D r ro bo wa wc (kG dO (l.take k)).az.length W w1 rfl Ub (Ub.next _) hx.1 hx.2.1 hx.2.2
  (fun b h=>hD b (by omega)) ((hl.next hu).mono fun b h=>(hF b (wX b h).1).1) hS (fun b h=>⟨(hP b h).1,(hP b h).2.1,(hP b h).2.2.2⟩) (fun b h=>⟨(hF b h).1,(hF b h).2.2⟩) wX AV yM ry).mono ?_
 rintro e w2 ⟨rfl,hu2,qR,F3,Mt,h32,aeq,aer⟩;have hw2:=hu2.size;have sS:=yM.lt;have hne:∀b,F3 b->b≠bo:=fun b h=>by
  rcases Mt b h with h|h
  ·exact(wX b h).2
  ·omega
 refine⟨rfl,hu2,P,fun b=>F3 b\/b=bo,qR,fun b h=>⟨(hP b h).1,fun hf=> ?_,by have:=(hP b h).2.2.2;omega⟩,⟨F3,fun b h=>⟨.inl h,hne b h⟩, .inr rfl,aer,by rw [Ud hk];exact aeq⟩,fun b h=> ?_⟩
 ·rcases hf with hf|hf
  ·rcases Mt b hf with h1|h1
   ·exact(hP b h).2.1 (wX b h1).1
   ·have:=(hP b h).2.2.2;omega
  ·exact(hP b h).2.1 (hf▸AV)
 ·rcases h with h|h
  ·refine⟨?_,h32 b h⟩
   rcases Mt b h with h1|h1
   ·exact(hF b (wX b h1).1).1
   ·exact hD b (by omega)
  ·subst h
   exact⟨(hF b AV).1,by omega⟩
theorem DF.next {bo ro:Nat} {l:List Ac} {k:Nat} {F:aw} {w w':World} (h:DF bo ro l k F w) (u:aQ F w w'):DF bo ro l k F w':=by
 obtain⟨F1,h1,h2,h3,h4⟩:=h;exact⟨F1,h1,h2,af.held (T:=F) ⟨u.size,fun b hb hl=>u.block b hb hl⟩ h3 h2,h4.keep (u.kept.mono fun b hb=>(h1 b hb).1)⟩
theorem aej (a:aq) (cap:Nat) (l:List Ac) (w:World) (hl:nY (fun b=>w.heap.size<=b) w) (eJ:vp l<=1048576) (hin:sD w (fun b=>b<w.heap.size) l a):
 Calls prog 8 #[.slice a l.length cap] w fun e w'=>e= .returned (.bool true)/\Ext w w':=by
 have Hl:=ae hl;have aH:=ae hin;have hlen:=VZ l;have hz:∀x∈l,x.name.size<=1048576/\x.body.size<=1048576/\x.who.size<=1048576:=fun x hx=>by have h:=V2 hx;unfold Ac.size at h;omega
 have Hz:=ae hz;clear hl hin hz;go_enter func8,ntmps8;go_wp2_with fail;(refine(Mf _).mono ?_);rintro e w1 ⟨rfl,hs1,h1⟩;have hx1:Ext w w1:=Xt;have hz1:=hx1.size;obtain⟨v1,ys1,hs1⟩:=hs1;have uv:=ae (show Sat w1 (fun b=>w.heap.size<=b/\b<w1.heap.size) w.heap.size dO from⟨v1,ys1,hs1.old.mono fun b h=>⟨by have:=h.1;(try simp at this);omega,h.2⟩⟩);clear hs1 h1;go_upto_region 2 with fail
 refine aI (R:=fun wx=>af wx w1.heap.size #[.pointer (some ⟨w.heap.size,0,none⟩)] 23/\Ext w1 wx) ⟨bk,Xt⟩ ?_;rintro wb ⟨hB,aO⟩;have gB:=hB.lt;have cP:Ext w wb:=hx1.trans aO;go_wp2_with fail
 (refine(aes 30 #[.pointer (some ⟨w1.heap.size,0,none⟩)] l a cap (fun b=>w.heap.size<=b) (fun b=>(w.heap.size<=b/\b<w1.heap.size)\/b=w1.heap.size) (DF w1.heap.size w.heap.size l) _ (by omega)
  Hz.out ((aH.out.keep ((show Ext w _ from cP.trans Xt).kept _)).mono fun b h h'=>by omega) (fun b h=>by have:=cP.size;(try simp at h);omega) (Hl.out.next ((show Ext w _ from cP.trans Xt).upd _))
  ⟨fun b=>w.heap.size<=b/\b<w1.heap.size,fun b h=>⟨.inl h,by omega⟩, .inr rfl,hB.ext Xt,uv.out.ext (aO.trans Xt)⟩ (fun b h=>⟨by omega,by(try simp);omega⟩)
  (fun k F v1 v2 h u=>h.next u) (aeo w1.heap.size w.heap.size l _ _ Hz.out (fun b h=>by have:=cP.size;(try simp at h);omega) (Hl.out.next ((show Ext w _ from cP.trans Xt).upd _)))).mono ?_)
 rintro e w2 ⟨P,F,r,rfl,-,-,-,-,hu⟩;have hx2:Ext w w2:=aQ.to (cP.trans Xt) (hu.mono fun b h h'=>by omega);go_wp2_with fail;go_ret;exact⟨rfl,Xt⟩
end Go.Proofs.YtlcebdaghmdkeabGreatDoor
