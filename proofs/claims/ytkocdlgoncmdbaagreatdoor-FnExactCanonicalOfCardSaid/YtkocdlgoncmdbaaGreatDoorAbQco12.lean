/- Merged texts (12 of 17) of the proof that ends in Coy: Kt Ku Kgw L2kw ae. -/
import Derived.Test.YtkocdlgoncmdbaaGreatDoorAbQco11
open Go.Proofs.Tryz
set_option linter.unusedSimpArgs false
set_option linter.unusedVariables false
namespace Go.Ab.Vg
theorem EP {sig:dG} {b:aG} (hs:fF sig b) (hv:bn sig b):DP (ep b):=by
 have hc:=Ew hv;have h1:=hv.len;refine⟨?_,fun x hx=>?_,?_,hs.outerLen,?_⟩
 ·simp only[ep,List.length_map,hc.len];omega
 ·simp only[ep,List.mem_map] at hx;obtain⟨k,hk,rfl⟩:=hx;have:=hv.gA (hc.rng k hk);simp only[gV,List.length_map];omega
 ·simp only[ep,List.length_map];exact hs.sitesLen
 ·simp only[ep,List.length_map];exact hs.innerLen
end Go.Ab.Vg
namespace Go.Ab.Vg
noncomputable abbrev bQ (sig:dG) (b:aG):aG × Bool:=if m0 sig b=true then (ep b,true) else (z0B,false)
abbrev eK (sig:dG) (b:aG):Prop:=fF sig b
def fm (sig:List Control) (b:aG) (Z:(aG × Bool)->Prop):Prop:=
 (fF sig b)/\∀ r6:Bool,r6=m0 sig b->((r6=true->(lV b)/\∀ r15:aG,r15=ep b->Z (r15,true))/\(r6=false->Z ((aG.mk 0 [] [] 0 [] []),false)))
theorem qK (sig:dG) (b:aG) (h:eK sig b):fm sig b (fun y=>y=bQ sig b):=by
 unfold fm;simp only[forall_eq,decide_eq_true_eq,decide_eq_false_iff_not];refine⟨h,fun h1=>⟨⟨sig,kt h1⟩,by rw[bQ,if_pos h1]⟩,fun h1=>by rw[bQ,if_neg (by rw[h1];simp)]⟩
noncomputable abbrev cp (sig:dG) (b:aG):aG × Bool:=bQ sig b
abbrev fC (sig:dG) (b:aG):Prop:=fF sig b
def eJ (sig:List Control) (b:aG) (Z:(aG × Bool)->Prop):Prop:=
 (fF sig b)/\∀ r6:Bool,r6=m0 sig b->((r6=true->(mb b)/\∀ r9:aG,r9=kl b->Z (r9,true))/\(r6=false->Z ((aG.mk 0 [] [] 0 [] []),false)))
theorem po (sig:dG) (b:aG) (h:fC sig b):eJ sig b (fun y=>y=cp sig b):=by
 unfold eJ;simp only[forall_eq,decide_eq_true_eq,decide_eq_false_iff_not];refine⟨h,fun h1=>⟨⟨sig,kt h1⟩,by rw[cp,bQ,if_pos h1]⟩,fun h1=>by rw[cp,bQ,if_neg (by rw[h1];simp)]⟩
theorem Dg (sig:dG) (b:aG) (h:fF sig b):DP (bQ sig b).1:=by
 unfold bQ
 split
 ·rename_i h1
  exact EP h (kt h1)
 ·exact eqZ
abbrev Cy (_:dG) (_:aG):Bool:=true
abbrev pX (sig:dG) (b:aG):Prop:=zy sig/\oG b
def kQ (cS:List Control) (aB:aG) (Z:Bool->Prop):Prop:=
 (((0:Int)<=1048576/\(1048576:Int)<=1048576)/\zy cS)/\∀ r5:Int,r5=jd uX cS 1048576->∀ c6:Bool,c6=decide (r5<0)->((c6=true->Z true)/\(c6=false->(((0:Int)<=r5/\(r5:Int)<=1048576)/\oG aB)/\∀ r9:Int,r9=Er aB r5->∀ c10:Bool,c10=decide (r9<0)->((c10=true->Z true)/\(c10=false->(c9 cS)/\∀ r14:List Control,r14=eQ cS->(dq aB)/\∀ r16:aG,r16=dh aB->(fC r14 r16)/\∀ r18:aG × Bool,r18=cp r14 r16->(c9 cS)/\∀ r27:List Control,r27=eQ cS->(dq aB)/\∀ r38:aG,r38=dh aB->(eK r27 r38)/\∀ r69:aG × Bool,r69=bQ r27 r38->nH (fun (J107:Bool->Prop)=>(DP r69.1)/\∀ r285:Bool,r285=decide (r69.1=r18.1)->((r285=true->∀ c286:Bool,c286 = !(r69.2 == r18.2)->J107 (c286))/\(r285=false->J107 (true)))) (fun b110=>((b110=true->Z false)/\(b110=false->(c9 cS)/\∀ r123:List Control,r123=eQ cS->(r27.length<=1048576)/\∀ r132:Bool,r132=decide (r27=r123)->((r132=true->(dq aB)/\∀ r144:aG,r144=dh aB->(DP r38)/\∀ r146:Bool,r146=decide (r38=r144)->((r146=true->(fL r27 1)/\∀ r148:(List Control) × Int,r148=ew r27 1->(fb r38 r148.2)/\∀ r165:aG × Int,r165=cf r38 r148.2->nH (fun (J182:Bool->Prop)=>∀ c278:Bool,c278=decide (r165.2<0)->((c278=true->J182 (true))/\(c278=false->(DP r69.1)/\∀ r281:Bool,r281=decide (r69.1=r18.1)->((r281=true->∀ c282:Bool,c282 = !(r69.2 == r18.2)->J182 (c282))/\(r281=false->J182 (true)))))) (fun b185=>((b185=true->Z false)/\(b185=false->(fb r69.1 1)/\∀ r193:aG × Int,r193=cf r69.1 1->(fS (aG.mk r69.1.roots r193.1.nodes r193.1.sites r69.1.edges r193.1.outer r193.1.inner) 1)/\∀ r211:Int,r211=iE (aG.mk r69.1.roots r193.1.nodes r193.1.sites r69.1.edges r193.1.outer r193.1.inner) 1->∀ c212:Bool,c212=decide (r211<0)->((c212=true->Z false)/\(c212=false->∀ c214:Bool,c214=decide (r211 ≠ r193.2)->((c214=true->Z false)/\(c214=false->(c9 cS)/\∀ r222:List Control,r222=eQ cS->(dq aB)/\∀ r224:aG,r224=dh aB->(eK r222 r224)/\∀ r226:aG × Bool,r226=bQ r222 r224->nH (fun (J258:Bool->Prop)=>(DP r226.1)/\∀ r275:Bool,r275=decide (r226.1=r18.1)->((r275=true->∀ c276:Bool,c276 = !(r226.2 == r18.2)->J258 (c276))/\(r275=false->J258 (true)))) (fun b261=>((b261=true->Z false)/\(b261=false->(fS (aG.mk r69.1.roots r193.1.nodes r193.1.sites r69.1.edges r193.1.outer r193.1.inner) 1)/\∀ r269:Int,r269=iE (aG.mk r69.1.roots r193.1.nodes r193.1.sites r69.1.edges r193.1.outer r193.1.inner) 1->∀ c270:Bool,c270=decide (r269<0)->((c270=true->Z false)/\(c270=false->∀ c272:Bool,c272=decide (r269 ≠ r193.2)->((c272=true->Z false)/\(c272=false->Z true)))))))))))))))/\(r146=false->Z false)))/\(r132=false->Z false)))))))))
theorem BP (sig:dG) (b:aG) (h:pX sig b):kQ sig b (fun y=>y=Cy sig b):=by
 unfold kQ;simp only[forall_eq,decide_eq_true_eq,decide_eq_false_iff_not,eQ,dh,cp];obtain⟨h1,h2⟩:=h;refine⟨⟨by omega,h1⟩,fun _=>trivial,fun s1=>?_⟩;have l1:=nV uX sig 1048576 (by omega);refine⟨⟨by omega,h2⟩,fun _=>trivial,fun s2=>?_⟩;have a2:fF sig b:=smallB (left:=1048576) (by omega) (by omega) (by omega) (by omega) h2;have a1:=a2.sigLen;have hL:=Dg sig b a2;generalize bQ sig b=an at hL;refine⟨a1,Ed a2,a2,a1,Ed a2,a2,fun c=>c=false,⟨hL,fun _=>by simp,fun h=>absurd trivial h⟩,?_⟩;rintro _ rfl;have k1:(ew sig 1).2=1+3 * sig.length:=rfl;obtain⟨m1,m2⟩:=CF (eqOf a2) (ew sig 1).2 (by omega) (by omega);obtain⟨p1,p2⟩:=CF hL 1 (by omega) (by omega);obtain⟨q1,q2⟩:=holdB hL 1 (by omega) (by omega);simp only[remark,q2];refine⟨fun h=>(by cases h),fun _=>⟨a1,a1,fun _=>⟨Ed a2,eqOf a2,fun _=>⟨⟨by omega,by omega,by omega⟩,m1,fun c=>c=false,⟨fun h=>by omega,fun _=>⟨hL,fun _=>by simp,fun h=>absurd trivial h⟩⟩,?_⟩,fun h=>absurd trivial h⟩,fun h=>absurd trivial h⟩⟩;rintro _ rfl;refine⟨fun h=>(by cases h),fun _=>⟨p1,q1,fun h=>by omega,fun _=>⟨fun h=>absurd rfl h,fun _=>⟨a1,Ed a2,a2,fun c=>c=false,⟨hL,fun _=>by simp,fun h=>absurd trivial h⟩,?_⟩⟩⟩⟩;rintro _ rfl;exact⟨fun h=>(by cases h),fun _=>⟨q1,fun h=>by omega,fun _=>⟨fun h=>absurd rfl h,fun _=>trivial⟩⟩⟩
end Go.Ab.Vg
namespace Go.Ab.Vg
open Go.Proofs
set_option maxRecDepth 100000
attribute [local simp] ay.cells aI.cells au iX a7 bC pA
theorem EB:a8 prog 129:=a8.of func129 (by kernel_rfl) rfl
theorem xA (many:Int) (Z:(List Int)->Prop) (h:nu many Z):bL prog 129 [int many] (.s [.c]) (fun r=>∃ y:List Int,Z y/\r = .list true (y.map au)):=by
 unfold nu at h;have M:Sep bu 0 [] []:=Sep.nil (by simp);refine bL.of func129 rfl ntmps129 (by simp) fun Q hQ=>?_
 refine J.cut (fun O H n=>O 0=int many/\Sep H n [] []) (by refine⟨by simp[],M⟩) ?_;rintro O H U ⟨E,M⟩;refine zE fun _ V=>?_
 simp[E];apply V;refine zE fun _ V=>?_
 simp[E];apply V;refine J.cut (fun O H n=>∃ (v3:I),(O 0=int many/\O 3=v3)/\Sep H n [oI v3 ([]:List Int)] []) (by refine⟨.arr (U,5) 0 0 0,by simp[E],(Sep.addEmpty (l:=[.c]) M)⟩) ?_;clear E;rintro O H n4 ⟨v3,E,M⟩;refine zS fun _ V=>?_
 simp[E];apply V;apply J.block;refine J.aO h (fun (sJ:Int × (List Int)) O H n=>match sJ with | (i12,e)=>∃ (d:I),(O 0=int many/\O 3=d/\O 4=int i12)/\Sep H n [oI d e] []) (by refine⟨v3,by simp[E],M⟩) ?_;clear E;rintro⟨i12,e⟩ O H n15 K h ⟨d,E,M⟩ i;refine zS fun _ V=>?_
 obtain⟨j,o,h⟩:=aJ h;have f19:=bc (k:=.i64) o;simp[E,f19,-ax];apply V;refine J.ite (b:=j) (by simp[E]) (fun a=>?_) (fun a=>?_)
 ·replace h:=h.1 a;apply zK;apply J.block;refine zF fun _ V=>?_
  obtain⟨p,h⟩:=h;obtain⟨g,q,h⟩:=aJ h;simp[E,a,-bj];refine cX [] [] [[int (-1)]] [au (-1)] M aP (by simp) (by simp) (by simp) (by simp[-aE,bf]) (cr (aT.v _ aT.nil)) (by simp) (by simpa using p) ?_;rintro v22 t n24 M B C;replace M:Sep t n24 [oI v22 g] []:=Sep.ap q M;simp[E,a];apply V;refine J.cut (fun O H n=>∃ (v28:I),(O 0=int many/\O 3=v28/\O 4=int i12)/\Sep H n [oI v28 g] []) (by refine⟨v22,by simp[E,a],M⟩) ?_;clear E;rintro O H n29 ⟨v28,E,M⟩;refine zI fun _ V=>?_
  obtain⟨u,h⟩:=h;obtain⟨v31,A,h⟩:=aJ h;have f32:=aR u A;simp[E,f32,-ax];apply V;refine i (v31,g) _ _ _ h (by refine⟨v28,by simp[E],M⟩)
 replace h:=h.2 a;refine J.exit rfl ?_;refine zE fun _ V=>?_
 simp[E,a];apply V;exact J.bG (v:=d) func129 results129 (by simp[E,a]) (hQ _ _ _ _ (Sep.sub (dQ:=[]) M (by simp)) ⟨e,h,rfl⟩)
theorem mQ (many:Int) (hp:hU many):bL prog 129 [int many] (.s [.c]) (fun r=>r = .list true ((iu many).map au)):=(xA many _ (C5 many hp)).mono (by rintro _ ⟨_,rfl,rfl⟩;rfl)
theorem e134:a8 prog 134:=a8.of func134 (by kernel_rfl) rfl
theorem AH (l:List Int) (Z:(List Int)->Prop) (h:pJ l Z):bL prog 134 [.list false (l.map au)] (.s [.c]) (fun r=>∃ y:List Int,Z y/\r = .list true (y.map au)):=by
 unfold pJ at h;have M:Sep bu 0 [] []:=Sep.nil (by simp);refine bL.of func134 rfl ntmps134 (by simp) fun Q hQ=>?_
 refine J.cut (fun O H n=>O 0 = .list false (l.map au)/\Sep H n [] []) (by refine⟨by simp ,M⟩) ?_;rintro O H U ⟨E,M⟩;refine zE fun _ V=>?_
 simp[E];apply V;refine zE fun _ V=>?_
 obtain⟨hb3,h⟩:=h;obtain⟨l4,el4,h⟩:=aJ h;simp[E,-bj];refine dk (l.map au) (Sep.addEmpty (l:=[.c]) M) (by simp) aP (by simp) (by simp) (by simp[cy]) (by simp[-aE,bf]) (by simpa using hb3) ?_;rintro v5 H6 n7 M hfr8 hle9;replace M:Sep H6 n7 [oI v5 l4] []:=by refine Sep.ap el4 ?_;exact M
 simp[E];apply V;refine J.cut (fun O H n=>∃ (v11:I),O 2=v11/\Sep H n [oI v11 l4] []) (by refine⟨v5,by simp[E],M⟩) ?_;clear E;rintro O H a ⟨v11,E,M⟩;exact J.bG (v:=v11) func134 results134 (by simp[E]) (hQ _ _ _ _ (Sep.sub (dQ:=[]) M (by simp)) ⟨l4,h,rfl⟩)
theorem tW (l:List Int) (hp:fT l):bL prog 134 [.list false (l.map au)] (.s [.c]) (fun r=>r = .list true ((uS l).map au)):=(AH l _ (En l hp)).mono (by rintro _ ⟨_,rfl,rfl⟩;rfl)
theorem e166:a8 prog 166:=a8.of func166 (by kernel_rfl) rfl
theorem BR (edges:List Int) (Z:Int->Prop) (h:pH edges Z):aF prog 166 [.list false (edges.map au)] (fun r=>∃ y:Int,Z y/\r=int y):=by
 unfold pH at h;refine aF.of func166 rfl ntmps166 (by simp) fun Q hQ=>?_
 refine J.cut (fun O H n=>O 0 = .list false (edges.map au)) (by simp) ?_;rintro O H U E;refine zE fun _ V=>?_
 simp[E];apply V;refine zE fun _ V=>?_
 simp[E];apply V;refine zS fun _ V=>?_
 simp[E];apply V;apply J.block;refine J.aO h (fun (sJ:Int × Int) O H n=>match sJ with | (many5,i6)=>(O 0 = .list false (edges.map au)/\O 3=int many5/\O 4=int i6)) (by simp[E]) ?_;clear E;rintro⟨many5,i6⟩ O H n7 K h E IH8;refine zS fun _ V=>?_
 obtain⟨fe,e,h⟩:=aJ h;have f11:=fun H=>aQ (H:=H) (fr:=false) (f:=au) aP e
 obtain⟨g,i,h⟩:=aJ h;have f13:=bc (k:=.i64) i;simp[E,f11,f13,-ax,-aL];apply V;refine J.ite (b:=g) (by simp[E]) (fun a=>?_) (fun a=>?_)
 ·replace h:=h.1 a;apply zK;apply J.block;refine zE fun _ V=>?_
  obtain⟨j,h⟩:=h;obtain⟨F,l,h⟩:=aJ h;have f16:=fun H=>aU (H:=H) (fr:=false) (f:=au) (k:=.i64) aP (fun _=>rfl) j l
  obtain⟨o,p,h⟩:=aJ h;have f18:=lR (k:=.i64) p;simp[E,f16,f18,a,-ar,-ax];apply V;refine J.ite (b:=o) (by simp[E,a]) (fun c=>?_) (fun c=>?_)
  ·replace h:=h.1 c;refine zF fun _ V=>?_
   obtain⟨q,h⟩:=h;obtain⟨v20,t,h⟩:=aJ h;have f21:=aR q t;simp[E,f21,a,c,-ax];apply V;refine zI fun _ V=>?_
   obtain⟨u,h⟩:=h;obtain⟨d,A,h⟩:=aJ h;have f24:=aR u A;simp[E,f24,a,c,-ax];apply V;refine J.cut (fun O H n=>(O 0 = .list false (edges.map au)/\O 3=int v20/\O 4=int d)) (by simp[E,f24,a,c,-ax]) ?_;clear E;rintro O H n25 E;refine IH8 (v20,d) _ _ _ h (by simp[E])
  replace h:=h.2 c;apply J.skip;refine zI fun _ V=>?_
  obtain⟨B,h⟩:=h;obtain⟨C,D,h⟩:=aJ h;have f28:=aR B D;simp[E,f28,a,c,-ax];apply V;refine IH8 (many5,C) _ _ _ h (by simp[E,a,c])
 replace h:=h.2 a;refine J.exit rfl ?_;refine zE fun _ V=>?_
 simp[E,a];apply V;exact J.bG (v:=int many5) func166 results166 (by simp[E,a]) (hQ _ _ _ _ (.of (.v _)) ⟨many5,h,rfl⟩)
theorem EF (edges:List Int) (hp:mm edges):aF prog 166 [.list false (edges.map au)] (fun r=>r=int (gK edges)):=(BR edges _ (EC edges hp)).mono (by rintro _ ⟨_,rfl,rfl⟩;rfl)
theorem e155:a8 prog 155:=a8.of func155 (by kernel_rfl) rfl
theorem Ay (parent:Int) (places:List Int) (Z:Int->Prop) (h:pO parent places Z):aF prog 155 [int parent,.list false (places.map au)] (fun r=>∃ y:Int,Z y/\r=int y):=by
 unfold pO at h;refine aF.of func155 rfl ntmps155 (by simp) fun Q hQ=>?_
 refine J.cut (fun O H n=>(O 0=int parent/\O 1 = .list false (places.map au))) (by simp) ?_;rintro O H U E;refine zE fun _ V=>?_
 simp[E];apply V;refine zS fun _ V=>?_
 obtain⟨c2,ec2,h⟩:=aJ h;have f3:=bc (k:=.i64) ec2;simp[E,f3,-ax];apply V;refine J.ite (b:=c2) (by simp[E]) (fun dc2=>?_) (fun dc2=>?_)
 ·replace h:=h.1 dc2;refine zE fun _ V=>?_
  obtain⟨hb4,h⟩:=h;obtain⟨v5,ev5,h⟩:=aJ h;have f6:=tV hb4 ev5;simp[E,f6,dc2,-ax];apply V;exact J.bG (v:=int v5) func155 results155 (by simp[E,dc2]) (hQ _ _ _ _ (.of (.v _)) ⟨v5,h,rfl⟩)
 replace h:=h.2 dc2;apply J.skip;refine zE fun _ V=>?_
 obtain⟨hb7,h⟩:=h;obtain⟨x8,ex8,h⟩:=aJ h;have f9:=fun H=>aU (H:=H) (fr:=false) (f:=au) (k:=.i64) aP (fun _=>rfl) hb7 ex8
 obtain⟨a,h⟩:=h;obtain⟨v11,c,h⟩:=aJ h;have f12:=aR a c;simp[E,f9,f12,dc2,-ar,-ax];apply V;exact J.bG (v:=int v11) func155 results155 (by simp[E,dc2]) (hQ _ _ _ _ (.of (.v _)) ⟨v11,h,rfl⟩)
theorem za (parent:Int) (places:List Int) (hp:ie parent places):aF prog 155 [int parent,.list false (places.map au)] (fun r=>r=int (A7 parent places)):=(Ay parent places _ (Ec parent places hp)).mono (by rintro _ ⟨_,rfl,rfl⟩;rfl)
theorem e154:a8 prog 154:=a8.of func154 (by kernel_rfl) rfl
theorem uK (b:aG) (links:List Int) (edges:List Int) (Z:((List Int) × (List Int))->Prop) (h:kY b links edges Z):bL prog 154 [.agg (bC false b),.list false (links.map au),.list false (edges.map au)] (.t [.s [.c],.s [.c]]) (fun r=>∃ y:(List Int) × (List Int),Z y/\r = .tup [.list true (y.1.map au),.list true (y.2.map au)]):=by
 unfold kY at h;have M:Sep bu 0 [] []:=Sep.nil (by simp);refine bL.of func154 rfl ntmps154 (by simp) fun Q hQ=>?_
 refine J.cut (fun O H n=>(O 0 = .agg (bC false b)/\O 1 = .list false (links.map au)/\O 2 = .list false (edges.map au))/\Sep H n [] []) (by refine⟨by simp ,M⟩) ?_;rintro O H U ⟨E,M⟩;refine zE fun _ V=>?_
 simp[E];apply V;refine J.cut (fun O H n=>((O 1 = .list false (links.map au)/\O 2 = .list false (edges.map au)/\O 3=pA U 3)/\H (U,3)=some ⟨6,[bC false b]⟩)/\Sep H n [] [(U,3)]) (by refine⟨by simp[E],M.var⟩) ?_;clear E;rintro O H n3 ⟨⟨E,a⟩,M⟩;refine zE fun _ V=>?_
 simp[E,a];apply V;refine J.cut (fun O H n=>∃ (v5:I),((O 1 = .list false (links.map au)/\O 2 = .list false (edges.map au)/\O 3=pA U 3/\O 8=v5)/\H (U,3)=some ⟨6,[bC false b]⟩)/\Sep H n [oI v5 ([]:List Int)] [(U,3)]) (by refine⟨.arr (n3,11) 0 0 0,by simp[E,a],(Sep.addEmpty (l:=[.c]) M)⟩) ?_;clear E a;rintro O H n6 ⟨v5,⟨E,a⟩,M⟩;refine zE fun _ V=>?_
 obtain⟨hb7,h⟩:=h;obtain⟨r8,er8,h⟩:=aJ h;simp[E,a];refine zW (tW edges hb7) e134 (.cons (dE false edges) .nil) M (by simp[E,a]) ?_;rintro v9 f8 f9 _ M rfl gc b2;rw[<- er8] at M;have a:=(b2 _ (by simp)).trans a;simp[E,a];apply V;refine J.cut (fun O H n=>∃ (L N:I),((O 1 = .list false (links.map au)/\O 3=pA U 3/\O 8=N/\O 9=L)/\H (U,3)=some ⟨6,[bC false b]⟩)/\Sep H n [oI L r8,oI N ([]:List Int)] [(U,3)]) (by refine⟨v9,v5,by simp[E,a],M⟩) ?_;clear E a;rintro O H n18 ⟨L,N,⟨E,a⟩,M⟩;refine zS fun _ V=>?_
 simp[E,a];apply V;apply J.block;refine J.aO h (fun (sJ:Int × (List Int) × (List Int)) O H n=>match sJ with | (i29,p,d)=>∃ (u B:I),((O 1 = .list false (links.map au)/\O 3=pA U 3/\O 8=B/\O 9=u/\O 10=int i29)/\H (U,3)=some ⟨6,[bC false b]⟩)/\Sep H n [oI u d,oI B p] [(U,3)]) (by refine⟨L,N,by simp[E,a],M⟩) ?_;clear E a;rintro⟨i29,p,d⟩ O H n34 K h ⟨u,B,⟨E,a⟩,M⟩ ad;refine zS fun _ V=>?_
 obtain⟨gd,cc,h⟩:=aJ h;have f38:=fun H=>aQ (H:=H) (fr:=false) (f:=au) aP cc
 obtain⟨ce,ch,h⟩:=aJ h;have f40:=bc (k:=.i64) ch;simp[E,a,f38,f40,-ax,-aL];apply V;refine J.ite (b:=ce) (by simp[E,a]) (fun i=>?_) (fun i=>?_)
 ·replace h:=h.1 i;apply zK;apply J.block;apply J.seq;refine J.gr aw aH bY (by decide) (by kernel_rfl) fun _ V=>?_
  obtain⟨ci,h⟩:=h;obtain⟨cj,C,h⟩:=aJ h;have f43:=fun H=>aU (H:=H) (fr:=false) (f:=au) (k:=.i64) aP (fun _=>rfl) ci C
  obtain⟨cl,co,h⟩:=aJ h;have f45:=lR (k:=.i64) co;simp[E,a,f43,f45,i,-ar,-ax];apply V;refine J.ite (b:=cl) (by simp[E,a,i]) (fun o=>?_) (fun o=>?_)
  ·replace h:=h.1 o;refine J.gr aw aH bY (by decide) (by kernel_rfl) fun _ V=>?_
   obtain⟨cs,h⟩:=h;obtain⟨gg,cv,h⟩:=aJ h;have c0:=C.trans cv.symm;subst c0;have f49:=fun H=>aU (H:=H) (fr:=false) (f:=au) (k:=.i64) aP (fun _=>rfl) cs C
   obtain⟨c1,h⟩:=h;obtain⟨v51,c2,h⟩:=aJ h;have f52:=tV c1 c2;obtain⟨c3,h⟩:=h;obtain⟨af,c4,h⟩:=aJ h;simp[E,a,f49,f52,i,o,-ar,-ax,-bj];refine dj [] [oI u d] [[int v51]] [au v51] M.f1 aP (by simp) (by simp) (by simp) (by simp[-aE,bf]) (cr (aT.v _ aT.nil)) (by simp) (by simpa using c3) ?_;rintro be c6 da M dc gi;replace M:Sep c6 da [oI be af,oI u d] [(U,3)]:=Sep.ap c4 M;have a:=(dc _ (by simp)).trans a;simp[E,a,f49,f52,i,o,-ar,-ax];apply V;refine J.cut (fun O H n=>∃ (R T:I),((O 1 = .list false (links.map au)/\O 3=pA U 3/\O 8=R/\O 9=T/\O 10=int i29)/\H (U,3)=some ⟨6,[bC false b]⟩)/\Sep H n [oI R af,oI T d] [(U,3)]) (by refine⟨be,u,by simp[E,a,f49,f52,i,o,-ar,-ax],M⟩) ?_;clear E a;rintro O H gj ⟨R,T,⟨E,a⟩,M⟩;refine J.exit rfl ?_;refine zF fun _ V=>?_
   obtain⟨dd,h⟩:=h;obtain⟨dl,dr,h⟩:=aJ h;have f66:=aR dd dr;simp[E,a,f66,-ax];apply V;refine ad (dl,af,d) _ _ _ h (by refine⟨T,R,by simp[E,a],M.f1⟩)
  replace h:=h.2 o;apply J.skip;refine zS fun _ V=>?_
  obtain⟨ds,h⟩:=h;obtain⟨gn,d0,h⟩:=aJ h;have d1:=C.trans d0.symm;subst d1;have f70:=fun H=>aU (H:=H) (fr:=false) (f:=au) (k:=.i64) aP (fun _=>rfl) ds C
  obtain⟨am,h⟩:=h;obtain⟨bi,hv,ao,go,W⟩:=Sep.di M (by simp) am;subst hv;simp at W;obtain⟨gs,d2,h⟩:=aJ h;have f77:=fun H (hm:H bi=some ⟨1,d.map au⟩)=>b7 (H:=H) (k:=.i64) (off:=0) (len:=d.length) (g:=d.length) aP hm (by simp) rfl am
  have f78:=b3 (q:=cj.toNat) am d2 rfl;obtain⟨br,d3,h⟩:=aJ h;have f80:=bc (k:=.i64) d3;simp[E,a,ao,W,f70,f77,f78,f80,i,o,-ar,-ax];apply V;refine J.cut (fun O H n=>∃ (aB A:I),((O 1 = .list false (links.map au)/\O 3=pA U 3/\O 8=A/\O 9=aB/\O 10=int i29/\O 44=bool br)/\H (U,3)=some ⟨6,[bC false b]⟩)/\Sep H n [oI aB d,oI A p] [(U,3)]) (by refine⟨.arr bi d.length 0 d.length,B,by simp[E,a,ao,W,f70,f77,f78,f80,i,o,-ar,-ax],M⟩) ?_;clear E a ao W;rintro O H d4 ⟨aB,A,⟨E,a⟩,M⟩;refine J.ite (b:=br) (by simp[E,a]) (fun j=>?_) (fun j=>?_)
  ·replace h:=h.1 j;refine J.gx aw aH bY (by decide) (by kernel_rfl) fun _ V=>?_
   obtain⟨d5,h⟩:=h;obtain⟨bs,d6,h⟩:=aJ h;have f86:=fun H=>aU (H:=H) (fr:=false) (f:=au) (k:=.i64) aP (fun _=>rfl) d5 d6
   obtain⟨d7,h⟩:=h;obtain⟨d8,d9,h⟩:=aJ h;simp[E,a,f86,j,-ar];refine bA.cY aw aH (EF d d7) e166 (.cons (Sep.bl M (aX (by simp))) .nil) (by decide) rfl (by simp[E,a,f86,j,-ar]) ?_;rw[<- d9];obtain⟨a0,h⟩:=h;obtain⟨a1,hv,eb,gu,D⟩:=Sep.di M (by simp) a0;subst hv;simp at D;obtain⟨gv,ed,h⟩:=aJ h;have f95:=fun H (hm:H a1=some ⟨1,d.map au⟩)=>b7 (H:=H) (k:=.i64) (off:=0) (len:=d.length) (g:=d.length) aP hm (by simp) rfl a0
   have f96:=b3 (q:=bs.toNat) a0 ed rfl;obtain⟨e,el,h⟩:=aJ h;simp[E,a,eb,D,f86,f95,f96,j,-ar,-bM];refine oX (q:=bs.toNat) (news:=au d8) [] [oI A p] M (by simp) (by simp;omega) (by simp) (by simp[-aE,bf]) (aT.v _ aT.nil) ?_;rintro em M es;replace M:Sep em d4 [oI (.arr a1 d.length 0 d.length) e,oI A p] [(U,3)]:=Sep.st el M;have a:=(es _ (by simp)).trans a;simp[E,a,D,f86,f95,f96,j,-ar];apply V;refine J.cut (fun O H n=>∃ (a2 a3:I),((O 1 = .list false (links.map au)/\O 3=pA U 3/\O 8=a3/\O 9=a2/\O 10=int i29)/\H (U,3)=some ⟨6,[bC false b]⟩)/\Sep H n [oI a2 e,oI a3 p] [(U,3)]) (by refine⟨.arr a1 d.length 0 d.length,A,by simp[E,a,D,f86,f95,f96,j,-ar],M⟩) ?_;clear E a D;rintro O H n103 ⟨a2,a3,⟨E,a⟩,M⟩;refine zF fun _ V=>?_
   obtain⟨ev,h⟩:=h;obtain⟨ex,ey,h⟩:=aJ h;have f106:=fun H=>aU (H:=H) (fr:=false) (f:=au) (k:=.i64) aP (fun _=>rfl) ev ey
   obtain⟨a4,h⟩:=h;obtain⟨X,hv,e0,gw,F⟩:=Sep.di M (by simp) a4;subst hv;simp at F;obtain⟨g0,e1,h⟩:=aJ h;have f113:=fun H (hm:H X=some ⟨1,e.map au⟩)=>b7 (H:=H) (k:=.i64) (off:=0) (len:=e.length) (g:=e.length) aP hm (by simp) rfl a4
   have f114:=b3 (q:=ex.toNat) a4 e1 rfl;obtain⟨e2,h⟩:=h;obtain⟨bv,e3,h⟩:=aJ h;have f117:=aR e2 e3;obtain⟨e4,h⟩:=h;obtain⟨a5,e5,h⟩:=aJ h;simp[E,a,e0,F,f106,f113,f114,f117,-ar,-ax,-bj];refine cX [] [oI (.arr X e.length 0 e.length) e] [[int bv]] [au bv] M.f1 aP (by simp) (by simp) (by simp) (by simp[-aE,bf]) (cr (aT.v _ aT.nil)) (by simp) (by simpa using e4) ?_;rintro b0 e6 n122 M e7 g1;replace M:Sep e6 n122 [oI b0 a5,oI (.arr X e.length 0 e.length) e] [(U,3)]:=Sep.ap e5 M;have a:=(e7 _ (by simp)).trans a;simp[E,a,F,f106,f113,f114,f117,-ar,-ax];apply V;refine J.cut (fun O H n=>∃ (Y v127:I),((O 1 = .list false (links.map au)/\O 3=pA U 3/\O 8=Y/\O 9=v127/\O 10=int i29)/\H (U,3)=some ⟨6,[bC false b]⟩)/\Sep H n [oI Y a5,oI v127 e] [(U,3)]) (by refine⟨b0,.arr X e.length 0 e.length,by simp[E,a,F,f106,f113,f114,f117,-ar,-ax],M⟩) ?_;clear E a F;rintro O H n128 ⟨Y,v127,⟨E,a⟩,M⟩;refine zI fun _ V=>?_
   obtain⟨e8,h⟩:=h;obtain⟨v130,fd,h⟩:=aJ h;have f131:=aR e8 fd;simp[E,a,f131,-ax];apply V;refine ad (v130,a5,e) _ _ _ h (by refine⟨v127,Y,by simp[E,a],M.f1⟩)
  replace h:=h.2 j;apply J.skip;refine zF fun _ V=>?_
  obtain⟨fl,h⟩:=h;obtain⟨fn,fo,h⟩:=aJ h;have f134:=fun H=>aU (H:=H) (fr:=false) (f:=au) (k:=.i64) aP (fun _=>rfl) fl fo
  obtain⟨a9,h⟩:=h;obtain⟨ab,hv,fs,g2,G⟩:=Sep.di M (by simp) a9;subst hv;simp at G;obtain⟨g3,fx,h⟩:=aJ h;have f141:=fun H (hm:H ab=some ⟨1,d.map au⟩)=>b7 (H:=H) (k:=.i64) (off:=0) (len:=d.length) (g:=d.length) aP hm (by simp) rfl a9
  have f142:=b3 (q:=fn.toNat) a9 fx rfl;obtain⟨fy,h⟩:=h;obtain⟨b1,fz,h⟩:=aJ h;have f145:=aR fy fz;obtain⟨f0,h⟩:=h;obtain⟨bd,f2,h⟩:=aJ h;simp[E,a,fs,G,f134,f141,f142,f145,j,-ar,-ax,-bj];refine cX [] [oI (.arr ab d.length 0 d.length) d] [[int b1]] [au b1] M.f1 aP (by simp) (by simp) (by simp) (by simp[-aE,bf]) (cr (aT.v _ aT.nil)) (by simp) (by simpa using f0) ?_;rintro v148 f3 n150 M f4 g4;replace M:Sep f3 n150 [oI v148 bd,oI (.arr ab d.length 0 d.length) d] [(U,3)]:=Sep.ap f2 M;have a:=(f4 _ (by simp)).trans a;simp[E,a,G,f134,f141,f142,f145,j,-ar,-ax];apply V;refine J.cut (fun O H n=>∃ (v154 ac:I),((O 1 = .list false (links.map au)/\O 3=pA U 3/\O 8=v154/\O 9=ac/\O 10=int i29)/\H (U,3)=some ⟨6,[bC false b]⟩)/\Sep H n [oI v154 bd,oI ac d] [(U,3)]) (by refine⟨v148,.arr ab d.length 0 d.length,by simp[E,a,G,f134,f141,f142,f145,j,-ar,-ax],M⟩) ?_;clear E a G;rintro O H n156 ⟨v154,ac,⟨E,a⟩,M⟩;refine zI fun _ V=>?_
  obtain⟨f5,h⟩:=h;obtain⟨f6,f7,h⟩:=aJ h;have f159:=aR f5 f7;simp[E,a,f159,-ax];apply V;refine ad (f6,bd,d) _ _ _ h (by refine⟨ac,v154,by simp[E,a],M.f1⟩)
 replace h:=h.2 i;refine J.exit rfl ?_;refine zE fun _ V=>?_
 simp[E,a,i];apply V;exact J.Aw (v:=B) (w:=u) func154 results154 (by simp[E,a,i]) (by simp[E,a,i]) (hQ _ _ _ _ (Sep.sub (dQ:=[]) (Sep.oY (aT.own (aT.own aT.nil)) M.f1) (by simp)) ⟨(p,d),h,rfl⟩)
theorem sM (b:aG) (links:List Int) (edges:List Int) (hp:eP b links edges):bL prog 154 [.agg (bC false b),.list false (links.map au),.list false (edges.map au)] (.t [.s [.c],.s [.c]]) (fun r=>r = .tup [.list true (((kA b links edges).1).map au),.list true (((kA b links edges).2).map au)]):=(uK b links edges _ (Av b links edges hp)).mono (by rintro _ ⟨_,rfl,rfl⟩;rfl)
theorem EE:a8 prog 130:=a8.of func130 (by kernel_rfl) rfl
theorem vN (b:aG) (node:Int) (places:List Int) (edges:List Int) (Z:((List Int) × (List Int))->Prop) (h:lq b node places edges Z):bL prog 130 [.agg (bC false b),int node,.list false (places.map au),.list false (edges.map au)] (.t [.s [.c],.s [.c]]) (fun r=>∃ y:(List Int) × (List Int),Z y/\r = .tup [.list true (y.1.map au),.list true (y.2.map au)]):=by
 unfold lq at h;have M:Sep bu 0 [] []:=Sep.nil (by simp);refine bL.of func130 rfl ntmps130 (by simp) fun Q hQ=>?_
 refine J.cut (fun O H n=>(O 0 = .agg (bC false b)/\O 1=int node/\O 2 = .list false (places.map au)/\O 3 = .list false (edges.map au))/\Sep H n [] []) (by refine⟨by simp ,M⟩) ?_;rintro O H U ⟨E,M⟩;refine zE fun _ V=>?_
 simp[E];apply V;refine J.cut (fun O H n=>((O 1=int node/\O 2 = .list false (places.map au)/\O 3 = .list false (edges.map au)/\O 4=pA U 4)/\H (U,4)=some ⟨6,[bC false b]⟩)/\Sep H n [] [(U,4)]) (by refine⟨by simp[E],M.var⟩) ?_;clear E;rintro O H n3 ⟨⟨E,d⟩,M⟩;refine zE fun _ V=>?_
 obtain⟨hb4,h⟩:=h;obtain⟨x5,ex5,h⟩:=aJ h;have f6:=fun H=>aU (H:=H) (fr:=false) (f:=(ay.cells false)) (k:=.i64) cG (fun _=>rfl) hb4 ex5
 simp[E,d,f6,-ar];apply V;refine J.cut (fun O H n=>((O 2 = .list false (places.map au)/\O 3 = .list false (edges.map au)/\O 4=pA U 4/\O 10=pA n3 10)/\H (U,4)=some ⟨6,[bC false b]⟩/\H (n3,10)=some ⟨3,[[int x5.control,int x5.parent,.list false (x5.links.map au)]]⟩)/\Sep H n [] [(n3,10),(U,4)]) (by refine⟨by simp[E,d,f6,-ar],M.var⟩) ?_;clear E d;rintro O H n8 ⟨⟨E,d,a⟩,M⟩;refine zE fun _ V=>?_
 obtain⟨hb9,h⟩:=h;obtain⟨e,A,h⟩:=aJ h;simp[E,d,a];refine zW (sM b x5.links edges hb9) e154 (.cons (dU false b) (.cons (dE false x5.links) (.cons (dE false edges) .nil))) M (by simp[E,d,a]) ?_;rintro v11 ad af _ M rfl am p;rw[<- A] at M;have d:=(p _ (by simp)).trans d;have a:=(p _ (by simp)).trans a;replace M:=Sep.eM M;obtain⟨L19,hv,B,M⟩:=M;subst hv;obtain⟨C,D,hv⟩:=b6 (by simpa using B);subst hv;simp only[dV,List.cons_append,List.nil_append] at M;replace M:=Sep.gz M;replace M:=Sep.gz M;try simp only[List.append_eq,List.cons_append,List.nil_append,List.append_assoc] at M
 simp[E,d,a];apply V;refine J.cut (fun O H n=>∃ (g v24:I),((O 2 = .list false (places.map au)/\O 10=pA n3 10/\O 11=g/\O 12=v24)/\H (n3,10)=some ⟨3,[[int x5.control,int x5.parent,.list false (x5.links.map au)]]⟩)/\Sep H n [oI g e.1,oI v24 e.2] [(n3,10)]) (by refine⟨C,D,by simp[E,d,a],(Sep.sub M (by simp +contextual))⟩) ?_;clear E d a;rintro O H n25 ⟨g,v24,⟨E,a⟩,M⟩;refine J.seqM aw [32] bY (by decide) (by kernel_rfl) fun _ V=>?_
 obtain⟨F,h⟩:=h;obtain⟨q,G,h⟩:=aJ h;simp[E,a];refine sN.cY (ai:=[32]) aw (za x5.parent places F) e155 (fun _ _ hE hN=>(.cons (.v _ _ _) (.cons (dE false places) .nil))) rfl (by simp[E,a]) ?_;rw[<- G];obtain⟨K,L,h⟩:=aJ h;simp[E,a,-ee];refine w8 (l:=[.c]) (cs:=[int x5.control,int q]) (([x5.control,q]:List Int).map au) M (by simp) aP (by simp) (by simp) (by simp[E,a,df,List.replicate,ee]) (by simp[chunks,List.range_succ]) (by simp) (by simp) ?_;rintro N R n31 M T ao;replace M:Sep R n31 [oI (.arr N 2 0 2) K,oI g e.1,oI v24 e.2] [(n3,10)]:=by rw[L];exact M
 have a:=(T _ (by simp)).trans a;obtain⟨W,h⟩:=h;obtain⟨o,X,h⟩:=aJ h;simp[E,a,-bj];refine rV (e.1.map au) M (by simp) aP (by simp) (by simp) (Sep.src M.f1 (by simp)) (by simp[-aE,bf]) (by simpa using W) ?_;rintro u Y ab M ac aB;replace M:Sep Y ab [oI u o,oI g e.1,oI v24 e.2] [(n3,10)]:=by refine Sep.ap X ?_;exact M
 have a:=(ac _ (by simp)).trans a;simp[E,a];apply V;refine J.cut (fun O H n=>∃ (i j:I),(O 8=i/\O 9=j)/\Sep H n [oI i o,oI j e.2] []) (by refine⟨u,v24,by simp[E,a],(Sep.sub M.f1.dr (by simp +contextual))⟩) ?_;clear E a;rintro O H a0 ⟨i,j,E,M⟩;exact J.Aw (v:=i) (w:=j) func130 results130 (by simp[E]) (by simp[E]) (hQ _ _ _ _ (Sep.sub (dQ:=[]) (Sep.oY (aT.own (aT.own aT.nil)) M) (by simp)) ⟨(o,e.2),h,rfl⟩)
theorem lh (b:aG) (node:Int) (places:List Int) (edges:List Int) (hp:eR b node places edges):bL prog 130 [.agg (bC false b),int node,.list false (places.map au),.list false (edges.map au)] (.t [.s [.c],.s [.c]]) (fun r=>r = .tup [.list true (((ek b node places edges).1).map au),.list true (((ek b node places edges).2).map au)]):=(vN b node places edges _ (Ba b node places edges hp)).mono (by rintro _ ⟨_,rfl,rfl⟩;rfl)
theorem e131:a8 prog 131:=a8.of func131 (by kernel_rfl) rfl
theorem yr (b:aG) (places:List Int) (edges:List Int) (Z:((List Int) × (List Int))->Prop) (h:mP b places edges Z):bL prog 131 [.agg (bC false b),.list false (places.map au),.list false (edges.map au)] (.t [.s [.c],.s [.c]]) (fun r=>∃ y:(List Int) × (List Int),Z y/\r = .tup [.list true (y.1.map au),.list true (y.2.map au)]):=by
 unfold mP at h;have M:Sep bu 0 [] []:=Sep.nil (by simp);refine bL.of func131 rfl ntmps131 (by simp) fun Q hQ=>?_
 refine J.cut (fun O H n=>(O 0 = .agg (bC false b)/\O 1 = .list false (places.map au)/\O 2 = .list false (edges.map au))/\Sep H n [] []) (by refine⟨by simp ,M⟩) ?_;rintro O H U ⟨E,M⟩;refine zE fun _ V=>?_
 simp[E];apply V;refine J.cut (fun O H n=>((O 1 = .list false (places.map au)/\O 2 = .list false (edges.map au)/\O 3=pA U 3)/\H (U,3)=some ⟨6,[bC false b]⟩)/\Sep H n [] [(U,3)]) (by refine⟨by simp[E],M.var⟩) ?_;clear E;rintro O H n3 ⟨⟨E,a⟩,M⟩;refine zE fun _ V=>?_
 simp[E,a];apply V;refine J.cut (fun O H n=>∃ (v5:I),((O 1 = .list false (places.map au)/\O 2 = .list false (edges.map au)/\O 3=pA U 3/\O 8=v5)/\H (U,3)=some ⟨6,[bC false b]⟩)/\Sep H n [oI v5 ([]:List Int)] [(U,3)]) (by refine⟨.arr (n3,14) 0 0 0,by simp[E,a],(Sep.addEmpty (l:=[.c]) M)⟩) ?_;clear E a;rintro O H n6 ⟨v5,⟨E,a⟩,M⟩;refine zS fun _ V=>?_
 simp[E,a];apply V;apply J.block;refine J.aO h (fun (sJ:Int × (List Int)) O H n=>match sJ with | (i14,g)=>∃ (p:I),((O 1 = .list false (places.map au)/\O 2 = .list false (edges.map au)/\O 3=pA U 3/\O 8=p/\O 9=int i14)/\H (U,3)=some ⟨6,[bC false b]⟩)/\Sep H n [oI p g] [(U,3)]) (by refine⟨v5,by simp[E,a],M⟩) ?_;clear E a;rintro⟨i14,g⟩ O H n17 K h ⟨p,⟨E,a⟩,M⟩ ac;refine zS fun _ V=>?_
 obtain⟨da,ad,h⟩:=aJ h;have f21:=fun H=>aQ (H:=H) (fr:=false) (f:=au) aP ad
 obtain⟨af,am,h⟩:=aJ h;have f23:=bc (k:=.i64) am;simp[E,a,f21,f23,-ax,-aL];apply V;refine J.ite (b:=af) (by simp[E,a]) (fun d=>?_) (fun d=>?_)
 ·replace h:=h.1 d;apply zK;apply J.block;refine zF fun _ V=>?_
  obtain⟨ao,h⟩:=h;obtain⟨aB,a0,h⟩:=aJ h;have f26:=fun H=>aU (H:=H) (fr:=false) (f:=au) (k:=.i64) aP (fun _=>rfl) ao a0
  obtain⟨a1,h⟩:=h;obtain⟨W,a2,h⟩:=aJ h;simp[E,a,f26,d,-ar];refine zA (za aB places a1) e155 (.cons (.v _ _ _) (.cons (dE false places) .nil)) (by simp[E,a,f26,d,-ar]) ?_;rintro _ rfl;rw[<- a2];obtain⟨a3,h⟩:=h;obtain⟨F,a4,h⟩:=aJ h;simp[E,a,f26,d,-ar,-bj];refine cX [] [] [[int W]] [au W] M aP (by simp) (by simp) (by simp) (by simp[-aE,bf]) (cr (aT.v _ aT.nil)) (by simp) (by simpa using a3) ?_;rintro v31 a5 n33 M a9 dc;replace M:Sep a5 n33 [oI v31 F] [(U,3)]:=Sep.ap a4 M;have a:=(a9 _ (by simp)).trans a;simp[E,a,f26,d,-ar];apply V;refine J.cut (fun O H n=>∃ (v37:I),((O 1 = .list false (places.map au)/\O 2 = .list false (edges.map au)/\O 3=pA U 3/\O 8=v37/\O 9=int i14)/\H (U,3)=some ⟨6,[bC false b]⟩)/\Sep H n [oI v37 F] [(U,3)]) (by refine⟨v31,by simp[E,a,f26,d,-ar],M⟩) ?_;clear E a;rintro O H n38 ⟨v37,⟨E,a⟩,M⟩;refine zI fun _ V=>?_
  obtain⟨bd,h⟩:=h;obtain⟨v40,be,h⟩:=aJ h;have f41:=aR bd be;simp[E,a,f41,-ax];apply V;refine ac (v40,F) _ _ _ h (by refine⟨v37,by simp[E,a],M⟩)
 replace h:=h.2 d;refine J.exit rfl ?_;refine zE fun _ V=>?_
 simp[E,a,d];apply V;refine J.cut (fun O H n=>∃ (q u:I),((O 2 = .list false (edges.map au)/\O 3=pA U 3/\O 8=u/\O 10=q)/\H (U,3)=some ⟨6,[bC false b]⟩)/\Sep H n [oI q ([]:List Int),oI u g] [(U,3)]) (by refine⟨.arr (n17,32) 0 0 0,p,by simp[E,a,d],(Sep.addEmpty (l:=[.c]) M)⟩) ?_;clear E a;rintro O H dd ⟨q,u,⟨E,a⟩,M⟩;refine zS fun _ V=>?_
 simp[E,a];apply V;apply J.block;refine J.aO h (fun (sJ:Int × (List Int)) O H n=>match sJ with | (i55,G)=>∃ (L i:I),((O 2 = .list false (edges.map au)/\O 3=pA U 3/\O 8=i/\O 10=L/\O 11=int i55)/\H (U,3)=some ⟨6,[bC false b]⟩)/\Sep H n [oI L G,oI i g] [(U,3)]) (by refine⟨q,u,by simp[E,a],M⟩) ?_;clear E a;rintro⟨i55,G⟩ O H dl K h ⟨L,i,⟨E,a⟩,M⟩ bi;refine zS fun _ V=>?_
 obtain⟨ds,br,h⟩:=aJ h;have f63:=fun H=>aQ (H:=H) (fr:=false) (f:=aI.cells) fh br
 obtain⟨bs,bv,h⟩:=aJ h;have f65:=bc (k:=.i64) bv;simp[E,a,f63,f65,-ax,-aL];apply V;refine J.ite (b:=bs) (by simp[E,a]) (fun e=>?_) (fun e=>?_)
 ·replace h:=h.1 e;apply zK;apply J.block;refine zF fun _ V=>?_
  obtain⟨b0,h⟩:=h;obtain⟨X,b1,h⟩:=aJ h;have f68:=fun H=>aU (H:=H) (fr:=false) (f:=aI.cells) (k:=.i64) fh (fun _=>rfl) b0 b1
  obtain⟨b2,h⟩:=h;obtain⟨N,cc,h⟩:=aJ h;simp[E,a,f68,e,-ar,-bj];refine cX [] [oI i g] [[int X.link]] [au X.link] M aP (by simp) (by simp) (by simp) (by simp[-aE,bf]) (cr (aT.v _ aT.nil)) (by simp) (by simpa using b2) ?_;rintro Y ce ch M ci d0;replace M:Sep ce ch [oI Y N,oI i g] [(U,3)]:=Sep.ap cc M;have a:=(ci _ (by simp)).trans a;simp[E,a,f68,e,-ar];apply V;refine J.cut (fun O H n=>∃ (A B:I),((O 2 = .list false (edges.map au)/\O 3=pA U 3/\O 8=B/\O 10=A/\O 11=int i55)/\H (U,3)=some ⟨6,[bC false b]⟩)/\Sep H n [oI A N,oI B g] [(U,3)]) (by refine⟨Y,i,by simp[E,a,f68,e,-ar],M⟩) ?_;clear E a;rintro O H d1 ⟨A,B,⟨E,a⟩,M⟩;refine zI fun _ V=>?_
  obtain⟨cj,h⟩:=h;obtain⟨cl,co,h⟩:=aJ h;have f82:=aR cj co;simp[E,a,f82,-ax];apply V;refine bi (cl,N) _ _ _ h (by refine⟨A,B,by simp[E,a],M⟩)
 replace h:=h.2 e;refine J.exit rfl ?_;refine zE fun _ V=>?_
 obtain⟨cs,h⟩:=h;obtain⟨j,cv,h⟩:=aJ h;simp[E,a,e];refine zW (sM b G edges cs) e154 (.cons (dU false b) (.cons (Sep.bl M (aX (by simp))) (.cons (dE false edges) .nil))) M (by simp[E,a,e]) ?_;rintro v85 d2 d3 _ M rfl d4 c0;rw[<- cv] at M;have a:=(c0 _ (by simp)).trans a;replace M:=Sep.eM M;obtain⟨L93,hv,c1,M⟩:=M;subst hv;obtain⟨v91,c2,hv⟩:=b6 (by simpa using c1);subst hv;simp only[dV,List.cons_append,List.nil_append] at M;replace M:=Sep.gz M;replace M:=Sep.gz M;try simp only[List.append_eq,List.cons_append,List.nil_append,List.append_assoc] at M
 simp[E,a,e];apply V;refine J.cut (fun O H n=>∃ (R C o:I),(O 8=R/\O 12=C/\O 13=o)/\Sep H n [oI R g,oI C j.1,oI o j.2] []) (by refine⟨i,v91,c2,by simp[E,a,e],(Sep.sub M.dr (by simp +contextual))⟩) ?_;clear E a;rintro O H n100 ⟨R,C,o,E,M⟩;refine zE fun _ V=>?_
 obtain⟨c3,h⟩:=h;obtain⟨T,c4,h⟩:=aJ h;simp[E,-bj];refine dk (j.1.map au) M (by simp) aP (by simp) (by simp) (Sep.src M.f1 (by simp)) (by simp[-aE,bf]) (by simpa using c3) ?_;rintro ab c6 n105 M d5 d6;replace M:Sep c6 n105 [oI ab T,oI C j.1,oI o j.2] []:=by refine Sep.ap c4 ?_;exact M
 simp[E];apply V;refine J.cut (fun O H n=>∃ (v109 D:I),(O 6=v109/\O 7=D)/\Sep H n [oI v109 T,oI D j.2] []) (by refine⟨ab,o,by simp[E],M.f1.dr⟩) ?_;clear E;rintro O H n111 ⟨v109,D,E,M⟩;exact J.Aw (v:=v109) (w:=D) func131 results131 (by simp[E]) (by simp[E]) (hQ _ _ _ _ (Sep.sub (dQ:=[]) (Sep.oY (aT.own (aT.own aT.nil)) M) (by simp)) ⟨(T,j.2),h,rfl⟩)
theorem vz (b:aG) (places:List Int) (edges:List Int) (hp:jq b places edges):bL prog 131 [.agg (bC false b),.list false (places.map au),.list false (edges.map au)] (.t [.s [.c],.s [.c]]) (fun r=>r = .tup [.list true (((lP b places edges).1).map au),.list true (((lP b places edges).2).map au)]):=(yr b places edges _ (CB b places edges hp)).mono (by rintro _ ⟨_,rfl,rfl⟩;rfl)
theorem e84:a8 prog 84:=a8.of func84 (by kernel_rfl) rfl
theorem uL (b:aG) (order:List Int) (Z:((List Int) × (List Int))->Prop) (h:kU b order Z):bL prog 84 [.agg (bC false b),.list false (order.map au)] (.t [.s [.c],.s [.c]]) (fun r=>∃ y:(List Int) × (List Int),Z y/\r = .tup [.list true (y.1.map au),.list true (y.2.map au)]):=by
 unfold kU at h;have M:Sep bu 0 [] []:=Sep.nil (by simp);refine bL.of func84 rfl ntmps84 (by simp) fun Q hQ=>?_
 refine J.cut (fun O H n=>(O 0 = .agg (bC false b)/\O 1 = .list false (order.map au))/\Sep H n [] []) (by refine⟨by simp ,M⟩) ?_;rintro O H U ⟨E,M⟩;refine zE fun _ V=>?_
 simp[E];apply V;refine J.cut (fun O H n=>((O 1 = .list false (order.map au)/\O 2=pA U 2)/\H (U,2)=some ⟨6,[bC false b]⟩)/\Sep H n [] [(U,2)]) (by refine⟨by simp[E],M.var⟩) ?_;clear E;rintro O H n3 ⟨⟨E,a⟩,M⟩;refine zE fun _ V=>?_
 simp[E,a];apply V;refine J.cut (fun O H n=>∃ (v5:I),((O 1 = .list false (order.map au)/\O 2=pA U 2/\O 6=v5)/\H (U,2)=some ⟨6,[bC false b]⟩)/\Sep H n [oI v5 ([]:List Int)] [(U,2)]) (by refine⟨.arr (n3,14) 0 0 0,by simp[E,a],(Sep.addEmpty (l:=[.c]) M)⟩) ?_;clear E a;rintro O H n6 ⟨v5,⟨E,a⟩,M⟩;refine zE fun _ V=>?_
 obtain⟨hb7,h⟩:=h;obtain⟨r8,er8,h⟩:=aJ h;simp[E,a];refine zW (mQ b.edges hb7) EB (.cons (.v _ _ _) .nil) M (by simp[E,a]) ?_;rintro v9 es ev _ M rfl ex be;rw[<- er8] at M;have a:=(be _ (by simp)).trans a;simp[E,a];apply V;refine J.cut (fun O H n=>∃ (T W:I),((O 1 = .list false (order.map au)/\O 2=pA U 2/\O 6=W/\O 7=T)/\H (U,2)=some ⟨6,[bC false b]⟩)/\Sep H n [oI T r8,oI W ([]:List Int)] [(U,2)]) (by refine⟨v9,v5,by simp[E,a],M⟩) ?_;clear E a;rintro O H n18 ⟨T,W,⟨E,a⟩,M⟩;refine zE fun _ V=>?_
 obtain⟨bi,br,h⟩:=aJ h;have f20:=fun H=>aQ (H:=H) (fr:=false) (f:=(ay.cells false)) cG br
 obtain⟨bs,h⟩:=h;obtain⟨bv,b0,h⟩:=aJ h;simp[E,a,f20,-aL];refine zW (mQ bi bs) EB (.cons (.v _ _ _) .nil) M (by simp[E,a,f20,-aL]) ?_;rintro b1 ey n25 _ M rfl e0 b2;rw[<- b0] at M;have a:=(b2 _ (by simp)).trans a;simp[E,a,f20,-aL];apply V;refine J.cut (fun O H n=>∃ (v30 v31 X:I),((O 1 = .list false (order.map au)/\O 2=pA U 2/\O 6=X/\O 7=v31/\O 8=v30)/\H (U,2)=some ⟨6,[bC false b]⟩)/\Sep H n [oI v30 bv,oI v31 r8,oI X ([]:List Int)] [(U,2)]) (by refine⟨b1,T,W,by simp[E,a,f20,-aL],M⟩) ?_;clear E a;rintro O H n33 ⟨v30,v31,X,⟨E,a⟩,M⟩;refine zS fun _ V=>?_
 simp[E,a];apply V;apply J.block;refine J.aO h (fun (sJ:Int × (List Int) × (List Int) × (List Int)) O H n=>match sJ with | (i47,d,B,j)=>∃ (v51 Y v53:I),((O 1 = .list false (order.map au)/\O 2=pA U 2/\O 6=v53/\O 7=Y/\O 8=v51/\O 9=int i47)/\H (U,2)=some ⟨6,[bC false b]⟩)/\Sep H n [oI v51 d,oI Y B,oI v53 j] [(U,2)]) (by refine⟨v30,v31,X,by simp[E,a],M⟩) ?_;clear E a;rintro⟨i47,d,B,j⟩ O H e1 K h ⟨v51,Y,v53,⟨E,a⟩,M⟩ cc;refine zS fun _ V=>?_
 obtain⟨e2,ce,h⟩:=aJ h;have f58:=fun H=>aQ (H:=H) (fr:=false) (f:=au) aP ce
 obtain⟨ch,ci,h⟩:=aJ h;have f60:=bc (k:=.i64) ci;simp[E,a,f58,f60,-ax,-aL];apply V;refine J.ite (b:=ch) (by simp[E,a]) (fun u=>?_) (fun u=>?_)
 ·replace h:=h.1 u;apply zK;apply J.block;refine J.cut (fun O H n=>∃ (o C A:I),((O 1 = .list false (order.map au)/\O 2=pA U 2/\O 6=A/\O 7=C/\O 8=o/\O 9=int i47)/\H (U,2)=some ⟨6,[bC false b]⟩)/\Sep H n [oI o d,oI C B,oI A j] [(U,2)]) (by refine⟨v51,Y,v53,by simp[E,a,u],M⟩) ?_;clear E a;rintro O H e3 ⟨o,C,A,⟨E,a⟩,M⟩;obtain⟨a5,h⟩:=h;obtain⟨ab,a9,h⟩:=aJ h;have f67:=fun H=>aU (H:=H) (fr:=false) (f:=au) (k:=.i64) aP (fun _=>rfl) a5 a9
  obtain⟨cj,h⟩:=h;obtain⟨e,cl,h⟩:=aJ h;refine J.Bg (fun H n=>H (U,2)=some ⟨6,[bC false b]⟩/\Sep H n [oI o d,oI C B,oI A j] [(U,2)]) [7,8,9,10,11,12] (.free 0 (.free 1 (.free 2 (.free 3 (.free 4 (.free 5 (.free 6 (.aS 7 (.aS 8 (.aS 9 (.aS 10 (.aS 11 (.aS 12 (.fin) (.stop)) (.stop)) (.aS 11 (.aS 10 (.aS 12 (.fin) (.stop)) (.stop)) (.stop))) (.aS 10 (.aS 9 (.aS 11 (.aS 12 (.fin) (.stop)) (.stop)) (.stop)) (.stop))) (.stop)) (.stop))))))))) (fun O H n=>∃ (v72 F ao v75:I),((O 1 = .list false (order.map au)/\O 2=pA U 2/\O 6=v75/\O 8=ao/\O 9=int i47/\O 10=v72/\O 11=F)/\H (U,2)=some ⟨6,[bC false b]⟩)/\Sep H n [oI v72 e.1,oI F e.2,oI ao d,oI v75 j] [(U,2)]) bY (by decide) (by kernel_rfl) ?_ ?_
  ·refine RunT.free (.agg (bC false b)) rfl rfl ⟨a,M⟩ (fun H n hS=>by obtain⟨a,M⟩:=hS;exact (by exact aC aw (by rw[aA];simp[E,a,f67,-ar]))) ?_;refine RunT.free (.list false (order.map au)) rfl rfl ⟨a,M⟩ (fun H n hS=>by obtain⟨a,M⟩:=hS;exact (by exact aC aw (by rw[aA];simp[E,a,f67,-ar]))) ?_;refine RunT.free (int i47) rfl rfl ⟨a,M⟩ (fun H n hS=>by obtain⟨a,M⟩:=hS;exact (by exact aC aw (by rw[aA];simp[E,a,f67,-ar]))) ?_;refine RunT.free (.iptr false [int ab]) rfl rfl ⟨a,M⟩ (fun H n hS=>by obtain⟨a,M⟩:=hS;exact (by have f67:=fun H=>aU (H:=H) (fr:=false) (f:=au) (k:=.i64) aP (fun _=>rfl) a5 a9;exact aC aw (by rw[aA];simp[E,a,f67,-ar]))) ?_;refine RunT.free (int ab) rfl rfl ⟨a,M⟩ (fun H n hS=>by obtain⟨a,M⟩:=hS;exact (by exact aC aw (by rw[aA];simp[E,a,f67,-ar]))) ?_;refine RunT.free o rfl rfl ⟨a,M⟩ (fun H n hS=>by obtain⟨a,M⟩:=hS;exact (by exact aC aw (by rw[aA];simp[E,a,f67,-ar]))) ?_;refine RunT.free C rfl rfl ⟨a,M⟩ (fun H n hS=>by obtain⟨a,M⟩:=hS;exact (by exact aC aw (by rw[aA];simp[E,a,f67,-ar]))) ?_;refine⟨?_,trivial⟩;refine RunT.lN (as1:=[.agg (bC false b),int ab,o,C]) rfl rfl (lh b ab d B cj) EE (.cons (dU false b) (.cons (.v _ _ _) (.cons (Sep.bl M (aX (by simp))) (.cons (Sep.bl M.f1 (aX (by simp))) .nil)))) M (by simp[E,a,f67,-ar]) (by simp[E,a,f67,-ar]) ?_;rintro e4 co cs _ M rfl e5 cv;rw[<- cl] at M;replace M:=Sep.eM M;obtain⟨L85,hv,c0,M⟩:=M;subst hv;obtain⟨p,i,hv⟩:=b6 (by simpa using c0);subst hv;simp only[dV,List.cons_append,List.nil_append] at M;replace M:=Sep.gz M;replace M:=Sep.gz M;try simp only[List.append_eq,List.cons_append,List.nil_append,List.append_assoc] at M
   replace M:Sep co cs [oI o d,oI C B,oI A j,oI p e.1,oI i e.2] [(U,2)]:=M;have a:=(cv _ (by simp)).trans a;refine⟨(fun hl=>absurd (hl.symm.trans (show bh _ _ _=true by kernel_rfl)) (by decide)),?_⟩;refine⟨?_,trivial⟩;refine RunT.same (v:=(.tup [p,i])) aw rfl rfl (by simp[E,a,f67,-ar]) (fun hl=>absurd (hl.symm.trans (show bh _ _ _=true by kernel_rfl)) (by decide)) ?_;refine⟨?_,?_,trivial⟩
   ·have f100:=Sep.oc M.f3;refine RunT.same (v:=p) aw rfl rfl (by simp[E,a,f67,f100,-az,-ar,-aE,bB,bf]) (fun hl=>absurd (hl.symm.trans (show bh _ _ _=true by kernel_rfl)) (by decide)) ?_;refine⟨?_,?_,trivial⟩
    ·have f107:=Sep.oc M.f4;refine RunT.same (v:=i) aw rfl rfl (by simp[E,a,f67,f100,f107,-az,-ar,-aE,bB,bf]) (fun hl=>absurd (hl.symm.trans (show bh _ _ _=true by kernel_rfl)) (by decide)) ?_;refine⟨?_,trivial⟩;have f114:=Sep.oc M.f3;refine RunT.same (v:=p) aw rfl rfl (by simp[E,a,f67,f100,f107,f114,-az,-ar,-aE,bB,bf]) (fun hl=>absurd (hl.symm.trans (show bh _ _ _=true by kernel_rfl)) (by decide)) ?_;refine⟨?_,trivial⟩;have f121:=Sep.oc M.f4;refine RunT.same (v:=i) aw rfl rfl (by simp[E,a,f67,f100,f107,f114,f121,-az,-ar,-aE,bB,bf]) (fun hl=>absurd (hl.symm.trans (show bh _ _ _=true by kernel_rfl)) (by decide)) ?_;refine RunT.fin (by refine⟨p,i,o,A,by simp[E,a,f67,f100,f107,f114,f121,-az,-ar,-aE,bB,bf],M.f1.dr.f3.f3⟩)
    have f128:=Sep.oc M.f3;refine RunT.same (v:=p) aw rfl rfl (by simp[E,a,f67,f100,f128,-az,-ar,-aE,bB,bf]) (fun hl=>absurd (hl.symm.trans (show bh _ _ _=true by kernel_rfl)) (by decide)) ?_;refine⟨?_,trivial⟩;have f135:=Sep.oc M.f4;refine RunT.same (v:=i) aw rfl rfl (by simp[E,a,f67,f100,f128,f135,-az,-ar,-aE,bB,bf]) (fun hl=>absurd (hl.symm.trans (show bh _ _ _=true by kernel_rfl)) (by decide)) ?_;refine⟨?_,trivial⟩;have f142:=Sep.oc M.f4;refine RunT.same (v:=i) aw rfl rfl (by simp[E,a,f67,f100,f128,f135,f142,-az,-ar,-aE,bB,bf]) (fun hl=>absurd (hl.symm.trans (show bh _ _ _=true by kernel_rfl)) (by decide)) ?_;refine RunT.fin (by refine⟨p,i,o,A,by simp[E,a,f67,f100,f128,f135,f142,-az,-ar,-aE,bB,bf],M.f1.dr.f3.f3⟩)
   have f149:=Sep.oc M.f4;refine RunT.same (v:=i) aw rfl rfl (by simp[E,a,f67,f149,-az,-ar,-aE,bB,bf]) (fun hl=>absurd (hl.symm.trans (show bh _ _ _=true by kernel_rfl)) (by decide)) ?_;refine⟨?_,trivial⟩;have f156:=Sep.oc M.f3;refine RunT.same (v:=p) aw rfl rfl (by simp[E,a,f67,f149,f156,-az,-ar,-aE,bB,bf]) (fun hl=>absurd (hl.symm.trans (show bh _ _ _=true by kernel_rfl)) (by decide)) ?_;refine⟨?_,trivial⟩;have f163:=Sep.oc M.f3;refine RunT.same (v:=p) aw rfl rfl (by simp[E,a,f67,f149,f156,f163,-az,-ar,-aE,bB,bf]) (fun hl=>absurd (hl.symm.trans (show bh _ _ _=true by kernel_rfl)) (by decide)) ?_;refine⟨?_,trivial⟩;have f170:=Sep.oc M.f4;refine RunT.same (v:=i) aw rfl rfl (by simp[E,a,f67,f149,f156,f163,f170,-az,-ar,-aE,bB,bf]) (fun hl=>absurd (hl.symm.trans (show bh _ _ _=true by kernel_rfl)) (by decide)) ?_;refine RunT.fin (by refine⟨p,i,o,A,by simp[E,a,f67,f149,f156,f163,f170,-az,-ar,-aE,bB,bf],M.f1.dr.f3.f3⟩)
  clear E a;rintro O H c1 ⟨v72,F,ao,v75,⟨E,a⟩,M⟩;refine zE fun _ V=>?_
  obtain⟨c2,h⟩:=h;obtain⟨bd,c3,h⟩:=aJ h;have f173:=fun H=>aU (H:=H) (fr:=false) (f:=au) (k:=.i64) aP (fun _=>rfl) c2 c3
  obtain⟨aB,h⟩:=h;obtain⟨a0,hv,c4,e6,G⟩:=Sep.di M.f2 (by simp) aB;subst hv;simp at G;obtain⟨e7,c6,h⟩:=aJ h;have f180:=fun H (hm:H a0=some ⟨1,d.map au⟩)=>b7 (H:=H) (k:=.i64) (off:=0) (len:=d.length) (g:=d.length) aP hm (by simp) rfl aB
  have f181:=b3 (q:=bd.toNat) aB c6 rfl;obtain⟨L,da,h⟩:=aJ h;simp[E,a,c4,G,f173,f180,f181,-ar,-bM];refine cV (q:=bd.toNat) (news:=au i47) [] [oI v72 e.1,oI F e.2,oI v75 j] M.f2 (by simp) (by simp;omega) (by simp) (by simp[-aE,bf]) (aT.v _ aT.nil) ?_;rintro dc M dd;replace M:Sep dc c1 [oI (.arr a0 d.length 0 d.length) L,oI v72 e.1,oI F e.2,oI v75 j] [(U,2)]:=Sep.st da M;have a:=(dd _ (by simp)).trans a;simp[E,a,G,f173,f180,f181,-ar];apply V;refine J.cut (fun O H n=>∃ (N ac R a1:I),((O 1 = .list false (order.map au)/\O 2=pA U 2/\O 6=a1/\O 8=N/\O 9=int i47/\O 10=ac/\O 11=R)/\H (U,2)=some ⟨6,[bC false b]⟩)/\Sep H n [oI N L,oI ac e.1,oI R e.2,oI a1 j] [(U,2)]) (by refine⟨.arr a0 d.length 0 d.length,v72,F,v75,by simp[E,a,G,f173,f180,f181,-ar],M⟩) ?_;clear E a G;rintro O H n190 ⟨N,ac,R,a1,⟨E,a⟩,M⟩;refine zE fun _ V=>?_
  simp[E,a];apply V;refine zF fun _ V=>?_
  obtain⟨dl,h⟩:=h;obtain⟨a2,ds,h⟩:=aJ h;simp[E,a,-bj];refine dk (e.1.map au) M.f3 (by simp) aP (by simp) (by simp) (Sep.src M.f1 (by simp)) (by simp[-aE,bf]) (by simpa using dl) ?_;rintro v193 d0 n195 M d1 e8;replace M:Sep d0 n195 [oI v193 a2,oI N L,oI ac e.1,oI R e.2] [(U,2)]:=by refine Sep.ap ds ?_;exact M
  have a:=(d1 _ (by simp)).trans a;simp[E,a];apply V;refine J.cut (fun O H n=>∃ (ad af v201:I),((O 1 = .list false (order.map au)/\O 2=pA U 2/\O 6=ad/\O 7=v201/\O 8=af/\O 9=int i47)/\H (U,2)=some ⟨6,[bC false b]⟩)/\Sep H n [oI ad a2,oI af L,oI v201 e.2] [(U,2)]) (by refine⟨v193,N,R,by simp[E,a],M.f2.dr⟩) ?_;clear E a;rintro O H n202 ⟨ad,af,v201,⟨E,a⟩,M⟩;refine zI fun _ V=>?_
  obtain⟨d2,h⟩:=h;obtain⟨d3,d4,h⟩:=aJ h;have f205:=aR d2 d4;simp[E,a,f205,-ax];apply V;refine cc (d3,L,e.2,a2) _ _ _ h (by refine⟨af,v201,ad,by simp[E,a],M.f2.f2⟩)
 replace h:=h.2 u;refine J.exit rfl ?_;refine zE fun _ V=>?_
 obtain⟨d5,h⟩:=h;obtain⟨D,d6,h⟩:=aJ h;simp[E,a,u];refine zW (vz b d B d5) e131 (.cons (dU false b) (.cons (Sep.bl M (aX (by simp))) (.cons (Sep.bl M.f1 (aX (by simp))) .nil))) M (by simp[E,a,u]) ?_;rintro v208 fd n210 _ M rfl fl d7;rw[<- d6] at M;have a:=(d7 _ (by simp)).trans a;replace M:=Sep.eM M;obtain⟨L216,hv,d8,M⟩:=M;subst hv;obtain⟨d9,eb,hv⟩:=b6 (by simpa using d8);subst hv;simp only[dV,List.cons_append,List.nil_append] at M;replace M:=Sep.gz M;replace M:=Sep.gz M;try simp only[List.append_eq,List.cons_append,List.nil_append,List.append_assoc] at M
 simp[E,a,u];apply V;refine J.cut (fun O H n=>∃ (a3 am v222:I),(O 6=a3/\O 12=am/\O 13=v222)/\Sep H n [oI a3 j,oI am D.1,oI v222 D.2] []) (by refine⟨v53,d9,eb,by simp[E,a,u],(Sep.sub M.dr.dr (by simp +contextual))⟩) ?_;clear E a;rintro O H n223 ⟨a3,am,v222,E,M⟩;refine zE fun _ V=>?_
 obtain⟨ed,h⟩:=h;obtain⟨a4,el,h⟩:=aJ h;simp[E,-bj];refine dk (D.1.map au) M (by simp) aP (by simp) (by simp) (Sep.src M.f1 (by simp)) (by simp[-aE,bf]) (by simpa using ed) ?_;rintro v226 em n228 M fn fo;replace M:Sep em n228 [oI v226 a4,oI am D.1,oI v222 D.2] []:=by refine Sep.ap el ?_;exact M
 simp[E];apply V;refine J.cut (fun O H n=>∃ (v232 v233:I),(O 4=v232/\O 5=v233)/\Sep H n [oI v232 a4,oI v233 D.2] []) (by refine⟨v226,v222,by simp[E],M.f1.dr⟩) ?_;clear E;rintro O H n234 ⟨v232,v233,E,M⟩;exact J.Aw (v:=v232) (w:=v233) func84 results84 (by simp[E]) (by simp[E]) (hQ _ _ _ _ (Sep.sub (dQ:=[]) (Sep.oY (aT.own (aT.own aT.nil)) M) (by simp)) ⟨(a4,D.2),h,rfl⟩)
theorem Aq (b:aG) (order:List Int) (hp:me b order):bL prog 84 [.agg (bC false b),.list false (order.map au)] (.t [.s [.c],.s [.c]]) (fun r=>r = .tup [.list true (((lZ b order).1).map au),.list true (((lZ b order).2).map au)]):=(uL b order _ (A0 b order hp)).mono (by rintro _ ⟨_,rfl,rfl⟩;rfl)
end Go.Ab.Vg
namespace Go.Ab.Vg
open Go.Proofs
set_option maxRecDepth 100000
attribute [local simp] ay.cells aI.cells au iX a7 bC pA
theorem e179:a8 prog 179:=a8.of func179 (by kernel_rfl) rfl
theorem vA (b:aG) (parent:Int) (Z:(List Int)->Prop) (h:lC b parent Z):bL prog 179 [.agg (bC false b),int parent] (.s [.c]) (fun r=>∃ y:List Int,Z y/\r = .list true (y.map au)):=by
 unfold lC at h;have M:Sep bu 0 [] []:=Sep.nil (by simp);refine bL.of func179 rfl ntmps179 (by simp) fun Q hQ=>?_
 refine J.cut (fun O H n=>(O 0 = .agg (bC false b)/\O 1=int parent)/\Sep H n [] []) (by refine⟨by simp ,M⟩) ?_;rintro O H U ⟨E,M⟩;refine zE fun _ V=>?_
 simp[E];apply V;refine J.cut (fun O H n=>((O 1=int parent/\O 2=pA U 2)/\H (U,2)=some ⟨6,[bC false b]⟩)/\Sep H n [] [(U,2)]) (by refine⟨by simp[E],M.var⟩) ?_;clear E;rintro O H n3 ⟨⟨E,a⟩,M⟩;refine zE fun _ V=>?_
 simp[E,a];apply V;refine J.cut (fun O H n=>∃ (v5:I),((O 1=int parent/\O 2=pA U 2/\O 5=v5)/\H (U,2)=some ⟨6,[bC false b]⟩)/\Sep H n [oI v5 ([]:List Int)] [(U,2)]) (by refine⟨.arr (n3,7) 0 0 0,by simp[E,a],(Sep.addEmpty (l:=[.c]) M)⟩) ?_;clear E a;rintro O H n6 ⟨v5,⟨E,a⟩,M⟩;refine zS fun _ V=>?_
 simp[E,a];apply V;apply J.block;refine J.aO h (fun (sJ:Int × (List Int)) O H n=>match sJ with | (i14,g)=>∃ (i:I),((O 1=int parent/\O 2=pA U 2/\O 5=i/\O 6=int i14)/\H (U,2)=some ⟨6,[bC false b]⟩)/\Sep H n [oI i g] [(U,2)]) (by refine⟨v5,by simp[E,a],M⟩) ?_;clear E a;rintro⟨i14,g⟩ O H n17 K h ⟨i,⟨E,a⟩,M⟩ p;refine zS fun _ V=>?_
 obtain⟨ab,t,h⟩:=aJ h;have f21:=fun H=>aQ (H:=H) (fr:=false) (f:=(ay.cells false)) cG t
 obtain⟨u,A,h⟩:=aJ h;have f23:=bc (k:=.i64) A;simp[E,a,f21,f23,-ax,-aL];apply V;refine J.ite (b:=u) (by simp[E,a]) (fun d=>?_) (fun d=>?_)
 ·replace h:=h.1 d;apply zK;apply J.block;refine zE fun _ V=>?_
  obtain⟨B,h⟩:=h;obtain⟨ac,C,h⟩:=aJ h;have f26:=fun H=>aU (H:=H) (fr:=false) (f:=(ay.cells false)) (k:=.i64) cG (fun _=>rfl) B C
  obtain⟨D,F,h⟩:=aJ h;have f28:=kp (k:=.i64) F;simp[E,a,f26,f28,d,-ar,-ax];apply V;refine J.ite (b:=D) (by simp[E,a,d]) (fun e=>?_) (fun e=>?_)
  ·replace h:=h.1 e;refine zF fun _ V=>?_
   obtain⟨G,h⟩:=h;obtain⟨o,L,h⟩:=aJ h;simp[E,a,d,e,-bj];refine cX [] [] [[int i14]] [au i14] M aP (by simp) (by simp) (by simp) (by simp[-aE,bf]) (cr (aT.v _ aT.nil)) (by simp) (by simpa using G) ?_;rintro v31 N n33 M R ad;replace M:Sep N n33 [oI v31 o] [(U,2)]:=Sep.ap L M;have a:=(R _ (by simp)).trans a;simp[E,a,d,e];apply V;refine J.cut (fun O H n=>∃ (v37:I),((O 1=int parent/\O 2=pA U 2/\O 5=v37/\O 6=int i14)/\H (U,2)=some ⟨6,[bC false b]⟩)/\Sep H n [oI v37 o] [(U,2)]) (by refine⟨v31,by simp[E,a,d,e],M⟩) ?_;clear E a;rintro O H n38 ⟨v37,⟨E,a⟩,M⟩;refine zI fun _ V=>?_
   obtain⟨T,h⟩:=h;obtain⟨v40,W,h⟩:=aJ h;have f41:=aR T W;simp[E,a,f41,-ax];apply V;refine p (v40,o) _ _ _ h (by refine⟨v37,by simp[E,a],M⟩)
  replace h:=h.2 e;apply J.skip;refine zI fun _ V=>?_
  obtain⟨X,h⟩:=h;obtain⟨q,Y,h⟩:=aJ h;have f44:=aR X Y;simp[E,a,f44,d,e,-ax];apply V;refine J.cut (fun O H n=>∃ (j:I),((O 1=int parent/\O 2=pA U 2/\O 5=j/\O 6=int q)/\H (U,2)=some ⟨6,[bC false b]⟩)/\Sep H n [oI j g] [(U,2)]) (by refine⟨i,by simp[E,a,f44,d,e,-ax],M⟩) ?_;clear E a;rintro O H af ⟨j,⟨E,a⟩,M⟩;refine p (q,g) _ _ _ h (by refine⟨j,by simp[E,a],M⟩)
 replace h:=h.2 d;refine J.exit rfl ?_;refine zE fun _ V=>?_
 simp[E,a,d];apply V;exact J.bG (v:=i) func179 results179 (by simp[E,a,d]) (hQ _ _ _ _ (Sep.sub (dQ:=[]) M (by simp)) ⟨g,h,rfl⟩)
theorem sW (b:aG) (parent:Int) (hp:fJ b parent):bL prog 179 [.agg (bC false b),int parent] (.s [.c]) (fun r=>r = .list true ((pQ b parent).map au)):=(vA b parent _ (AQ b parent hp)).mono (by rintro _ ⟨_,rfl,rfl⟩;rfl)
theorem e180:a8 prog 180:=a8.of func180 (by kernel_rfl) rfl
theorem tq (b:aG) (parent:Int) (Z:(List Int)->Prop) (h:jY b parent Z):bL prog 180 [.agg (bC false b),int parent] (.s [.c]) (fun r=>∃ y:List Int,Z y/\r = .list true (y.map au)):=by
 unfold jY at h;have M:Sep bu 0 [] []:=Sep.nil (by simp);refine bL.of func180 rfl ntmps180 (by simp) fun Q hQ=>?_
 refine J.cut (fun O H n=>(O 0 = .agg (bC false b)/\O 1=int parent)/\Sep H n [] []) (by refine⟨by simp ,M⟩) ?_;rintro O H U ⟨E,M⟩;refine zE fun _ V=>?_
 simp[E];apply V;refine J.cut (fun O H n=>((O 1=int parent/\O 2=pA U 2)/\H (U,2)=some ⟨6,[bC false b]⟩)/\Sep H n [] [(U,2)]) (by refine⟨by simp[E],M.var⟩) ?_;clear E;rintro O H n3 ⟨⟨E,a⟩,M⟩;refine zE fun _ V=>?_
 simp[E,a];apply V;refine J.cut (fun O H n=>∃ (v5:I),((O 1=int parent/\O 2=pA U 2/\O 5=v5)/\H (U,2)=some ⟨6,[bC false b]⟩)/\Sep H n [oI v5 ([]:List Int)] [(U,2)]) (by refine⟨.arr (n3,7) 0 0 0,by simp[E,a],(Sep.addEmpty (l:=[.c]) M)⟩) ?_;clear E a;rintro O H n6 ⟨v5,⟨E,a⟩,M⟩;refine zS fun _ V=>?_
 simp[E,a];apply V;apply J.block;refine J.aO h (fun (sJ:Int × (List Int)) O H n=>match sJ with | (i14,g)=>∃ (i:I),((O 1=int parent/\O 2=pA U 2/\O 5=i/\O 6=int i14)/\H (U,2)=some ⟨6,[bC false b]⟩)/\Sep H n [oI i g] [(U,2)]) (by refine⟨v5,by simp[E,a],M⟩) ?_;clear E a;rintro⟨i14,g⟩ O H n17 K h ⟨i,⟨E,a⟩,M⟩ p;refine zS fun _ V=>?_
 obtain⟨ab,t,h⟩:=aJ h;have f21:=fun H=>aQ (H:=H) (fr:=false) (f:=au) aP t
 obtain⟨u,A,h⟩:=aJ h;have f23:=bc (k:=.i64) A;simp[E,a,f21,f23,-ax,-aL];apply V;refine J.ite (b:=u) (by simp[E,a]) (fun d=>?_) (fun d=>?_)
 ·replace h:=h.1 d;apply zK;apply J.block;refine zE fun _ V=>?_
  obtain⟨B,h⟩:=h;obtain⟨ac,C,h⟩:=aJ h;have f26:=fun H=>aU (H:=H) (fr:=false) (f:=au) (k:=.i64) aP (fun _=>rfl) B C
  obtain⟨D,F,h⟩:=aJ h;have f28:=kp (k:=.i64) F;simp[E,a,f26,f28,d,-ar,-ax];apply V;refine J.ite (b:=D) (by simp[E,a,d]) (fun e=>?_) (fun e=>?_)
  ·replace h:=h.1 e;refine zF fun _ V=>?_
   obtain⟨G,h⟩:=h;obtain⟨o,L,h⟩:=aJ h;simp[E,a,d,e,-bj];refine cX [] [] [[int i14]] [au i14] M aP (by simp) (by simp) (by simp) (by simp[-aE,bf]) (cr (aT.v _ aT.nil)) (by simp) (by simpa using G) ?_;rintro v31 N n33 M R ad;replace M:Sep N n33 [oI v31 o] [(U,2)]:=Sep.ap L M;have a:=(R _ (by simp)).trans a;simp[E,a,d,e];apply V;refine J.cut (fun O H n=>∃ (v37:I),((O 1=int parent/\O 2=pA U 2/\O 5=v37/\O 6=int i14)/\H (U,2)=some ⟨6,[bC false b]⟩)/\Sep H n [oI v37 o] [(U,2)]) (by refine⟨v31,by simp[E,a,d,e],M⟩) ?_;clear E a;rintro O H n38 ⟨v37,⟨E,a⟩,M⟩;refine zI fun _ V=>?_
   obtain⟨T,h⟩:=h;obtain⟨v40,W,h⟩:=aJ h;have f41:=aR T W;simp[E,a,f41,-ax];apply V;refine p (v40,o) _ _ _ h (by refine⟨v37,by simp[E,a],M⟩)
  replace h:=h.2 e;apply J.skip;refine zI fun _ V=>?_
  obtain⟨X,h⟩:=h;obtain⟨q,Y,h⟩:=aJ h;have f44:=aR X Y;simp[E,a,f44,d,e,-ax];apply V;refine J.cut (fun O H n=>∃ (j:I),((O 1=int parent/\O 2=pA U 2/\O 5=j/\O 6=int q)/\H (U,2)=some ⟨6,[bC false b]⟩)/\Sep H n [oI j g] [(U,2)]) (by refine⟨i,by simp[E,a,f44,d,e,-ax],M⟩) ?_;clear E a;rintro O H af ⟨j,⟨E,a⟩,M⟩;refine p (q,g) _ _ _ h (by refine⟨j,by simp[E,a],M⟩)
 replace h:=h.2 d;refine J.exit rfl ?_;refine zE fun _ V=>?_
 simp[E,a,d];apply V;exact J.bG (v:=i) func180 results180 (by simp[E,a,d]) (hQ _ _ _ _ (Sep.sub (dQ:=[]) M (by simp)) ⟨g,h,rfl⟩)
theorem rk (b:aG) (parent:Int) (hp:fc b parent):bL prog 180 [.agg (bC false b),int parent] (.s [.c]) (fun r=>r = .list true ((mK b parent).map au)):=(tq b parent _ (xD b parent hp)).mono (by rintro _ ⟨_,rfl,rfl⟩;rfl)
end Go.Ab.Vg
namespace Go.Ab
def cC:Op->Nat
 | .move _ | .assign _ | .pick .. | .binOp .. | .unOp .. | .convert .. | .makeFunc .. | .extract .. | .field .. | .index .. | .build ..=>0
 | .load .. | .fieldAddr .. | .indexAddr .. | .nilCheck _ | .call ⟨.builtin .len,_,_⟩=>1
 | .alloc _=>3
 | .store ..=>4
 | _=>2
def nw (a b:Nat):Bool:=a == 0 || b == 0 || (a == 1 && (b == 1 || b == 3 || b == 4)) || (a == 3 && (b == 1 || b == 3 || b == 4)) || (a == 4 && (b == 1 || b == 3))
def Ai (n0:Nat):I->Prop
 | .ptr id _ _ _ | .arr id _ _ _=>id.1<n0
 | _=>True
def dZ (n0:Nat) (op:Op) (O:Env):Prop:=
 match op with
 | .load _ a | .fieldAddr _ a _ | .nilCheck a=>Ai n0 (O.ev a)
 | .indexAddr _ x _=>Ai n0 (O.ev x)
 | .call ⟨.builtin .len,args,_⟩=>∀ x ∈ args.toList,Ai n0 (O.ev x)
 | .store _ a _=>∃ id g idx off,O.ev a = .ptr id g idx off/\n0<=id.1
 | _=>cC op=0
theorem jS {n0:Nat} {H H2:av} (hag:∀ id:Id,id.1<n0->H2 id=H id) {p:I} (hp:Ai n0 p):cR H2 p=cR H p:=by
 cases p with
 | ptr id g idx off=>simp only[cR];rw[hag id hp]
 | _=>rfl
theorem ra {n0:Nat} {H H2:av} (hag:∀ id:Id,id.1<n0->H2 id=H id) {id:Id} {g:Nat} (hp:id.1<n0):live H2 id g=live H id g:=by
 unfold live;rw[hag id hp]
section
variable {Ty:Types} {O:Env} {H H2 H':av} {n n2 n' n0:Nat} {d:Option Tmp} {v:I} {op:Op}
theorem ir (hk:cC op=0) (h:a6 Ty d op O H n=some (v,H',n')):H'=H/\n'=n/\∀ H2 n2,a6 Ty d op O H2 n2=some (v,H2,n2):=by
 refine kJ ?_ h;cases op with
 | call c=>
  obtain⟨cal,args,ats⟩:=c;cases cal with
  | builtin b=>cases b<;>simp[cC] at hk
  | _=>simp[cC] at hk
 | _=>first | rfl | (simp[cC] at hk)
theorem eG (hk:cC op=1) (hc:dZ n0 op O) (hag:∀ id:Id,id.1<n0->H2 id=H id) (h:a6 Ty d op O H n=some (v,H',n')):H'=H/\n'=n/\a6 Ty d op O H2 n2=some (v,H2,n2):=by
 cases op with
 | load t a=>
  simp only[a6] at h ⊢;rw[jS hag hc]
  split at h
  ·split at h
   ·cases h;exact⟨rfl,rfl,rfl⟩
   ·cases h
  ·cases h
 | fieldAddr t a f=>
  simp only[a6] at h ⊢;rw[jS hag hc]
  split at h
  ·split at h
   ·split at h
    ·cases h
    ·rename_i hz
     cases h;exact⟨rfl,rfl,by rw[if_neg hz]⟩
   ·cases h
  ·cases h
 | nilCheck a=>
  simp only[a6] at h ⊢;rw[jS hag hc]
  split at h
  ·cases h;exact⟨rfl,rfl,rfl⟩
  ·cases h
 | indexAddr t x ix=>
  obtain⟨h1,h2,h3⟩:=b8 h;refine⟨h2,h3,?_⟩;have:ar Ty H2 t (O.ev x) (O.ev ix)=ar Ty H t (O.ev x) (O.ev ix):=by
   simp only[dZ] at hc;unfold ar
   split
   ·generalize O.ev x=p at hc;cases hkd:kd Ty t with
    | slice j=>cases p with
     | arr id g off len=>simp only[ra hag (show id.1<n0 from hc)]
     | _=>rfl
    | arr len j=>simp only[jS hag hc]
    | _=>rfl
   ·rfl
  simp only[a6,this,h1,Option.map_some]
 | call c=>
  obtain⟨cal,args,ats⟩:=c;cases cal with
  | builtin b=>
   cases b<;>simp[cC] at hk;simp only[a6] at h ⊢
   split at h
   ·rename_i x t hx ht
    obtain⟨h1,h2,h3⟩:=b8 h;refine⟨h2,h3,?_⟩;have hcx:Ai n0 (O.ev x):=hc x (by rw[hx];simp);have:aL Ty H2 t (O.ev x)=aL Ty H t (O.ev x):=by
     unfold aL;generalize O.ev x=p at hcx;cases hkd:kd Ty t with
     | slice j=>cases p with
      | arr id g off len=>simp only[ra hag (show id.1<n0 from hcx)]
      | v x=>cases x<;>rfl
      | _=>rfl
     | string=>cases p with
      | v x=>cases x<;>rfl
      | _=>rfl
     | _=>rfl
    simp only[this,h1,Option.map_some]
   ·cases h
  | _=>simp[cC] at hk
 | _=>simp[cC] at hk
def tgt:Op->Env->Option Id
 | .store _ a _,O=>match O.ev a with
  | .ptr id _ _ _=>some id
  | _=>none
 | _,_=>none
theorem iB (hk:cC op=4) (hc:dZ n0 op O) (h:a6 Ty d op O H n=some (v,H',n')) :
  ∃ id ob ob',tgt op O=some id/\n0<=id.1/\H id=some ob/\H'=H.set id ob'/\n'=n/\∀ H2 n2,H2 id=some ob->a6 Ty d op O H2 n2=some (v,H2.set id ob',n2):=by
 cases op with
 | store t a x=>
  obtain⟨id,g,idx,off,ha,hid⟩:=hc;simp only[a6] at h ⊢;rw[ha] at h ⊢
  split at h
  ·rename_i H1 hs
   cases h;unfold bM at hs
   split at hs
   ·rename_i i id1 g1 idx1 off1 new e1 e2 e3
    cases e2
    split at hs
    ·rename_i o hl
     split at hs
     ·rename_i hcond
      cases hs;obtain⟨l1,l2⟩:=cZ hl;refine⟨id,o,o.write idx off new,by simp only[tgt,ha],hid,l1,rfl,rfl,fun H2 n2 h2=>?_⟩;have hl2:live H2 id g=some o:=by
       unfold live;rw[h2];simp[l2]
      simp only[bM,e1,e3,hl2,if_pos hcond]
     ·cases hs
    ·cases hs
   ·cases hs
  ·cases h
 | call c=>
  obtain⟨cal,args,ats⟩:=c;cases cal with
  | builtin b=>cases b<;>simp[cC] at hk
  | _=>simp[cC] at hk
 | _=>simp[cC] at hk
end
theorem k8 {n0:Nat} {op:Op} {O:Env}:dZ n0 op (loc op O)↔dZ n0 op O:=by
 have h:∀ x,x ∈ op.operands->(loc op O).ev x=O.ev x:=fun x hx=>dK hx
 generalize loc op O=ρ' at h;cases op with
 | call c=>
  obtain⟨cal,args,ats⟩:=c;cases cal with
  | builtin b=>
   cases b<;>try rfl
   have ha:∀ x,x ∈ args.toList->ρ'.ev x=O.ev x:=fun x hx=>h x (by simp[Op.operands,Call.operands];simpa using hx)
   simp only[dZ];exact⟨fun hc x hx=>by rw[<- ha x hx];exact hc x hx,fun hc x hx=>by rw[ha x hx];exact hc x hx⟩
  | _=>rfl
 | load t a=>simp only[dZ];rw[h a (by simp[Op.operands])]
 | fieldAddr t a f=>simp only[dZ];rw[h a (by simp[Op.operands])]
 | nilCheck a=>simp only[dZ];rw[h a (by simp[Op.operands])]
 | indexAddr t x i=>simp only[dZ];rw[h x (by simp[Op.operands])]
 | store t a x=>simp only[dZ];rw[h a (by simp[Op.operands])]
 | _=>rfl
section
variable (Ty:Types) (ops:Array Oper) (n0:Nat)
def rH (o:Oper) (s:AS) (R:AS->Prop):Prop:=
 (fv ops o s.1=some false/\R (s.1.put o.dst l6,s.2)) \/
 (fv ops o s.1=some true/\cC o.op ≠ 3/\dZ n0 o.op s.1/\∃ v H',a6 Ty o.dst o.op s.1 s.2.1 s.2.2=some (v,H',s.2.2)/\R (s.1.put o.dst v,H',s.2.2)) \/
 (fv ops o s.1=some true/\∃ t k i,o.op = .alloc t/\o.dst=some k/\Ty t=some i/\∀ a,n0<=a->(∀ j,s.2.1 (a,j)=none)->R (s.1.put (some k) (.ptr (a,k) 1 0 0),s.2.1.set (a,k) ⟨i.zero.length,[i.zero.map .v]⟩,max s.2.2 (a+1)))
def Bd (s:AS):Prop:=n0<=s.2.2/\∀ id o,s.2.1 id=some o->id.1<s.2.2
end
theorem set_comm {H:av} {i j:Id} (o p:Ob) (h:i ≠ j):(H.set i o).set j p=(H.set j p).set i o:=by
 funext x
 simp only[av.set]
 by_cases h1:x=i<;>by_cases h2:x=j<;>simp_all
section
variable {Ty:Types} {ops:Array Oper} {n0:Nat}
theorem rH.mono {o:Oper} {s:AS} {R R':AS->Prop} (h:rH Ty ops n0 o s R) (hR:∀ s,R s->R' s):rH Ty ops n0 o s R':=by
 rcases h with ⟨h1,h2⟩ | ⟨h1,h2,h3,v,H',h4,h5⟩ | ⟨h1,t,k,i,h2,h3,h4,h5⟩
 ·exact .inl ⟨h1,hR _ h2⟩
 ·exact .inr (.inl ⟨h1,h2,h3,v,H',h4,hR _ h5⟩)
 ·exact .inr (.inr ⟨h1,t,k,i,h2,h3,h4,fun a ha hf=>hR _ (h5 a ha hf)⟩)
theorem fI {op:Op} {O:Env} (h3:cC op ≠ 3) (h:dZ n0 op O):cC op=0\/cC op=1\/cC op=4:=by
 cases op with
 | call c=>
  obtain⟨cal,args,ats⟩:=c;cases cal with
  | builtin b=>cases b<;>first | (simp[cC];done) | (simp[dZ,cC] at h)
  | _=>simp[dZ,cC] at h
 | buildSlice t len ps=>simp only[dZ] at h;exact .inl h
 | _=>first | (simp[cC];done) | (simp[dZ,cC] at h;done) | (simp[cC] at h3)
theorem wA {s:AS} (hb:Bd n0 s) (j:Nat):s.2.1 (s.2.2,j)=none:=by
 cases h:s.2.1 (s.2.2,j) with
 | none=>rfl
 | some o=>have:=hb.2 _ o h;simp at this
theorem rH.bd {o:Oper} {s:AS} {R:AS->Prop} (hb:Bd n0 s) (h:rH Ty ops n0 o s R):rH Ty ops n0 o s fun s'=>Bd n0 s'/\R s':=by
 rcases h with ⟨h1,h2⟩ | ⟨h1,h2,h3,v,H',h4,h5⟩ | ⟨h1,t,k,i,h2,h3,h4,h5⟩
 ·exact .inl ⟨h1,hb,h2⟩
 ·refine .inr (.inl ⟨h1,h2,h3,v,H',h4,⟨hb.1,?_⟩,h5⟩);rcases fI h2 h3 with hk | hk | hk
  ·obtain⟨rfl,_⟩:=ir hk h4;exact hb.2
  ·obtain⟨rfl,_⟩:=eG (H2:=s.2.1) (n2:=s.2.2) hk h3 (fun _ _=>rfl) h4;exact hb.2
  ·obtain⟨id,ob,ob',_,_,e2,rfl,_⟩:=iB hk h3 h4;intro id' o' ho';simp only at ho' ⊢
   by_cases he:id'=id
   ·rw[he];exact hb.2 _ _ e2
   ·rw[av.aD _ _ he] at ho';exact hb.2 _ _ ho'
 ·refine .inr (.inr ⟨h1,t,k,i,h2,h3,h4,fun a ha hf=>⟨⟨?_,?_⟩,h5 a ha hf⟩⟩)
  ·have:=hb.1;simp only;omega
  ·intro id' o' ho';simp only at ho' ⊢
   by_cases he:id'=(a,k)
   ·rw[he];simp only;omega
   ·rw[av.aD _ _ he] at ho';have:=hb.2 _ _ ho';omega
theorem rH.swap {oi oj:Oper} (hap:oi.apart ops oj=true) (hc:nw (cC oi.op) (cC oj.op)=true) {s:AS} (hb:Bd n0 s) {R:AS->Prop} (h:rH Ty ops n0 oi s fun si=>rH Ty ops n0 oj si R) :
  rH Ty ops n0 oj s fun sj=>rH Ty ops n0 oi sj R:=by
 obtain⟨h1,h2,h3⟩:=Oper.apart_spec hap;have sj:∀ v H n,a6 Ty oj.dst oj.op (s.1.put oi.dst v) H n=a6 Ty oj.dst oj.op s.1 H n:=fun v H n=>by rw[<- aA,fO (dv h1),aA]
 have si:∀ v H n,a6 Ty oi.dst oi.op (s.1.put oj.dst v) H n=a6 Ty oi.dst oi.op s.1 H n:=fun v H n=>by rw[<- aA,fO (dv h3),aA]
 have cj:∀ v,dZ n0 oj.op (s.1.put oi.dst v)↔dZ n0 oj.op s.1:=fun v=>by rw[<- k8,fO (dv h1),k8]
 have ci:∀ v,dZ n0 oi.op (s.1.put oj.dst v)↔dZ n0 oi.op s.1:=fun v=>by rw[<- k8,fO (dv h3),k8]
 have gj:∀ v,fv ops oj (s.1.put oi.dst v)=fv ops oj s.1:=fun v=>iH h1
 have gi:∀ v,fv ops oi (s.1.put oj.dst v)=fv ops oi s.1:=fun v=>iH h3
 have pc:∀ v u,(s.1.put oi.dst v).put oj.dst u=(s.1.put oj.dst u).put oi.dst v:=fun v u=>put_comm v u h2
 obtain⟨O,H,n⟩:=s;simp only at sj si cj ci gj gi pc;rcases h with ⟨hgi,h⟩ | ⟨hgi,hki,hci,v,Hi,hsi,h⟩ | ⟨hgi,t,k,i,hop,hd,hT,h⟩
 ·
  rcases h with ⟨hgj,h⟩ | ⟨hgj,hkj,hcj,u,Hj,hsj,h⟩ | ⟨hgj,t',k',i',hop',hd',hT',h⟩
  ·simp only[gj] at hgj;exact .inl ⟨hgj,.inl ⟨by simpa only [gi] using hgi,by simpa only [pc] using h⟩⟩
  ·simp only[gj,cj,sj] at hgj hcj hsj;exact .inr (.inl ⟨hgj,hkj,hcj,u,Hj,hsj,.inl ⟨by simpa only [gi] using hgi,by simpa only [pc] using h⟩⟩)
  ·simp only[gj] at hgj;rw[hd'] at pc gi;exact .inr (.inr ⟨hgj,t',k',i',hop',hd',hT',fun a ha hf=>.inl ⟨by simpa only [gi] using hgi,by simpa only [pc] using h a ha hf⟩⟩)
 ·
  rcases h with ⟨hgj,h⟩ | ⟨hgj,hkj,hcj,u,Hj,hsj,h⟩ | ⟨hgj,t',k',i',hop',hd',hT',h⟩
  ·simp only[gj] at hgj;exact .inl ⟨hgj,.inr (.inl ⟨by simpa only [gi] using hgi,hki,by simpa only [ci] using hci,v,Hi,by simpa only [si] using hsi,by simpa only [pc] using h⟩)⟩
  ·simp only[gj,cj,sj] at hgj hcj hsj;simp only at hsi hci hgi h;have key:∃ Hj',a6 Ty oj.dst oj.op O H n=some (u,Hj',n)/\a6 Ty oi.dst oi.op O Hj' n=some (v,Hj,n):=by
    rcases fI hki hci with ki | ki | ki
    ·obtain⟨rfl,_,hall⟩:=ir ki hsi;exact⟨Hj,hsj,hall Hj n⟩
    ·obtain⟨rfl,_,_⟩:=eG (H2:=H) (n2:=n) ki hci (fun _ _=>rfl) hsi;rcases fI hkj hcj with kj | kj | kj
     ·obtain⟨rfl,_,hall⟩:=ir kj hsj;exact⟨_,hsj,hsi⟩
     ·obtain⟨rfl,_,_⟩:=eG (H2:=Hi) (n2:=n) kj hcj (fun _ _=>rfl) hsj;exact⟨_,hsj,hsi⟩
     ·obtain⟨id,ob,ob',_,e1,e2,rfl,_,_⟩:=iB kj hcj hsj;refine⟨_,hsj,?_⟩;exact (eG ki hci (fun id' hid=>av.aD _ _ (by rintro rfl;omega)) hsi).2.2
    ·obtain⟨id,ob,ob',_,e1,e2,rfl,_,hall⟩:=iB ki hci hsi;rcases fI hkj hcj with kj | kj | kj
     ·obtain⟨rfl,_,hall'⟩:=ir kj hsj;exact⟨H,hall' H n,hsi⟩
     ·obtain⟨rfl,_,hst⟩:=eG (H2:=H) (n2:=n) kj hcj (fun id' hid=>(av.aD _ _ (by rintro rfl;omega)).symm) hsj;exact⟨H,hst,hsi⟩
     ·rw[ki,kj] at hc;simp[nw] at hc
   obtain⟨Hj',k1,k2⟩:=key;exact .inr (.inl ⟨hgj,hkj,hcj,u,Hj',k1,.inr (.inl ⟨by simpa only [gi] using hgi,hki,by simpa only [ci] using hci,v,Hj,by simpa only [si] using k2,by simpa only [pc] using h⟩)⟩)
  ·
   simp only[gj] at hgj;rw[hd'] at pc gi si ci;refine .inr (.inr ⟨hgj,t',k',i',hop',hd',hT',fun a ha hf=>?_⟩);simp only at hsi hci hgi h hf;rcases fI hki hci with ki | ki | ki
   ·obtain⟨rfl,_,hall⟩:=ir ki hsi;exact .inr (.inl ⟨by simpa only [gi] using hgi,hki,by simpa only [ci] using hci,v,_,by simpa only [si] using hall _ _,by simpa only [pc] using h a ha hf⟩)
   ·obtain⟨rfl,_,_⟩:=eG (H2:=H) (n2:=n) ki hci (fun _ _=>rfl) hsi;have hst:=(eG (n2:=max n (a+1)) ki hci (fun id' hid=>av.aD Hi ⟨i'.zero.length,[i'.zero.map .v]⟩ (i:=(a,k')) (by rintro rfl;simp only at hid;omega)) hsi).2.2;exact .inr (.inl ⟨by simpa only [gi] using hgi,hki,by simpa only [ci] using hci,v,_,by simpa only [si] using hst,by simpa only [pc] using h a ha hf⟩)
   ·obtain⟨id,ob,ob',_,e1,e2,rfl,_,hall⟩:=iB ki hci hsi;have hne:id ≠ (a,k'):=by rintro rfl;rw[hf k'] at e2;cases e2
    have hf':∀ j,(H.set id ob') (a,j)=none:=fun j=>by
     rw[av.aD _ _ (by rintro rfl;rw[hf j] at e2;cases e2)];exact hf j
    have hst:=hall (H.set (a,k') ⟨i'.zero.length,[i'.zero.map .v]⟩) (max n (a+1)) (by rw[av.aD _ _ hne];exact e2);have hfin:=h a ha hf';rw[set_comm _ _ hne] at hfin;exact .inr (.inl ⟨by simpa only [gi] using hgi,hki,by simpa only [ci] using hci,v,_,by simpa only [si] using hst,by simpa only [pc] using hfin⟩)
 ·
  simp only at hgi h;rw[hd] at pc gj sj cj;have hf0:∀ j,H (n,j)=none:=fun j=>wA hb j
  have hn0:n0<=n:=hb.1;have hi3:cC oi.op=3:=by rw[hop];rfl
  rcases h n hn0 hf0 with ⟨hgj,_⟩ | ⟨hgj,hkj,hcj,u,Hj,hsj,_⟩ | ⟨hgj,t',k',i',hop',hd',hT',_⟩
  ·simp only[gj] at hgj;refine .inl ⟨hgj,.inr (.inr ⟨by simpa only [gi] using hgi,t,k,i,hop,hd,hT,fun a ha hf=>?_⟩)⟩;rcases h a ha hf with ⟨_,h⟩ | ⟨hg,_⟩ | ⟨hg,_⟩
   ·simpa only [pc] using h
   ·simp only[gj,hgj] at hg;cases hg
   ·simp only[gj,hgj] at hg;cases hg
  ·simp only[gj,cj,sj] at hgj hcj hsj;have back:∀ a,n0<=a->(∀ j,H (a,j)=none)->∃ ua Ha,a6 Ty oj.dst oj.op O (H.set (a,k) ⟨i.zero.length,[i.zero.map .v]⟩) (max n (a+1))=some (ua,Ha,max n (a+1))/\R ((O.put (some k) (.ptr (a,k) 1 0 0)).put oj.dst ua,Ha,max n (a+1)):=by
    intro a ha hf;rcases h a ha hf with ⟨hg,_⟩ | ⟨_,_,_,ua,Ha,hs,hR⟩ | ⟨_,t',_,_,hop',_⟩
    ·simp only[gj,hgj] at hg;cases hg
    ·simp only[sj] at hs;exact⟨ua,Ha,hs,hR⟩
    ·exact absurd (by rw[hop'];rfl) hkj
   have hout:∀ (a:Nat) (id':Id),n0<=a->id'.1<n0->(H.set (a,k) ⟨i.zero.length,[i.zero.map .v]⟩) id'=H id':=fun a id' ha hid=>av.aD _ _ (by rintro rfl;simp only at hid;omega)
   rcases fI hkj hcj with kj | kj | kj
   ·obtain⟨rfl,_,hall⟩:=ir kj hsj;refine .inr (.inl ⟨hgj,hkj,hcj,u,H,hall H n,.inr (.inr ⟨by simpa only [gi] using hgi,t,k,i,hop,hd,hT,fun a ha hf=>?_⟩)⟩);obtain⟨ua,Ha,hs,hR⟩:=back a ha hf;rw[hall] at hs;cases hs;simpa only [pc] using hR
   ·have hst:=(eG (H2:=H) (n2:=n) kj hcj (fun id' hid=>(hout n id' hn0 hid).symm) hsj).2.2;refine .inr (.inl ⟨hgj,hkj,hcj,u,H,hst,.inr (.inr ⟨by simpa only [gi] using hgi,t,k,i,hop,hd,hT,fun a ha hf=>?_⟩)⟩);obtain⟨ua,Ha,hs,hR⟩:=back a ha hf;have hst2:=(eG (H2:=H.set (a,k) ⟨i.zero.length,[i.zero.map .v]⟩) (n2:=max n (a+1)) kj hcj (fun id' hid=>hout a id' ha hid) hst).2.2;rw[hst2] at hs;cases hs;simpa only [pc] using hR
   ·obtain⟨id,o1,o1',t1,_,e2,rfl,_,hall⟩:=iB kj hcj hsj;obtain⟨u2,H2,hs2,_⟩:=back (n+1) (by omega) (fun j=>by
     cases hx:H (n+1,j) with
     | none=>rfl
     | some o=>have:=hb.2 (n+1,j) o hx;simp only at this;omega)
    obtain⟨id2,o2,o2',t2,_,e2',_⟩:=iB kj hcj hs2;rw[t1] at t2;cases t2;have hne:id ≠ (n,k):=by
     rintro rfl;rw[av.aD _ _ (by intro he;have:=congrArg Prod.fst he;simp only at this;omega),hf0 k] at e2';cases e2'
    rw[av.aD _ _ hne] at e2;refine .inr (.inl ⟨hgj,hkj,hcj,u,H.set id o1',hall H n e2,.inr (.inr ⟨by simpa only [gi] using hgi,t,k,i,hop,hd,hT,fun a ha hf=>?_⟩)⟩);simp only at hf ⊢;have hf':∀ j,H (a,j)=none:=fun j=>by
     have:=hf j
     by_cases he:(a,j)=id
     ·rw[he,av.bb] at this;cases this
     ·rwa [av.aD _ _ he] at this
    have hne':id ≠ (a,k):=by
     rintro rfl;rw[hf' k] at e2;cases e2
    obtain⟨ua,Ha,hs,hR⟩:=back a ha hf';rw[hall _ _ (by rw[av.aD _ _ hne'];exact e2)] at hs;cases hs;rw[set_comm _ _ hne',<- pc];exact hR
  ·simp only[gj] at hgj;rw[hd'] at pc gi;refine .inr (.inr ⟨hgj,t',k',i',hop',hd',hT',fun b hb' hfb=>.inr (.inr ⟨by simpa only [gi] using hgi,t,k,i,hop,hd,hT,fun a ha hfa=>?_⟩)⟩);simp only at hfa ⊢;have hab:a ≠ b:=by
    rintro rfl;have:=hfa k';rw[av.bb] at this;cases this
   have hfa':∀ j,H (a,j)=none:=fun j=>by
    have:=hfa j
    rwa [av.aD _ _ (by intro he;exact hab (congrArg Prod.fst he))] at this
   rcases h a ha hfa' with ⟨hg,_⟩ | ⟨_,hk3,_⟩ | ⟨_,t2,k2,i2,hop2,hd2,hT2,h2'⟩
   ·simp only[gj,hgj] at hg;cases hg
   ·exact absurd (by rw[hop'];rfl) hk3
   ·rw[hop'] at hop2;cases hop2;rw[hd'] at hd2;cases hd2;rw[hT'] at hT2;cases hT2;have hfin:=h2' b hb' (fun j=>by simp only;rw[av.aD _ _ (by intro he;exact hab (congrArg Prod.fst he).symm)];exact hfb j);simp only at hfin;rw[set_comm _ _ (by intro he;exact hab (congrArg Prod.fst he)),pc] at hfin;have hm:max (max n (b+1)) (a+1)=max (max n (a+1)) (b+1):=by omega
    rw[hm];exact hfin
theorem rH.some_ {o:Oper} {s:AS} {q:Prop} (hb:Bd n0 s) (h:rH Ty ops n0 o s fun _=>q):q:=by
 rcases h with ⟨_,h⟩ | ⟨_,_,_,_,_,_,h⟩ | ⟨_,_,_,_,_,_,_,h⟩
 ·exact h
 ·exact h
 ·exact h s.2.2 hb.1 (fun j=>wA hb j)
variable (Ty ops n0) in
def lG (R:AS->Prop):Nat->Array Bool->AS->Prop
 | 0,listed,s=>Region.ready .any ops listed=[]/\R s
 | fuel+1,listed,s=>(Region.ready .any ops listed=[]->R s)/\∀ i ∈ Region.ready .any ops listed,∃ o,ops[i]?=some o/\rH Ty ops n0 o s (lG R fuel (listed.setIfInBounds i true))
variable (Ty ops n0) in
def ER (R:AS->Prop):List Oper->AS->Prop
 | [],s=>R s
 | o::l,s=>rH Ty ops n0 o s (ER R l)
theorem lG.first {R:AS->Prop} {i:Nat} {oi:Oper} (hi:ops[i]?=some oi) (al:List Nat) (hD:∀ j oj,ops[j]?=some oj->j ∈ al->j ≠ i->∃ e ∈ oj.after,Region.binds .any e=true/\e.on ∈ al):∀ (fuel:Nat) (listed:Array Bool) (s:AS),Bd n0 s ->
  (∀ j ∈ al,listed.getD j true=false)->(∀ j oj,ops[j]?=some oj->j ≠ i->listed.getD j true=false->j ∉ al->oi.apart ops oj=true/\nw (cC oi.op) (cC oj.op)=true) ->
  i ∈ Region.ready .any ops listed->rH Ty ops n0 oi s (lG Ty ops n0 R fuel (listed.setIfInBounds i true))->lG Ty ops n0 R (fuel+1) listed s:=by
 intro fuel
 induction fuel with
 | zero=>
  intro listed s hb _ _ hr H;refine⟨fun h=>(by rw[h] at hr;cases hr),fun j hj=>?_⟩
  by_cases hji:j=i
  ·subst hji;exact⟨oi,hi,H⟩
  ·have:=ready_mono hj hji;have h0:Region.ready .any ops (listed.setIfInBounds i true)=[]:=rH.some_ hb (H.mono fun s' h=>h.1);rw[h0] at this;cases this
 | succ fuel ih=>
  intro listed s hb hinv hfree hr H;refine⟨fun h=>(by rw[h] at hr;cases hr),fun j hj=>?_⟩
  by_cases hji:j=i
  ·subst hji;exact⟨oi,hi,H⟩
  ·obtain⟨hjun,oj,hoj,hall⟩:=mem_ready.1 hj;have hnot:j ∉ al:=fun hd=>by
    obtain⟨e,he,hb',hed⟩:=hD j oj hoj hd hji;have h1:=hall e he hb';have h0:=hinv e.on hed;rcases Nat.lt_or_ge e.on listed.size with h' | h'
    ·simp[h'] at h0 h1;rw[h0] at h1;cases h1
    ·simp[Array.getElem?_eq_none h'] at h1
   obtain⟨hap,hco⟩:=hfree j oj hoj hji hjun hnot;have H2:rH Ty ops n0 oi s fun s'=>rH Ty ops n0 oj s' (lG Ty ops n0 R fuel ((listed.setIfInBounds i true).setIfInBounds j true)):=H.mono fun s' h=>by
    obtain⟨oj',hoj',h'⟩:=h.2 j (ready_mono hj hji);rw[hoj] at hoj';cases hoj';exact h'
   refine⟨oj,hoj,(rH.bd hb (rH.swap hap hco hb H2)).mono fun sj ⟨hbj,hsj⟩=>ih (listed.setIfInBounds j true) sj hbj (fun k hk=>?_) (fun k ok hk hki hun hno=>?_) (ready_mono hr (Ne.symm hji)) ?_⟩
   ·have hjk:j ≠ k:=fun he=>hnot (he ▸ hk)
    rw[getD_set_ne true hjk];exact hinv k hk
   ·refine hfree k ok hk hki ?_ hno
    by_cases hjk:j=k
    ·subst hjk;exact hjun
    ·rw[getD_set_ne true hjk] at hun;exact hun
   ·rw[Array.setIfInBounds_comm _ _ hji];exact hsj
variable (ops) in
def zq (listed:Array Bool) (i:Nat):Bool:=
 match ops[i]? with
 | none=>false
 | some oi=>((behind ops i).all fun j => !(listed.getD j true) && match ops[j]? with
   | none=>true
   | some oj=>j == i || oj.after.any (fun e=>Region.binds .any e && (behind ops i).contains e.on)) &&
  (List.range ops.size).all fun j=>match ops[j]? with
  | none=>true
  | some oj=>j == i || listed.getD j true || (behind ops i).contains j || (oi.apart ops oj && nw (cC oi.op) (cC oj.op))
variable (ops) in
def DA:Nat->Nat->Array Bool->Bool
 | 0,_,listed=>(Region.ready .any ops listed).isEmpty
 | fuel+1,k,listed=>(Region.ready .any ops listed).contains k && zq ops listed k && DA fuel (k+1) (listed.setIfInBounds k true)
variable (ops) in
def vK:Bool:=DA ops ops.size 0 (Array.replicate ops.size false)
theorem wY {listed:Array Bool} {i:Nat} {oi:Oper} (hi:ops[i]?=some oi) (h:zq ops listed i=true) :
  (∀ j oj,ops[j]?=some oj->j ∈ behind ops i->j ≠ i->∃ e ∈ oj.after,Region.binds .any e=true/\e.on ∈ behind ops i)/\(∀ j ∈ behind ops i,listed.getD j true=false) /\
  ∀ j oj,ops[j]?=some oj->j ≠ i->listed.getD j true=false->j ∉ behind ops i->oi.apart ops oj=true/\nw (cC oi.op) (cC oj.op)=true:=by
 unfold zq at h;simp only[hi,Bool.and_eq_true] at h;obtain⟨h1,h2⟩:=h;refine⟨fun j oj hj hd hji=>?_,fun j hd=>?_,fun j oj hj hji hun hno=>?_⟩
 ·have:=List.all_eq_true.1 h1 j hd;simp only[hj,Bool.and_eq_true,Bool.or_eq_true,beq_iff_eq] at this;rcases this.2 with h3 | h3
  ·exact absurd h3 hji
  ·obtain⟨e,he,hb⟩:=Array.any_eq_true'.1 h3;simp only[Bool.and_eq_true,List.contains_iff_mem] at hb;exact⟨e,he,hb.1,hb.2⟩
 ·have:=List.all_eq_true.1 h1 j hd;simp only[Bool.and_eq_true,Bool.not_eq_true'] at this;exact this.1
 ·have hlt:j<ops.size:=(Array.getElem?_eq_some_iff.1 hj).1;have:=List.all_eq_true.1 h2 j (List.mem_range.2 hlt);simp only[hj,hun,Bool.or_false,Bool.or_eq_true,beq_iff_eq,Bool.and_eq_true,List.contains_iff_mem] at this;rcases this with (h1 | h1) | h1
  ·exact absurd h1 hji
  ·exact absurd h1 hno
  ·exact h1
theorem lG.lex {R:AS->Prop}:∀ (l:List Oper) (k:Nat) (listed:Array Bool) (s:AS),Bd n0 s->(∀ j:Nat,l[j]?=ops[k+j]?)->DA ops l.length k listed=true->ER Ty ops n0 R l s->lG Ty ops n0 R l.length listed s
 | [],_,_,_,_,_,hB,h=>⟨by simpa[DA] using hB,h⟩
 | o::l,k,listed,s,hb,hl,hB,h=>by
  have h0:ops[k]?=some o:=by simpa using (hl 0).symm
  simp only[List.length_cons,DA,Bool.and_eq_true] at hB;obtain⟨⟨hr,hf⟩,hB'⟩:=hB;obtain⟨f1,f2,f3⟩:=wY h0 hf;exact lG.first h0 (behind ops k) f1 l.length listed s hb f2 f3 (by simpa using hr)
   ((rH.bd hb h).mono fun s' ⟨hb',h'⟩=>lG.lex l (k+1) _ s' hb' (fun j=>by have:=hl (j+1);simpa[Nat.add_assoc,Nat.add_comm 1 j] using this) hB' h')
end
section
variable {P:Program} {N:Nat} {Ty:Types} {ops:Array Oper} {n0:Nat}
theorem lG.sound (hT:aV P Ty) {R:AS->Prop} (hN:ops.toList.all (fun o=>dL N o.dst)=true) {Q:Exit->Act->World->Prop} {c0:Ctx} (hQ:∀ a c O,bp c0 c->Good c->cT N c O a->R (O,c.H,c.n)->Q .normal a c.w) :
  ∀ (fuel:Nat) (listed:Array Bool) (O:Env) (c:Ctx) (a:Act),n0<=c.n->bp c0 c->Good c->cT N c O a->lG Ty ops n0 R fuel listed (O,c.H,c.n)->wpAny P .any ops Q fuel listed a c.w
 | 0,_,_,_,_,_,hk,g,r,h=>⟨h.1,hQ _ _ _ hk g r h.2⟩
 | fuel+1,listed,O,c,a,hn0,hk,g,r,h=>by
  refine⟨fun h0=>hQ _ _ _ hk g r (h.1 h0),fun i hi=>?_⟩;obtain⟨o,ho,hst⟩:=h.2 i hi;have hd:dL N o.dst=true:=List.all_eq_true.1 hN o (by rw[<- Array.getElem?_toList] at ho;exact List.mem_of_getElem? ho);unfold wpOp;simp only[ho];rcases hst with ⟨hg,hrest⟩ | ⟨hg,hk3,hc,v,H',hs,hrest⟩ | ⟨hg,t,k,i',hop,hdst,hTy,hrest⟩
  ·rw[if_neg (by rw[cn r hN hg];simp)];exact lG.sound hT hN hQ fuel _ _ c _ hn0 hk g (r.put hd (.v _)) hrest
  ·rw[if_pos (cn r hN hg)];simp only at hs hrest;refine .inl (aC hT hs c a rfl rfl g r _ _ ?_);rintro v1 x c' ⟨rfl,hH,hn⟩ hrep hgood hkeep;exact lG.sound hT hN hQ fuel _ _ c' _ (by rw[hn];exact hn0) (hk.trans hkeep) hgood ((r.keeps hkeep).put hd hrep) (by rw[hH,hn];exact hrest)
  ·rw[if_pos (cn r hN hg)];have hs:a6 Ty o.dst o.op O c.H c.n=some (.ptr (c.n,k) 1 0 0,c.H.set (c.n,k) ⟨i'.zero.length,[i'.zero.map .v]⟩,c.n+1):=by rw[hop,hdst];simp only[a6,hTy]
   refine .inl (aC hT hs c a rfl rfl g r _ _ ?_);rintro v1 x c' ⟨rfl,hH,hn⟩ hrep hgood hkeep;have hr:=hrest c.n hn0 (fun j=>by
    show c.H (c.n,j)=none;cases hx:c.H (c.n,j) with
    | none=>rfl
    | some ob=>have:=g.stamp _ _ hx;simp only at this;omega)
   have hm:max c.n (c.n+1)=c.n+1:=by omega
   simp only[hm] at hr;rw[<- hdst] at hr;exact lG.sound hT hN hQ fuel _ _ c' _ (by rw[hn];omega) (hk.trans hkeep) hgood ((r.keeps hkeep).put hd hrep) (by rw[hH,hn];exact hr)
end
section
variable {P:Program} {f:FuncId} {N:Nat} {k:List Item} {O:Env} {H:av} {n:Nat} {Q:I->av->Nat->Prop} {Ty:Types}
theorem J.vK (hT:aV P Ty) {id:Nat} {ops:List Oper} (hm:P.follows .mixedOrders=true) (hN:ops.all (fun o=>dL N o.dst)=true) (hB:vK ops.toArray=true)
  (h:ER Ty ops.toArray n (fun s=>J P f N k s.1 s.2.1 s.2.2 Q) ops (O,H,n)):J P f N (.code (.region id ops.toArray true)::k) O H n Q:=by
 intro c a hH hn g r b cs hf hk;subst hH;subst hn;obtain⟨d1,d2⟩:=il g;have hany:=lG.lex (Ty:=Ty) (ops:=ops.toArray) (n0:=c.n) ops 0 (Array.replicate ops.toArray.size false) (O,c.H,c.n) ⟨Nat.le_refl _,fun id o ho=>g.stamp id o ho⟩ (by simp) (by simpa[Ab.vK] using hB) h;have hw:(Code.region id ops.toArray true).wp P (fun e a' w'=>e = .normal/\∃ c' ρ',c'.w=w'/\bp c c'/\Good c'/\cT N c' ρ' a'/\J P f N k ρ' c'.H c'.n Q) a c.w:=by
  refine wp_region_any hm ?_;have:=lG.sound (P:=P) (N:=N) (Ty:=Ty) (ops:=ops.toArray) (n0:=c.n) (c0:=c) hT (by simpa using hN) (Q:=fun e a' w'=>e = .normal/\∃ c' ρ',c'.w=w'/\bp c c'/\Good c'/\cT N c' ρ' a'/\J P f N k ρ' c'.H c'.n Q)
   (R:=fun s=>J P f N k s.1 s.2.1 s.2.2 Q) (fun a' c' ρ' V hg' hr' hR=>⟨rfl,c',ρ',rfl,V,hg',hr',hR⟩) ops.length (Array.replicate ops.toArray.size false) O { c with w:={ c.w with drawn:=c.w.drawn+1 } } a (Nat.le_refl _) d1 d2 (r.keeps d1) hany
  simpa using this
 obtain⟨e,a',w',⟨rfl,c',ρ',rfl,V,hg',hr',hR⟩,harr⟩:=hw b k cs;obtain⟨x,v,c'',fr,q,hr,hg,hke,hst,rest⟩:=hR c' a' rfl rfl hg' hr' b cs hf hk;exact⟨x,v,c'',fr,q,hr,hg,V.trans hke,Steps.trans harr hst,rest⟩
end
def AR (Ty:Types) (d:Option Nat):Op->Option (Nat × Ob)
 | .alloc t=>match d,Ty t with
  | some k,some i=>some (k,⟨i.zero.length,[i.zero.map .v]⟩)
  | _,_=>none
 | _=>none
section
variable (P:Program) (f:FuncId) (N:Nat) (k:List Item) (Q:I->av->Nat->Prop) (Ty:Types) (ops:Array Oper) (n0:Nat)
def jl:List Oper->Env->av->Nat->Prop
 | [],O,H,n=>J P f N k O H n Q
 | o::l,O,H,n=>
  match fv ops o O with
  | some false=>jl l (O.put o.dst l6) H n
  | some true=>match AR Ty o.dst o.op with
   | some (j,ob)=>∀ a,n0<=a->(∀ q,H (a,q)=none)->jl l (O.put (some j) (.ptr (a,j) 1 0 0)) (H.set (a,j) ob) (max n (a+1))
   | none=>match a6 Ty o.dst o.op O H n with
    | some (v,H',_)=>dZ n0 o.op O/\jl l (O.put o.dst v) H' n
    | none=>False
  | none=>False
end
section
variable {P:Program} {f:FuncId} {N:Nat} {k:List Item} {O:Env} {H:av} {n:Nat} {Q:I->av->Nat->Prop} {Ty:Types} {ops:Array Oper} {n0:Nat}
theorem Aj {d:Option Nat} {op:Op} {v:I} {H':av} {n':Nat} (h:AR Ty d op=none) (hs:a6 Ty d op O H n=some (v,H',n')):cC op ≠ 3:=by
 cases op with
 | alloc t=>
  simp only[a6] at hs
  split at hs
  ·rename_i k' i hi
   simp only[AR,hi] at h;cases h
  ·cases hs
 | call c=>
  obtain⟨cal,args,ats⟩:=c;cases cal with
  | builtin b=>cases b<;>simp[cC]
  | _=>simp[cC]
 | buildSlice t len ps=>
  unfold cC;simp only
  by_cases h0:len=0<;>simp[h0]
 | _=>simp[cC]
theorem iJ:∀ (l:List Oper) (O:Env) (H:av) (n:Nat),jl P f N k Q Ty ops n0 l O H n->ER Ty ops n0 (fun s=>J P f N k s.1 s.2.1 s.2.2 Q) l (O,H,n)
 | [],_,_,_,h=>h
 | o::l,O,H,n,h=>by
  rw[jl] at h
  split at h
  ·rename_i hg
   exact .inl ⟨hg,iJ l _ _ _ h⟩
  ·rename_i hg
   split at h
   ·rename_i j ob hnew
    unfold AR at hnew
    split at hnew
    ·rename_i t hop
     split at hnew
     ·rename_i k' i hdst hTy
      cases hnew;exact .inr (.inr ⟨hg,t,_,_,hop,hdst,hTy,fun a ha hf=>iJ l _ _ _ (h a ha hf)⟩)
     ·cases hnew
    ·cases hnew
   ·rename_i hnew
    split at h
    ·rename_i v H' n' hs
     have hk3:=Aj hnew hs;obtain⟨hc,h⟩:=h;have hn:n'=n:=by
      rcases fI hk3 hc with hk | hk | hk
      ·exact (ir hk hs).2.1
      ·exact (eG (H2:=H) (n2:=n) hk hc (fun _ _=>rfl) hs).2.1
      ·obtain⟨_,_,_,_,_,_,_,e,_⟩:=iB hk hc hs;exact e
     subst hn;exact .inr (.inl ⟨hg,hk3,hc,v,H',hs,iJ l _ _ _ h⟩)
    ·exact h.elim
  ·exact h.elim
@[simp] theorem evalN_nil : jl P f N k Q Ty ops n0 [] O H n = J P f N k O H n Q := by rw [jl]
@[simp] theorem evalN_cons {o : Oper} {l : List Oper} : jl P f N k Q Ty ops n0 (o :: l) O H n = (match fv ops o O with
  | some false=>jl P f N k Q Ty ops n0 l (O.put o.dst l6) H n
  | some true=>match AR Ty o.dst o.op with
   | some (j,ob)=>∀ a,n0<=a->(∀ q,H (a,q)=none)->jl P f N k Q Ty ops n0 l (O.put (some j) (.ptr (a,j) 1 0 0)) (H.set (a,j) ob) (max n (a+1))
   | none=>match a6 Ty o.dst o.op O H n with
    | some (v,H',_)=>dZ n0 o.op O/\jl P f N k Q Ty ops n0 l (O.put o.dst v) H' n
    | none=>False
  | none=>False):=by rw[jl]
theorem J.seqN (hT:aV P Ty) {id:Nat} {ops:List Oper} {y:Code} (hm:P.follows .mixedOrders=true) (hN:ops.all (fun o=>dL N o.dst)=true) (hB:Ab.vK ops.toArray=true)
  (h:∀ k':List Item,(∀ O H n,J P f N (.code y::k) O H n Q->J P f N k' O H n Q)->jl P f N k' Q Ty ops.toArray n ops O H n):J P f N (.code (.seq (.region id ops.toArray true) y)::k) O H n Q:=
 J.seq (J.vK hT hm hN hB (iJ ops _ _ _ (h (.code y::k) fun _ _ _ h=>h)))
end
attribute [simp] fv dZ Ai AR cC
end Go.Ab
