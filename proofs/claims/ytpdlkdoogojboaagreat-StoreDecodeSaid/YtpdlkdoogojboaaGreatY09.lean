/- Part 9 of the proof: M9, M9r, Ma, Mb, Mc, Mdr, Md, Mg, Mh, Mir, Mi, Mj -/
import Derived.Test.YtpdlkdoogojboaaGreatY08
import Derived.Test.YtpdlkdoogojboaaGreatY05
set_option maxHeartbeats 16000000
set_option maxRecDepth 100000
namespace Go.Proofs.YtpdlkdoogojboaaGreat
open Go Go.RowKit
noncomputable section
theorem set3 {α:Type} (g:α->List Value) (hg:∀y,(g y).length=3):∀(l:List α) (k:Nat) (y:α) (a b c:Value),k < l.length->g y=[a,b,c]->put3 (l.flatMap g) k a b c=(l.set k y).flatMap g
 | [],k,y,a,b,c,h,_=> by simp at h
 | x::l,0,y,a,b,c,_,e=> by
  have h:=hg x
  match hx:g x,h with
  | [x0,x1,x2],_=>
   unfold put3;simp only [List.flatMap_cons,hx,List.set_cons_zero,e];rfl
 | x::l,k+1,y,a,b,c,h,e=> by
  have ih:=set3 g hg l k y a b c (by simpa using h) e;have h:=hg x
  match hx:g x,h with
  | [x0,x1,x2],_=>
   unfold put3 at ih ⊢;simp only [List.flatMap_cons,hx,List.set_cons_succ,List.cons_append,List.nil_append];rw [<-ih,show (k+1) * 3=k * 3+1+1+1 by omega];rfl
theorem MsOk.at {D:Db} {ms:List Rs} (h:MsOk D ms) (k:Nat) (hk:k < ms.length):D[k]? =some (ms[k].cols,riL ms[k].l,ms[k].next):=by
 rw [<-h.d,List.getElem?_map,List.getElem?_eq_getElem hk];rfl
theorem MsOk.len {D:Db} {ms:List Rs} (h:MsOk D ms):ms.length=D.length:=by rw [<-h.d,List.length_map]
theorem Rg.Ob.eqlB (G:Rg) (i:Nat) (p q:Int) (r:Bool) (h:decide (p=q)=r) {ty t:TypeId} {x y:Operand} (hop:(opAt G.ops i).op=.binOp .eql ty x y t:=by rfl) (hx:∀a,G.env i a x=.int .i64 p:=by intro _;exact kr (by kernel_rfl)) (hy:∀a,G.env i a y=.int .i64 q:=by intro _;exact kr (by kernel_rfl)) (hv:∀g,G.valD i g=.bool r:=by intro _;exact kr (by kernel_rfl))
 (hq:(G.quiet i G.pcs.length && G.okV i)=true:=by exact kr (by kernel_rfl)) (hw:∀a,wantE G.ops (opAt G.ops i) (G.env i a)=some true:=by intro _;exact kr (by kernel_rfl)):G.Ob i:=Rg.Ob.read G i hq hw λ L a w _ _=> by
 have e:decide (p=q)=(p==q):=by by_cases h:p=q <;> simp [h]
 simp [execOp,hop,hx,hy,go_sem,hv,<-h,e]
def QPost (P:Prop) (w:World) (e:Ending) (w':World):Prop:=∃q,e=.returned (.bool q)/\(q=true->P)/\w=w'
def shortP (r:Rw):Prop:=r.length<=10/\∀v∈r,v.text.size<=40
theorem short_calls (r:Rw) (v:Value) (w:World) (hv:ValsAt w r v):Calls Tryz.prog 43 #[v] w λ e w'=> QPost (shortP r) w e w':=by
 obtain ⟨a,n,c,rfl,hn,hm⟩:=hv.shape;unfold maxLen at hm;have HV:=Lib.hid hv;have HN:=Lib.hid hn;have H0:Hid (∀x∈r.take 0,x.text.size<=40):=by show ∀x∈r.take 0,_;simp
 clear hv hn;go_enter Tryz.func43,Tryz.ntmps43;go_upto_region 2 with (fail)
 go_loopg [3] n (λ g z wr=> ∃k:Nat,z=.int .i64 k/\g+k=n/\wr=w/\Hid (∀x∈r.take k,x.text.size<=40))
 case atStart=> exact ⟨0,rfl,rfl,rfl,H0⟩
 case round=>
  clear H0;obtain ⟨k,rfl,hgk,rfl,Hi⟩:=hrel;by_cases hk:k < n
  · have hkl:k < r.length:=by rw [<-HN.out];exact hk
    have hkn:(k:Int) < n:=by omega
    obtain ⟨b,o,rfl⟩:=HV.out.has k hk;obtain ⟨c0,c1,c2⟩:=HV.out.cell k hkl;have hbl:=World.block_lt_of_cell? _ _ c0;have hst:∀x∈r.take (k+1),x∈r.take k\/x=r[k]:=λ x hx=> by
     rw [List.take_add_one,List.getElem?_eq_getElem hkl] at hx;rcases List.mem_append.1 hx with h | h
     · exact .inl h
     · exact .inr (by simpa using h)
    have HST:=Lib.hid hst;have Hgk:=Lib.hid hgk;clear hst hgk;generalize r[k]=x at *;clear hkl;by_cases h40:(40:Int) < x.text.size
    · go_wp2
      go_ret;exact ⟨false,rfl,(λ h=> nomatch h),rfl⟩
    · have Hn:Hid (∀y∈r.take (k+1),y.text.size<=40):=λ y hy=> by
       rcases HST.out y hy with h | rfl
       · exact Hi.out y h
       · omega
      clear Hi HST;go_wp2;go_roundg (gk - 1)
      case rel=> exact ⟨k+1,by go_num,by have:=Hgk.out;omega,rfl,Hn⟩
      case measure=> have:=Hgk.out;omega
  · obtain rfl:k=n:=by omega
    have HF:Hid (decide ((k:Int)<=10)=true->shortP r):=λ h=> by have h1:=of_decide_eq_true h;have h2:=Hi.out;rw [List.take_of_length_le (by rw [<-HN.out];exact Nat.le_refl _)] at h2;exact ⟨by rw [<-HN.out];omega,h2⟩
    clear Hi hgk hk;by_cases h10:(k:Int)<=10
    · have HG:=HF.out (decide_eq_true h10)
      have HG:=Lib.hid HG;go_wp2;go_ret;exact ⟨true,by simp,λ _=> HG.out,rfl⟩
    · go_wp2
      go_ret;exact ⟨false,by simp,(λ h=> nomatch h),rfl⟩
structure TdP (t:Td):Prop where
 n:t.n<=10
 k:t.K.length<=5
 f:t.F.length<=5
 kl:∀c∈t.K,c.length<=10
 fl:∀c∈t.F,c.length<=10
structure SmallP (td:List Td) (l:List Chg):Prop where
 tds:∀t∈td,TdP t
 ls:∀c∈l,shortP c.old/\shortP c.new
 tn:td.length<=4
 ln:l.length<=40
theorem TdP.sm {t:Td} (h:TdP t):t.Sm:=⟨by have:=h.n;omega,by have:=h.k;omega,by have:=h.f;omega,λ c hc=> by have:=h.kl c hc;omega,λ c hc=> by have:=h.fl c hc;omega⟩
theorem take_snoc {α:Type} {P:α->Prop} {l:List α} {k:Nat} (hk:k < l.length) (h:∀x∈l.take k,P x) (h2:P l[k]):∀x∈l.take (k+1),P x:=by
 intro x hx;rw [List.take_add_one,List.getElem?_eq_getElem hk] at hx;rcases List.mem_append.1 hx with hx | hx
 · exact h x hx
 · have:x=l[k]:=by simpa using hx
   rw [this];exact h2
theorem Small_calls (td:List Td) (l:List Chg) (sv lv:Value) (w:World) (hs:SchX w td sv) (hl:ChsX w l lv):Calls Tryz.prog 13 #[sv,lv] w λ e w'=> QPost (SmallP td l) w e w':=by
 obtain ⟨sa,sc,rfl⟩:=hs.sl.shape;obtain ⟨la,lc,rfl⟩:=hl.sl.shape;obtain ⟨n,hn⟩:∃n,td.length=n:=⟨_,rfl⟩
 obtain ⟨m,hm⟩:∃m,l.length=m:=⟨_,rfl⟩
 have hn63:n<=9223372036854775807:=by have:=hs.sl.1;unfold maxLen at this;omega
 have hm63:m<=9223372036854775807:=by have:=hl.sl.1;unfold maxLen at this;omega
 have HS:=Lib.hid hs;have HL:=Lib.hid hl;have HN:=Lib.hid hn;have HM:=Lib.hid hm;have H0:Hid (∀t∈td.take 0,TdP t):=by show ∀t∈td.take 0,_;simp
 rw [hn] at HS ⊢;rw [hm] at HL ⊢;clear hs hl hn hm;go_enter Tryz.func13,Tryz.ntmps13;go_upto_region 2 with (fail)
 go_loopg [5] n (λ g z wr=> ∃i:Nat,z=.int .i64 i/\g+i=n/\wr=w/\Hid (∀t∈td.take i,TdP t))
 case atStart=> exact ⟨0,rfl,rfl,rfl,H0⟩
 case round=>
  clear H0;obtain ⟨i,rfl,hgi,rfl,Hi⟩:=hrel;by_cases hi:i < n
  · have hil:i < td.length:=by rw [HN.out];exact hi
    have hin:(i:Int) < n:=by omega
    obtain ⟨b,o,c,e1,hbl, -,p1,p2,p3, -⟩:=HS.out.cells i hil;obtain ⟨rfl, -,rfl⟩:=Value.slice.inj e1;have hx:=HS.out.td _ (List.getElem_mem hil);have HST:=Lib.hid (λ h=> take_snoc (P:=TdP) hil Hi.out h);have Hgi:=Lib.hid hgi;clear e1 hgi Hi;generalize td[i]=t at *;clear hil;obtain ⟨nm,ca,tn,cc,kv,fv,xa,xn,xc,cvs,kvs,fvs,K,F⟩:=t;obtain ⟨ka,kc,hkv⟩:=hx.keys.1.shape;obtain ⟨fa,fc,hfv⟩:=hx.fors.1.shape;simp only at p1 p2 p3 hkv hfv;subst hkv hfv;obtain ⟨kn,hkn⟩:∃kn,K.length=kn:=⟨_,rfl⟩
    obtain ⟨fn,hfn⟩:∃fn,F.length=fn:=⟨_,rfl⟩
    have HK:=Lib.hid hx.keys;have HF:=Lib.hid hx.fors;have HKN:=Lib.hid hkn;have HFN:=Lib.hid hfn;simp only at HK HF;rw [hkn] at p2 HK;rw [hfn] at p3 HF;have tc:tn<=9223372036854775807:=by have:=hx.cols.1;unfold maxLen at this;simp only at this;omega
    have kcl:kn<=9223372036854775807:=by have:=hx.keys.1.1;unfold maxLen at this;simp only at this;omega
    have fcl:fn<=9223372036854775807:=by have:=hx.fors.1.1;unfold maxLen at this;simp only at this;omega
    clear hx hkn hfn;by_cases h1:(10:Int) < tn
    · go_wp2
      go_ret;exact ⟨false,rfl,(λ h=> nomatch h),rfl⟩
    by_cases h2:(5:Int) < kn
    · go_wp2
      go_ret;exact ⟨false,rfl,(λ h=> nomatch h),rfl⟩
    by_cases h3:(5:Int) < fn
    · go_wp2
      go_ret;exact ⟨false,rfl,(λ h=> nomatch h),rfl⟩
    obtain ⟨gk0,rfl⟩:∃x,x=gk:=⟨_,rfl⟩
    have HK0:Hid (∀c∈K.take 0,c.length<=10):=by show ∀c∈K.take 0,_;simp
    go_upto_region 7 with (fail)
    go_loopg [6] kn (λ g z wr2=> ∃k:Nat,z=.int .i64 k/\g+k=kn/\wr2=wr/\Hid (∀c∈K.take k,c.length<=10))
    case atStart=> exact ⟨0,rfl,rfl,rfl,HK0⟩
    case round=>
     clear HK0;obtain ⟨k,rfl,hgk,rfl,Hk⟩:=hrel;by_cases hk:k < kn
     · have hkl:k < K.length:=by rw [HKN.out];exact hk
       have hkk:(k:Int) < kn:=by omega
       obtain ⟨u,hu,hx⟩:=HK.out.2 k hkl;obtain ⟨b',o',c',e1,q1⟩:=HK.out.1.some hu;obtain ⟨rfl, -,rfl⟩:=Value.slice.inj e1;obtain ⟨ua,un,uc,rfl,hun,hum⟩:=hx.shape;unfold maxLen at hum;have hql:=World.block_lt_of_cell? _ _ q1;have Hst:=Lib.hid (λ h=> take_snoc (P:=λ c:List Int=> c.length<=10) hkl Hk.out h);have Hgk:=Lib.hid hgk;have Hun:=Lib.hid hun;clear hu hx e1 hgk Hk hun;generalize K[k]=cl at *;clear hkl;by_cases h4:(10:Int) < un
       · go_wp2
         go_ret;exact ⟨false,rfl,(λ h=> nomatch h),rfl⟩
       · have Hn:=Lib.hid (Hst.out (by have:=Hun.out;omega))
         clear Hst;go_wp2;go_roundg (gk - 1)
         case rel=> exact ⟨k+1,by go_num,by have:=Hgk.out;omega,rfl,Hn⟩
         case measure=> have:=Hgk.out;omega
     · obtain rfl:k=kn:=by omega
       have HKA:Hid (∀c∈K,c.length<=10):=by have h:=Hk.out;rw [List.take_of_length_le (by rw [HKN.out];exact Nat.le_refl _)] at h;exact h
       have HF0:Hid (∀c∈F.take 0,c.length<=10):=by show ∀c∈F.take 0,_;simp
       clear Hk hgk hk;go_upto_region 12 with (fail)
       go_loopg [7] fn (λ g z wr2=> ∃j:Nat,z=.int .i64 j/\g+j=fn/\wr2=wr/\Hid (∀c∈F.take j,c.length<=10))
       case atStart=> exact ⟨0,rfl,rfl,rfl,HF0⟩
       case round=>
        clear HF0;obtain ⟨j,rfl,hgj,rfl,Hj⟩:=hrel;by_cases hj:j < fn
        · have hjl:j < F.length:=by rw [HFN.out];exact hj
          have hjj:(j:Int) < fn:=by omega
          obtain ⟨u,a1,b1,hu, -, -,hx⟩:=HF.out.2 j hjl;obtain ⟨b',o',c',e1,q1⟩:=HF.out.1.some hu;obtain ⟨rfl, -,rfl⟩:=Value.slice.inj e1;obtain ⟨ua,un,uc,rfl,hun,hum⟩:=hx.shape;unfold maxLen at hum;have hql:=World.block_lt_of_cell? _ _ q1;have Hst:=Lib.hid (λ h=> take_snoc (P:=λ c:List Int=> c.length<=10) hjl Hj.out h);have Hgj:=Lib.hid hgj;have Hun:=Lib.hid hun;clear hu hx e1 hgj Hj hun;generalize F[j]=cl at *;clear hjl;by_cases h4:(10:Int) < un
          · go_wp2
            go_ret;exact ⟨false,rfl,(λ h=> nomatch h),rfl⟩
          · have Hn:=Lib.hid (Hst.out (by have:=Hun.out;omega))
            clear Hst;go_wp2;go_roundg (gk - 1)
            case rel=> exact ⟨j+1,by go_num,by have:=Hgj.out;omega,rfl,Hn⟩
            case measure=> have:=Hgj.out;omega
        · obtain rfl:j=fn:=by omega
          have HN2:Hid (∀t∈td.take (i+1),TdP t):=HST.out ⟨by show tn<=10;omega,by show K.length<=5;rw [HKN.out];omega,by show F.length<=5;rw [HFN.out];omega,HKA.out,by have h:=Hj.out;rw [List.take_of_length_le (by rw [HFN.out];exact Nat.le_refl _)] at h;exact h⟩;clear Hj hgj hj HST HKA;go_wp2;go_roundg (gk0 - 1)
          case rel=> exact ⟨i+1,by go_num,by have:=Hgi.out;omega,rfl,HN2⟩
          case measure=> have:=Hgi.out;omega
  · obtain rfl:i=n:=by omega
    have HTD:Hid (∀t∈td,TdP t):=by have h:=Hi.out;rw [List.take_of_length_le (by rw [HN.out];exact Nat.le_refl _)] at h;exact h
    have HC0:Hid (∀c∈l.take 0,shortP c.old/\shortP c.new):=by show ∀c∈l.take 0,_;simp
    clear Hi hgi hi;go_upto_region 17 with (fail)
    go_loopg [8] m (λ g z wr2=> ∃j:Nat,z=.int .i64 j/\g+j=m/\wr2=wr/\Hid (∀c∈l.take j,shortP c.old/\shortP c.new))
    case atStart=> exact ⟨0,rfl,rfl,rfl,HC0⟩
    case round=>
     clear HC0;obtain ⟨j,rfl,hgj,rfl,Hj⟩:=hrel;by_cases hj:j < m
     · have hjl:j < l.length:=by rw [HM.out];exact hj
       have hjj:(j:Int) < m:=by omega
       obtain ⟨b,o,c,e1,hbl, -, -,p2,p3⟩:=HL.out.cells j hjl;obtain ⟨rfl, -,rfl⟩:=Value.slice.inj e1;have hx:=HL.out.ch _ (List.getElem_mem hjl);have Hst:=Lib.hid (λ h=> take_snoc (P:=λ c:Chg=> shortP c.old/\shortP c.new) hjl Hj.out h);have Hgj:=Lib.hid hgj;clear e1 hgj Hj;generalize l[j]=ch at *;clear hjl;have HSO:=Lib.hid (short_calls ch.old ch.ov _ hx.old);have HSN:=Lib.hid (short_calls ch.new ch.nv _ hx.new);unfold Chg.ov at p2 HSO;unfold Chg.nv at p3 HSN;clear hx;go_wp2_with fail;(with_reducible refine HSO.out.mono ?_);rintro e w1 ⟨q1,rfl,hq1,rfl⟩;have HQ1:=Lib.hid hq1;clear hq1 HSO;cases q1 with
       | false=>
        go_wp2;go_ret;exact ⟨false,rfl,(λ h=> nomatch h),rfl⟩
       | true=>
        go_wp2_with fail;(with_reducible refine HSN.out.mono ?_);rintro e w1 ⟨q2,rfl,hq2,rfl⟩;have HQ2:=Lib.hid hq2;clear hq2 HSN;cases q2 with
        | false=>
         go_wp2;go_ret;exact ⟨false,rfl,(λ h=> nomatch h),rfl⟩
        | true=>
         have Hn:=Lib.hid (Hst.out ⟨by have:=HQ1.out;simpa using this,by have:=HQ2.out;simpa using this⟩);clear Hst;go_wp2;go_roundg (gk - 1)
         case rel=> exact ⟨j+1,by go_num,by have:=Hgj.out;omega,rfl,Hn⟩
         case measure=> have:=Hgj.out;omega
     · obtain rfl:j=m:=by omega
       have HCD:Hid (∀c∈l,shortP c.old/\shortP c.new):=by have h:=Hj.out;rw [List.take_of_length_le (by rw [HM.out];exact Nat.le_refl _)] at h;exact h
       clear Hj hgj hj;by_cases h4:(i:Int)<=4
       · by_cases h5:(j:Int)<=40
         · go_wp2
           go_ret;exact ⟨true,by simp,λ _=> ⟨HTD.out,HCD.out,by rw [HN.out];omega,by rw [HM.out];omega⟩,rfl⟩
         · go_wp2
           go_ret;exact ⟨false,by simp,(λ h=> nomatch h),rfl⟩
       · go_wp2
         go_ret;exact ⟨false,by simp,(λ h=> nomatch h),rfl⟩
theorem Rg.Ob.neqS (G:Rg) (i:Nat) (k:IntKind) (p:Int) {ty r:TypeId} {x y:Operand} (hop:(opAt G.ops i).op=.binOp .neq ty x y r:=by rfl) (hx:∀a,G.env i a x=.int k p:=by intro _;exact kr (by kernel_rfl)) (hy:∀a,G.env i a y=.int k p:=by intro _;exact kr (by kernel_rfl)) (hv:∀g,G.valD i g=.bool false:=by intro _;exact kr (by kernel_rfl))
 (hq:(G.quiet i G.pcs.length && G.okV i)=true:=by exact kr (by kernel_rfl)) (hw:∀a,wantE G.ops (opAt G.ops i) (G.env i a)=some true:=by intro _;exact kr (by kernel_rfl)):G.Ob i:=Rg.Ob.read G i hq hw λ L a w _ _=> by
 simp [execOp,hop,hx,hy,go_sem,hv]
def gSma4 (b n mb mo mc k:Nat) (lv pv:Value) (next:Int) (A:Asn):=rgx Tryz.prog Tryz.f15 4 43 [11,12,13,14,15,16,17,18,19,20,21,22,23,24,25,26,27,28,29,30,31] [(5, .int .i64 (k:Nat)),(0,pV b 0),(1, .slice (some ⟨mb,mo,none⟩) n mc)] (Vq 0 11 [Kp b 0,Kv (.int .i64 (k:Nat)),Kv (.slice (some ⟨mb,mo,none⟩) n mc),Kv (.int .i64 (k:Nat)),Kp mb (mo+k * 3),Kp mb (mo+k * 3+1),Kv lv,Kv (.bool true),Kv (.bool false),Kv (.bool false),Kp b 0,Kv (.int .i64 (k:Nat)),Kv pv,Kv (.int .i64 next),Kv (.slice (some ⟨mb,mo,none⟩) n mc),Kv (.int .i64 (k:Nat)),Kp mb (mo+k * 3),Kp mb (mo+k * 3+2),Kv (.int .i64 next),Kv (.bool false),Kv (.bool false)]) [.all (A)]
theorem rSma4 (b n mb mo mc k:Nat) (lv pv:Value) (next:Int) (A:Asn) (w0:World) (fp0:List Nat) (R:List Asn) (hk:k < n) (hlv:∀L w,St w0 fp0 (L++R) w->w.cell? ⟨mb,mo+k * 3+1,none⟩=some lv) (hnx:∀L w,St w0 fp0 (L++R) w->w.cell? ⟨mb,mo+k * 3+2,none⟩=some (.int .i64 next)) (hrows:∀w,St w0 fp0 ([A]++R) w->Calls Tryz.prog 20 #[.pointer (some ⟨b,0,none⟩), .int .i64 (k:Nat),lv] w λ e w2=> e=.returned (.bool true)/\St w0 fp0 ([A]++R) w2) (htab:∀w f,A.p w f->Calls Tryz.prog 21 #[.pointer (some ⟨b,0,none⟩), .int .i64 (k:Nat)] w λ e w'=> e=.returned pv/\Below w.heap.size w w') (hnext:∀w f,A.p w f->Calls Tryz.prog 41 #[pv] w λ e w'=> e=.returned (.int .i64 next)/\Below w.heap.size w w') {w:World} {c:Code} {a:Act} {Q:Exit->Act->World->Prop} (c1:isReg c=true) (c2:cops c=opsR Tryz.f15 4) (c3:a.tmps.size=43) (_c4:a.defers=a.defers) (i5:a.eval (.tmp 5)=.int .i64 (k:Nat)) (i0:a.eval (.tmp 0)=.pointer (some ⟨b,0,none⟩)) (i1:a.eval (.tmp 1)=.slice (some ⟨mb,mo,none⟩) n mc)
 (hS:St w0 fp0 ([A]++R) w)
 (hQ:∀(w1:World),St w0 fp0 ([A]++R) w1->Q .normal (putL a [(11, .pointer (some ⟨b,0,none⟩)),(12, .int .i64 (k:Nat)),(13, .slice (some ⟨mb,mo,none⟩) n mc),(14, .int .i64 (k:Nat)),(15, .pointer (some ⟨mb,mo+k * 3,none⟩)),(16, .pointer (some ⟨mb,mo+k * 3+1,none⟩)),(17,lv),(18, .bool true),(19, .bool false),(20, .bool false),(21, .pointer (some ⟨b,0,none⟩)),(22, .int .i64 (k:Nat)),(23,pv),(24, .int .i64 next),(25, .slice (some ⟨mb,mo,none⟩) n mc),(26, .int .i64 (k:Nat)),(27, .pointer (some ⟨mb,mo+k * 3,none⟩)),(28, .pointer (some ⟨mb,mo+k * 3+2,none⟩)),(29, .int .i64 next),(30, .bool false),(31, .bool false)]) w1):c.wp Tryz.prog Q a w:=by
 have ok:(gSma4 b n mb mo mc k lv pv next A w0 fp0 R).Ok 21:=Rg.ok _ 21 [4,6,7,12,13,16,18,19] ⟨.indexO _ 4 mb mo n mc k 3 hk, .loadR1 _ 6 lv hlv,(.callG _ 7 (f:=20) (args:=λ _=> #[.pointer (some ⟨b,0,none⟩), .int .i64 (k:Nat),lv]) (λ _=> [A]) (λ _ _=> [A]) (λ g w h=> (hrows w h).mono λ e w2 ⟨e1,h2⟩=> ⟨_,e1,kr (by kernel_rfl),h2⟩)), .ask1 _ 12 0 (f:=21) (args:=#[.pointer (some ⟨b,0,none⟩), .int .i64 (k:Nat)]) (v:=pv) htab, .ask1 _ 13 0 (f:=41) (args:=#[pv]) (v:=.int .i64 next) hnext, .indexO _ 16 mb mo n mc k 3 hk, .loadR1 _ 18 (.int .i64 next) hnx, .neqS _ 19 .i64 next,trivial⟩;refine wp_regD ok (by kernel_rfl) ⟨c1,c2⟩ ⟨c3,λ p hp=> ?_⟩ hS λ A1 w1 N1 H1=> ?_
 · simp only [gSma4,rgx,List.map_nil,List.append_nil,List.mem_cons,List.not_mem_nil,or_false] at hp
   rcases hp with rfl | rfl | rfl
   · exact i5
   · exact i0
   · exact i1
 exact N1.fin [] (hQ w1 H1) (by kernel_rfl)
theorem tbA_mk (S cols:Nat) (I:List (List Int)) (L:LL) (next:Int):tbA ⟨S,cols,I,L,next⟩=storeA S cols I L next:=rfl
theorem getL_at {L:LL} (ha:AscI L) (k:Nat) (hk:k < L.length):getL L L[k].1=some L[k].2:=by
 have e:L=L.take k++L[k]::L.drop (k+1):=by rw [<-List.drop_eq_getElem_cons hk,List.take_append_drop]
 have h:∀a∈L.take k,a.1 < L[k].1:=by intro a hm;obtain ⟨i,hi,rfl⟩:=List.mem_iff_getElem.1 hm;rw [List.getElem_take];rw [List.length_take] at hi;exact (List.pairwise_iff_getElem.1 ha) i k (by omega) hk (by omega)
 obtain ⟨x,hx⟩:∃x,L[k]=x:=⟨_,rfl⟩
 rw [hx] at e h ⊢;rw [e];exact getL_split1 h rfl
theorem rows_calls (b:Nat) (q:StQ) (D:Db) (hq:q.Ok D) (i:Nat) (hi:i < q.ts.length) (l:List Ri) (lv:Value) (hl:riL l=q.ts[i].L) (hlen:l.length < 1000000) (w0 w:World) (fp0:List Nat) (R:List Asn) (hx:Rd w0 fp0 R λ w=> RiX w l lv) (hS:St w0 fp0 (dbP b q++(q.ts.map tbA++R)) w):
 Calls Tryz.prog 20 #[.pointer (some ⟨b,0,none⟩), .int .i64 i,lv] w λ e w'=> e=.returned (.bool true)/\St w0 fp0 (dbP b q++(q.ts.map tbA++R)) w':=by
 have hdb:=db_get hS;have HT:=Lib.hid (table_in b i _ q.tv (ptrV q.ts[i].S) w hdb.2.1 hdb.2.2.2.2 (by rw [List.getElem?_map,List.getElem?_eq_getElem hi];rfl));have hid:i < q.td.length:=by rw [hq.dlen,<-hq.tlen];exact hi
 have hcl:q.ts[i].cols<=1000000:=by have:=(hq.sm _ (List.getElem_mem hid)).n;rw [hq.tdn i hi hid] at this;omega
 have HS0:=Lib.hid (hS.pickT i hi);have HEND:Hid (∀w,St w0 fp0 (tbA q.ts[i]::(dbP b q++((q.ts.eraseIdx i).map tbA++R))) w->St w0 fp0 (dbP b q++(q.ts.map tbA++R)) w):=λ w h=> St.unpickT hi h;generalize q.ts[i]=T at *;obtain ⟨S,cols,I,L,next⟩:=T;simp only [tbA_mk] at hl hcl HS0 HEND HT;obtain ⟨R1,hR1⟩:∃R1,dbP b q++((q.ts.eraseIdx i).map tbA++R)=R1:=⟨_,rfl⟩
 have HX:Hid (Rd w0 fp0 R1 λ w=> RiX w l lv):=by show Rd _ _ _ _;rw [<-hR1,<-List.append_assoc];exact hx.app _
 rw [hR1] at HS0;obtain ⟨E,hE⟩:∃E:World->Prop,(λ w=> St w0 fp0 (dbP b q++(q.ts.map tbA++R)) w)=E:=⟨_,rfl⟩
 have HEND2:Hid (∀w,St w0 fp0 (storeA S cols I L next::R1) w->E w):=λ w h=> by rw [<-hE];refine HEND.out w ?_;rw [hR1];exact h
 have hgoal:∀(e:Ending) (w':World),(e=.returned (.bool true)/\E w')->(e=.returned (.bool true)/\St w0 fp0 (dbP b q++(q.ts.map tbA++R)) w'):=λ e w' h=> by rw [<-hE] at h;exact h
 refine Calls.mono ?_ hgoal;clear hgoal HEND hE hS hdb hx hq hid hR1;obtain ⟨n,hn⟩:∃n,l.length=n:=⟨_,rfl⟩
 have hL:L.length=n:=by rw [<-hl,riL_len,hn]
 obtain ⟨a,c,rfl⟩:=(HX.out.at (M:=[_]) HS0.out).sl.shape;have HN:=Lib.hid hn;have hasc:AscI L:=by obtain ⟨_,h⟩:=HS0.out.has 0 rfl;exact (storeA_ok h).1
 have HG:Hid (∀k (hk:k < l.length),getL L l[k].id=some l[k].r):=λ k hk=> by
  have hk2:k < L.length:=by rw [<-hl,riL_len];exact hk
  have h:=getL_at hasc k hk2;have e:L[k]=(l[k].id,l[k].r):=by simp only [<-hl];exact List.getElem_map _
  rw [e] at h;exact h
 have HLn:Hid (Calls Tryz.prog 53 #[ptrV S] w λ e w'=> e=.returned (.int .i64 n)/\w=w'):=by obtain ⟨_,h⟩:=HS0.out.has 0 rfl;have:=SLen_calls h;rw [hL] at this;exact this
 rw [hn] at HX hlen ⊢;unfold ptrV at HT HLn;clear hn hasc hL hl;go_enter Tryz.func20,Tryz.ntmps20;go_wp2_with fail;(with_reducible refine HT.out.mono ?_);rintro e w1 ⟨rfl,rfl⟩;clear HT;go_wp2_with fail;(with_reducible refine HLn.out.mono ?_);rintro e w1 ⟨rfl,rfl⟩;clear HLn;go_upto_region 5 with (fail)
 go_loopg [26] n (λ g z wr=> ∃k:Nat,z=.int .i64 k/\g+k=n/\Hid (St w0 fp0 (storeA S cols I L next::R1) wr))
 case atStart=> exact ⟨0,rfl,rfl,HS0⟩
 case round=>
  clear HS0;obtain ⟨k,rfl,hgk,Hs⟩:=hrel;by_cases hk:k < n
  · have hkl:k < l.length:=by rw [HN.out];exact hk
    have hkn:(k:Int) < n:=by omega
    have hxr:=HX.out.at (M:=[_]) Hs.out;obtain ⟨b',o,c',e1,q0,q1⟩:=ri_cells (by rw [HN.out];have:=hxr.sl;rw [HN.out] at this;exact this) k hkl;rw [HN.out] at e1;obtain ⟨rfl, -,rfl⟩:=Value.slice.inj e1;have hgl:=HG.out k hkl;have HROW:Hid (∀M w,St w0 fp0 (M++R1) w->ValsAt w l[k].r l[k].v):=λ M w h=> ((HX.out M w h).row _ (List.getElem_mem hkl))
    have hql:=World.block_lt_of_cell? _ _ q0;have Hgk:=Lib.hid hgk;have HGL:=Lib.hid hgl;clear e1 hxr hgk hgl;generalize l[k]=x at *;clear hkl;obtain ⟨xid,xa,xn,xc,xr⟩:=x;unfold Ri.v at q1 HROW;simp only at q0 q1 HROW HGL;have HS1:=Lib.hid (Hs.out.newblk 109 #[.int .i64 xid, .slice xa xn xc]);go_upto_region 7 with (fail)
    generalize hW:wr.alloc _=W at *;clear hW q0 q1 hql Hs;obtain ⟨xb,hxb⟩:∃xb,wr.heap.size=xb:=⟨_,rfl⟩
    rw [hxb] at HS1 ⊢;clear hxb;obtain ⟨_,hb⟩:=HS1.out.has 0 rfl;have c0:=(blk_get hb).1 0;have c1:=(blk_get hb).1 1;have cl:=(blk_get hb).2.2;simp only [List.getElem?_toArray,List.getElem?_cons_zero,List.getElem?_cons_succ] at c0 c1;have HGT:=Lib.hid (SGet_calls S cols I L next xid w0 W fp0 _ hcl (HS1.out.perm (List.Perm.swap _ _ _)));rw [HGL.out] at HGT;unfold ptrV at HGT;simp only [Option.isSome_some,Option.getD_some] at HGT;clear hb;go_wp2_with fail;(with_reducible refine HGT.out.mono ?_);rintro e w2 ⟨gv,rfl,h2⟩;clear HGT c0 c1 cl;obtain ⟨_,hrow⟩:=h2.has 0 rfl;obtain ⟨ga,gc,rfl, -⟩:=row_shape hrow;obtain ⟨_,hst⟩:=h2.has 1 rfl;have htx:=get_txt hst xid;rw [HGL.out] at htx;have hg:ValsAt w2 xr (.slice ga xr.length gc):=⟨SlX.of_row (X:=[]) hrow (length_flat _) (by simp),htx⟩
    have HSM:=Lib.hid (rsame_calls xr xr _ (.slice xa xn xc) w2 hg (HROW.out [_,_,_] w2 h2));rw [decide_eq_true rfl] at HSM;have H2:=Lib.hid h2;obtain ⟨_,hb⟩:=h2.has 2 rfl;have c0:=(blk_get hb).1 0;have c1:=(blk_get hb).1 1;have cl:=(blk_get hb).2.2;simp only [List.getElem?_toArray,List.getElem?_cons_zero,List.getElem?_cons_succ] at c0 c1;obtain ⟨gn,hgn⟩:∃gn,xr.length=gn:=⟨_,rfl⟩
    rw [hgn] at HSM ⊢;clear hb h2 hrow hst htx hg hgn HS1;go_wp2_with fail;(with_reducible refine HSM.out.mono ?_);rintro e w3 ⟨rfl,hb3⟩;have H3:=Lib.hid (((H2.out.mono hb3).drop.perm (List.Perm.swap _ _ _)).drop);clear HSM H2 hb3 c0 c1 cl;go_wp2;go_roundg (gk - 1)
    case rel=> exact ⟨k+1,by go_num,by have:=Hgk.out;omega,H3⟩
    case measure=> have:=Hgk.out;omega
  · obtain rfl:k=n:=by omega
    have HF:=Lib.hid (HEND2.out _ Hs.out);clear Hs hgk hk;go_wp2;go_ret;exact ⟨rfl,HF.out⟩
theorem same_calls (b:Nat) (D:Db) (ms:List Rs) (mv:Value) (hms:MsOk D ms) (hlen:∀t∈D,t.2.1.length < 1000000) (w0 w:World) (fp0:List Nat) (R:List Asn) (hx:Rd w0 fp0 R λ w=> RefX w ms mv) (hS:St w0 fp0 (stA b D::R) w):
 Calls Tryz.prog 15 #[.pointer (some ⟨b,0,none⟩),mv] w λ e w'=> e=.returned (.bool true)/\St w0 fp0 (stA b D::R) w':=by
 obtain ⟨q,hq,hs⟩:=hS.openD;obtain ⟨ma,mc,rfl⟩:=(hx.at (M:=[_]) hS).sl.shape;obtain ⟨A,hA⟩:∃A,starA (dbP b q++q.ts.map tbA)=A:=⟨_,rfl⟩
 have HOP:Hid (∀w,St w0 fp0 (A::R) w↔St w0 fp0 (dbP b q++(q.ts.map tbA++R)) w):=λ w=> by rw [<-hA,St.star,List.append_assoc]
 have HAP:Hid (∀w f,A.p w f->∃R',St w [] (dbP b q++R') w\/Star w (dbP b q++q.ts.map tbA) f):=λ w f h=> ⟨[], .inr (by rw [<-hA] at h;exact h)⟩
 have HS0:=Lib.hid ((HOP.out w).2 hs);have HEND:Hid (∀w,St w0 fp0 (A::R) w->St w0 fp0 (stA b D::R) w):=λ w h=> St.shutD hq ((HOP.out w).1 h);have HTB:Hid (∀w f,A.p w f->w.cell? ⟨b,1,none⟩=some q.tv/\SlX [] w 1 (q.ts.map λ t=> ptrV t.S).length (q.ts.map λ t=> ptrV t.S) q.tv):=λ w f h=> by rw [<-hA] at h;have h1:Star w (dbP b q++q.ts.map tbA) f:=h;obtain ⟨f0,h2, -⟩:=Star.get 0 rfl h1;obtain ⟨f1,h3, -⟩:=Star.get 2 rfl h1;exact ⟨(blk_get h2).1 1,SlX.of_sl h3 (by simp)⟩
 have HNX:Hid (∀w f,A.p w f->∀i (hi:i < q.ts.length),∃g,(tbA q.ts[i]).p w g):=λ w f h i hi=> by rw [<-hA] at h;have h1:Star w (dbP b q++q.ts.map tbA) f:=h;obtain ⟨g,h2, -⟩:=Star.get (3+i) (A:=tbA q.ts[i]) (by show (dbP b q++q.ts.map tbA)[3+i]? =_;rw [List.getElem?_append_right (by show 3<=3+i;omega)];show (q.ts.map tbA)[3+i - 3]? =_;rw [show 3+i - 3=i by omega,List.getElem?_map,List.getElem?_eq_getElem hi];rfl) h1;exact ⟨g,h2⟩
 have hqn:q.ts.length=ms.length:=by rw [hq.tlen,hms.len]
 have HQN:=Lib.hid hqn;have HQ:=Lib.hid hq;have HMS:=Lib.hid hms;have HX:=Lib.hid hx;have HLEN:=Lib.hid hlen;obtain ⟨n,hn⟩:∃n,ms.length=n:=⟨_,rfl⟩
 have HN:=Lib.hid hn;have hn63:n<=9223372036854775807:=by have:=(hx.at (M:=[_]) hS).sl.1;unfold maxLen at this;omega
 rw [hn] at HX HQN ⊢;clear hS hs hA hq hms hx hlen hqn hn HAP;go_enter Tryz.func15,Tryz.ntmps15;go_upto_region 2 with (fail)
 go_loopg [8] n (λ g z wr=> ∃k:Nat,z=.int .i64 k/\g+k=n/\Hid (St w0 fp0 (A::R) wr))
 case atStart=> exact ⟨0,rfl,rfl,HS0⟩
 case round=>
  clear HS0;obtain ⟨k,rfl,hgk,Hs⟩:=hrel;by_cases hk:k < n
  · have hkm:k < ms.length:=by rw [HN.out];exact hk
    have hkt:k < q.ts.length:=by rw [HQN.out];exact hk
    have hkn:(k:Int) < n:=by omega
    have hxr:=HX.out.at (M:=[_]) Hs.out;obtain ⟨mb,mo,mc',e1,mbl,p0,p1,p2⟩:=hxr.cells k hkm;rw [HN.out] at e1;obtain ⟨rfl, -,rfl⟩:=Value.slice.inj e1;have hat:(ms[k].cols,riL ms[k].l,ms[k].next)=(q.ts[k].cols,q.ts[k].L,q.ts[k].next):=by have h1:=HMS.out.at k hkm;have h2:=HQ.out.at k hkt;rw [h1] at h2;exact Option.some.inj h2
    injection hat with e1 e2;injection e2 with e2 e3;have hcell:∀M w,St w0 fp0 (M++R) w->w.cell? ⟨mb,mo+k * 3+1,none⟩=some ms[k].lv/\w.cell? ⟨mb,mo+k * 3+2,none⟩=some (.int .i64 ms[k].next):=λ M w h=> by obtain ⟨b',o',c',e1, -,q0,q1,q2⟩:=(HX.out M w h).cells k hkm;rw [HN.out] at e1;obtain ⟨e1, -, -⟩:=Value.slice.inj e1;injection e1 with e1;injection e1 with e1 e2;subst e1 e2;exact ⟨q1,q2⟩
    have hll:ms[k].l.length < 1000000:=by have:=HLEN.out _ (List.mem_of_getElem? (HMS.out.at k hkm));rw [riL_len] at this;exact this
    have Hgk:=Lib.hid hgk;go_upto_region 4 with (fail)
    refine rSma4 (w0:=w0) (fp0:=fp0) (R:=R) b n mb mo mc k ms[k].lv (ptrV q.ts[k].S) ms[k].next A hk (λ M w h=> (hcell M w h).1) (λ M w h=> (hcell M w h).2) ?_ ?_ ?_ rfl (by kernel_rfl) rfl rfl rfl rfl rfl Hs.out ?_
    · intro w' h'
      refine (rows_calls b q D HQ.out k hkt ms[k].l ms[k].lv e2 hll w0 w' fp0 R (HX.out.imp λ w h=> h.ri _ (List.getElem_mem hkm)) ((HOP.out _).1 h')).mono ?_;rintro e w2 ⟨rfl,h2⟩;exact ⟨rfl,(HOP.out _).2 h2⟩
    · intro w' f h'
      obtain ⟨h1,h2⟩:=HTB.out w' f h';refine (table_in b k _ q.tv (ptrV q.ts[k].S) w' h1 h2 (by rw [List.getElem?_map,List.getElem?_eq_getElem hkt];rfl)).mono ?_;rintro e w2 ⟨rfl,rfl⟩;exact ⟨rfl,Below.refl _ _⟩
    · intro w' f h'
      obtain ⟨g,h1⟩:=HNX.out w' f h' k hkt;refine (Next_calls h1).mono ?_;rintro e w2 ⟨rfl,rfl⟩;exact ⟨by rw [e3],Below.refl _ _⟩
    intro w1 h1;have H1:Hid (St w0 fp0 (A::R) w1):=h1;clear h1 hcell hll e2 e3 e1 hxr p0 p1 p2 mbl hgk;simp only [putL,List.foldl,Act.put,List.setIfInBounds_toArray,List.set_cons_succ,List.set_cons_zero];go_wp2;go_roundg (gk - 1)
    case rel=> exact ⟨k+1,by go_num,by have:=Hgk.out;omega,H1⟩
    case measure=> have:=Hgk.out;omega
  · obtain rfl:k=n:=by omega
    obtain ⟨f,hf⟩:=Hs.out.has 0 rfl;obtain ⟨h1, -⟩:=HTB.out _ f hf;unfold StQ.tv at h1;have HT1:=Lib.hid (table_out b _ q.tc q.ta (-1) wr h1 (by omega));have HT2:=Lib.hid (table_out b _ q.tc q.ta k wr h1 (by rw [HQN.out];omega));have HF:=Lib.hid (HEND.out _ Hs.out);clear h1 hf Hs hgk hk;go_wp2_with fail;(with_reducible refine HT1.out.mono ?_);rintro e w1 ⟨rfl,rfl⟩;clear HT1;go_wp2_with fail;(with_reducible refine HT2.out.mono ?_);rintro e w1 ⟨rfl,rfl⟩;clear HT2;go_wp2;go_ret;exact ⟨rfl,HF.out⟩
theorem newD_max (td:List Td):∀t∈newD td,t.2.1.length<=0:=by
 intro t ht;obtain ⟨u, -,rfl⟩:=List.mem_map.1 ht;exact Nat.le_refl _
def wrA (b:Nat) (xs:List UInt8):Asn:=exA λ v=> starA [blkA b 116 #[v],slA 5 v (xs.map u8C)]
def gWn0 (b:Nat) (n:Int) (v:Value) (xs:List UInt8):=rgx Tryz.prog Tryz.f55 0 14 [4,5,6,7,8,9,10,11,12,13] [(0,pV b 0),(1, .int .i64 n)] (Vq 0 4 [Kp b 0,Kp b 0,Kp b 0,Kp b 0,Kv v,Kv (.int .i64 n),Kv (.string (textOf (numL n))),Vf.slice,Kp b 0,Kp b 0]) [.blk b (116) [⟨v,[(10, .s 11)]⟩], .gen [7] [11] λ L g=> match L 7 with | true=> slA 5 (g 11) (xs.map u8C++(bytes (textOf (numL n))).map u8C) | false=> slA 5 (v) (xs.map u8C)]
theorem rWn0 (b:Nat) (n:Int) (v:Value) (xs:List UInt8) (w0:World) (fp0:List Nat) (R:List Asn) (hl:xs.length+8 < 1099511627776) (hnum:∀L w,St w0 fp0 (L++R) w->Calls Tryz.prog 86 #[.int .i64 n] w λ e w'=> e=.returned (.string (textOf (numL n)))/\Below w.heap.size w w') {w:World} {c:Code} {a:Act} {Q:Exit->Act->World->Prop} (c1:isReg c=true) (c2:cops c=opsR Tryz.f55 0) (c3:a.tmps.size=14) (_c4:a.defers=a.defers) (i0:a.eval (.tmp 0)=.pointer (some ⟨b,0,none⟩)) (i1:a.eval (.tmp 1)=.int .i64 n)
 (hS:St w0 fp0 ([blkA b (116) #[v],slA 5 (v) (xs.map u8C)]++R) w)
 (hQ:∀(u11:Value) (w1:World),(∃a n c,u11=.slice a n c)->St w0 fp0 ([blkA b (116) #[u11],slA 5 (u11) (xs.map u8C++(bytes (textOf (numL n))).map u8C)]++R) w1->Q .normal (putL a [(4, .pointer (some ⟨b,0,none⟩)),(5, .pointer (some ⟨b,0,none⟩)),(6, .pointer (some ⟨b,0,none⟩)),(7, .pointer (some ⟨b,0,none⟩)),(8,v),(9, .int .i64 n),(10, .string (textOf (numL n))),(11,u11),(12, .pointer (some ⟨b,0,none⟩)),(13, .pointer (some ⟨b,0,none⟩))]) w1):c.wp Tryz.prog Q a w:=by
 have ok:(gWn0 b n v xs w0 fp0 R).Ok 11:=Rg.ok _ 11 [4,6,7,10] ⟨.load _ 4 0 0, .askR _ 6 hnum, .appG _ 7 (λ _=> [blkA b 116 #[v],slA 5 (v) (xs.map u8C)]) (λ _ u=> [blkA b 116 #[v],slA 5 (u) (xs.map u8C++(bytes (textOf (numL n))).map u8C)]) (λ ty g w h=> (by obtain ⟨u,w2,h1,h2⟩:=appT1 appBT (by kernel_rfl) ty (textOf (numL n)) (by rw [num_size,List.length_map];omega) (h.perm (List.Perm.swap _ _ _));obtain ⟨_,hr⟩:=h2.has 0 rfl;obtain ⟨a,m,c,rfl⟩:=sl_shape hr;exact ⟨_,w2,h1,kr (by kernel_rfl),h2.perm (List.Perm.swap _ _ _)⟩)), .store _ 10 0 0,trivial⟩;refine wp_regD ok (by kernel_rfl) ⟨c1,c2⟩ ⟨c3,λ p hp=> ?_⟩ hS λ A1 w1 N1 H1=> ?_
 · simp only [gWn0,rgx,List.map_nil,List.append_nil,List.mem_cons,List.not_mem_nil,or_false] at hp
   rcases hp with rfl | rfl
   · exact i0
   · exact i1
 exact N1.fin [11] (hQ (slots A1 11) w1 ⟨_,_,_,(N1.val 7 rfl)⟩ H1) (by kernel_rfl)
theorem St.wr {w0 w:World} {fp0:List Nat} {R:List Asn} {b:Nat} {xs:List UInt8}:St w0 fp0 (wrA b xs::R) w↔∃v,St w0 fp0 (blkA b 116 #[v]::slA 5 v (xs.map u8C)::R) w:=by
 constructor
 · intro h
   obtain ⟨v,h1⟩:=St.exE h;exact ⟨v,St.star.1 h1⟩
 · rintro ⟨v,h⟩
   have h1:St w0 fp0 (starA [blkA b 116 #[v],slA 5 v (xs.map u8C)]::R) w:=St.star.2 h;exact St.exI (F:=λ v=> starA [blkA b 116 #[v],slA 5 v (xs.map u8C)]) v h1
theorem wNumber_calls (b:Nat) (xs:List UInt8) (n:Int) (hn:I64 n) (hl:xs.length+8 < 1099511627776) (w0 w:World) (fp0:List Nat) (R:List Asn) (hS:St w0 fp0 (wrA b xs::R) w):
 Calls Tryz.prog 55 #[.pointer (some ⟨b,0,none⟩), .int .i64 n] w λ e w'=> e=.returned (.tuple #[])/\St w0 fp0 (wrA b (xs++numL n)::R) w':=by
 obtain ⟨v,h⟩:=St.wr.1 hS;have HS:=Lib.hid h;have HN:=Lib.hid hn;have HL:=Lib.hid hl;clear hS h hn hl;go_enter Tryz.func55,Tryz.ntmps55;go_upto_region 0 with (fail)
 refine rWn0 (w0:=w0) (fp0:=fp0) (R:=R) b n v xs HL.out (λ L w h=> number_calls n HN.out w) rfl (by kernel_rfl) rfl rfl rfl rfl HS.out ?_;intro u11 w1 ⟨a,m,c,e11⟩ h1;subst e11;have HF:Hid (St w0 fp0 (wrA b (xs++numL n)::R) w1):=by refine St.wr.2 ⟨.slice a m c,?_⟩;rw [List.map_append];have h2:St w0 fp0 (blkA b 116 #[.slice a m c]::slA 5 (.slice a m c) (xs.map u8C++(bytes (textOf (numL n))).map u8C)::R) w1:=h1;rw [bytes_textOf] at h2;exact h2
 clear h1;simp only [putL,List.foldl,Act.put,List.setIfInBounds_toArray,List.set_cons_succ,List.set_cons_zero];go_end0;exact ⟨rfl,HF.out⟩
def numT (n:Int) (k:Nat):List UInt8:=(List.range 8).map λ j=> if 8 - k<=j then numB n j else 0
theorem numT_next (n:Int) (k:Nat) (hk:k < 8):(numT n k).set (7 - k) (numB n (7 - k))=numT n (k+1):=by
 match k,hk with
 | 0,_=> rfl
 | 1,_=> rfl
 | 2,_=> rfl
 | 3,_=> rfl
 | 4,_=> rfl
 | 5,_=> rfl
 | 6,_=> rfl
 | 7,_=> rfl
theorem numB_of (n:Int) (k:Nat) (hk:k < 8):(numB n (7 - k)).toNat=uN n / 256 ^ k % 256:=by
 have h:uN n / 2 ^ (56 - 8 * (7 - k)) % 256 < 256:=Nat.mod_lt _ (by decide);rw [numB,UInt8.toNat_ofNat_of_lt' h,show 56 - 8 * (7 - k)=8 * k by omega,Nat.pow_mul]
theorem rnumber05_calls (n:Int) (hn:I64 n) (w:World):Calls Tryz.prog 76 #[.int .i64 n] w λ e w'=> ∃c,e=.returned (.slice (some ⟨c,0,none⟩) 8 8)/\St w [] [slA 5 (.slice (some ⟨c,0,none⟩) 8 8) ((numL n).map u8C)] w':=by
 have HX:=Lib.hid (xor_num hn);have HU:=Lib.hid (uN_lt hn);have HB8:=Lib.hid (λ k hk=> numB_of n k hk);clear hn;go_enter Tryz.func76,Tryz.ntmps76;have hx:=HX.out;have hmk:∀w,Sem.run Tryz.prog (Instr.makeSlice 52 (.int .i64 8) (.int .i64 8)) w=.ok (.slice (some ⟨w.heap.size,0,none⟩) 8 8) (w.alloc (.cells #[.int .u8 0, .int .u8 0, .int .u8 0, .int .u8 0, .int .u8 0, .int .u8 0, .int .u8 0, .int .u8 0] 5)):=λ w=> by kernel_rfl
 go_upto_region 4 with (fail)
 have HS0:Hid (St w [] (slA 5 (.slice (some ⟨w.heap.size,0,none⟩) 8 8) ((numT n 0).map u8C)::[]) (w.alloc (.cells #[.int .u8 0, .int .u8 0, .int .u8 0, .int .u8 0, .int .u8 0, .int .u8 0, .int .u8 0, .int .u8 0] 5))):=by refine St.addF (f:=[w.heap.size]) (St.start (w:=w) (L:=[]) (fp:=[]) rfl) ?_ ((Below.refl _ _).alloc (Nat.le_refl _) _) (λ k hk=> by rw [List.mem_singleton.1 hk];exact Nat.le_refl _);have h:=World.ownsRow_lit (base:=0) (e:=5) (size:=1) w #[.int .u8 0, .int .u8 0, .int .u8 0, .int .u8 0, .int .u8 0, .int .u8 0, .int .u8 0, .int .u8 0] 8 (Nat.zero_le _) (by decide) rfl;exact ⟨h,rfl⟩
 clear hx hmk HX;obtain ⟨u,hu⟩:∃u,uN n=u:=⟨_,rfl⟩
 have h0:(u:Int)=((u / 256 ^ 0:Nat):Int):=by simp
 rw [hu] at HU HB8 ⊢;generalize hW:w.alloc _=W at *;clear hW hu;obtain ⟨g,hg⟩:∃g,w.heap.size=g:=⟨_,rfl⟩
 rw [hg] at HS0 ⊢;clear hg;rw [h0];clear h0;go_loopg [3,5] 8 (λ gm z3 z5 wr=> ∃k:Nat,z5=.int .i64 (7 - (k:Int))/\z3=.int .u64 ((u / 256 ^ k:Nat):Int)/\gm+k=8/\Hid (St w [] (slA 5 (.slice (some ⟨g,0,none⟩) 8 8) ((numT n k).map u8C)::[]) wr))
 case atStart=> exact ⟨0,rfl,rfl,rfl,HS0⟩
 case round=>
  clear HS0;obtain ⟨k,rfl,rfl,hgk,Hs⟩:=hrel;by_cases hk:k < 8
  · have hk':(0:Int)<=7 - (k:Int):=by omega
    obtain ⟨j,hj⟩:∃j:Nat,7 - k=j:=⟨_,rfl⟩
    have hji:(7 - (k:Int))=(j:Int):=by omega
    have hj8:j < 8:=by omega
    obtain ⟨_,hrow⟩:=Hs.out.has 0 rfl;obtain ⟨hc,hf,hl⟩:=row_at (i:=j) (u:=u8C ((numT n k)[j]'(by simp [numT];omega))) (show (rowA 5 1 (.slice (some ⟨g,0,none⟩) 8 8) 8 ((numT n k).map u8C)).p wr _ from hrow) (by simp [numT]) (by rw [List.getElem?_map,List.getElem?_eq_getElem];rfl);have Hgk:=Lib.hid hgk;have HJ:=Lib.hid hj;rw [hji];have hm:(u / 256 ^ k % 256:Nat) < 256:=Nat.mod_lt _ (by decide);have hkb:(((u / 256 ^ k % 256:Nat):Int))=((numB n j).toNat:Int):=by rw [<-hj,HB8.out k hk]
    have hq:(((u / 256 ^ k:Nat):Int)) / 256=((u / 256 ^ (k+1):Nat):Int):=by rw [Nat.pow_succ,<-Nat.div_div_eq_div_mul];rfl
    have hq2:(((u / 256 ^ k:Nat):Int)) % 256=((numB n j).toNat:Int):=by rw [<-hkb];rfl
    have HQ:=Lib.hid hq;have HQ2:=Lib.hid hq2;have hv:u / 256 ^ k < 18446744073709551616:=Nat.lt_of_le_of_lt (Nat.div_le_self _ _) HU.out;generalize u / 256 ^ k=v at *;clear hgk hj hji hrow hm hkb hq hq2;have HN:Hid (St w [] (slA 5 (.slice (some ⟨g,0,none⟩) 8 8) ((numT n (k+1)).map u8C)::[]) (wr.setCell ⟨g,j,none⟩ (.int .u8 ((v:Int) % 256)))):=by
     show St _ _ _ _;rw [HQ2.out,<-numT_next n k hk,List.map_set];have h:=Hs.out;have h2:St w [] (rowA 5 1 (.slice (some ⟨g,0,none⟩) 8 8) ((numT n k).map u8C).length ((numT n k).map u8C)::[]) wr:=h;have e8:((numT n k).map u8C).length=8:=by simp [numT]
     rw [e8] at h2;have h3:=h2.setR j (u8C (numB n j));have h4:St w [] (rowA 5 1 (.slice (some ⟨g,0,none⟩) 8 8) (((numT n k).map u8C).set j (u8C (numB n j))).length (((numT n k).map u8C).set j (u8C (numB n j)))::[]) (wr.setCell ⟨g,j,none⟩ (u8C (numB n j))):=by rw [List.length_set,e8];exact h3
     rw [HJ.out];exact h4
    clear Hs;go_wp2;go_roundg (gk - 1)
    case rel=> exact ⟨k+1,by have:=HJ.out;congr 1;omega,by rw [HQ.out],by have:=Hgk.out;omega,HN⟩
    case measure=> have:=Hgk.out;omega
  · obtain rfl:k=8:=by omega
    have HF:Hid (St w [] [slA 5 (.slice (some ⟨g,0,none⟩) 8 8) ((numL n).map u8C)] wr):=Hs.out;have hneg:(7 - ((8:Nat):Int))= -1:=by omega
    rw [hneg];clear Hs hgk hk;go_wp2;go_ret;exact ⟨g,rfl,HF.out⟩
theorem RNumber_calls (n:Int) (hn:I64 n) (w:World):Calls Tryz.prog 42 #[.int .i64 n] w λ e w'=> e=.returned (.string (textOf (numL n)))/\Below w.heap.size w w':=by
 have HC:=Lib.hid (rnumber05_calls n hn w);clear hn;go_enter Tryz.func42,Tryz.ntmps42;go_wp2_with fail;(with_reducible refine HC.out.mono ?_);rintro e w1 ⟨c,rfl,h1⟩;have hcv:(convert 52 9 (.slice (some ⟨c,0,none⟩) 8 8)).run Tryz.prog w1=.ok (.string (textOf (numL n))) w1:=by obtain ⟨_,hr⟩:=h1.has 0 rfl;exact run_back hr
 have HB:=Lib.hid h1.below0;clear HC h1;go_wp2;go_ret;exact ⟨rfl,HB.out⟩
end
end Go.Proofs.YtpdlkdoogojboaaGreat
