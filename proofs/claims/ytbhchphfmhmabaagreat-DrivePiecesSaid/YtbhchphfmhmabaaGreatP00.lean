set_option linter.unusedVariables false
namespace Go.Proofs.YtbhchphfmhmabaaGreat
theorem oo{p:Prop}(h:p:=by omega):p:=h
theorem od{p:Prop}(h:p:=by decide):p:=h
theorem bD{p:Prop}(h:p:=by decide +kernel):p:=h
theorem aE{p:Prop}(h:p:=by simp):p:=h
theorem oa{p:Prop}(h:p:=by assumption):p:=h
